/- Contract of alternative. -/
import Derived.Test.YtpaepefpfaoacaaSpJ
import Derived.Test.YtpaepefpfaoacaaSymD
namespace Go.Proofs.Ytpaepefpfaoacaa
open Go.ChangeShapes Go.WideShapes Go.ChangeAt Go.RowKit
set_option linter.unusedVariables false
set_option linter.unusedSimpArgs false

/-- The alternative's picture, if it has one at the unit's frame: the item's number, and what lies at the distance. -/
def altAt (r : Int) (st : List AstA) (u : UnitA) : Option (P5 × Nat) :=
  match itemP r u.al with
  | none => none
  | some it =>
    if u.frame < u.os ∨ u.of ≤ 0 then none else
    match findA it st with
    | none => none
    | some a =>
      if u.of ≤ u.frame - u.os ∨ (a.pics.length : Int) ≤ u.frame - u.os then none else
      some (⟨it, u.frame - u.os, (a.pics.getD (u.frame - u.os).toNat picZ).data.size, (a.pics.getD (u.frame - u.os).toNat picZ).key, true⟩, a.pics.length)
/-- Whether the alternative's picture is to be shown. -/
def altOk (st : List AstA) (s : Sp) (u : UnitA) (p : P5) (n : Nat) : Bool :=
  mayP st s p [.cont] || (p.index == 0 && (decide (u.of ≤ n) && (mayP st s p [.ent] && (s.noted.any (Note.known u.frame) || s.last.alt))))
def altP (k : SpK) (s : Sp) (u : UnitA) : Option P5 :=
  match altAt k.region k.store u with
  | none => none
  | some (p, n) => if altOk k.store s u p n = true then some p else none
abbrev p5V (r : Option P5) : Value := .tuple #[(r.getD p5Z).val, .bool r.isSome]
theorem altP_no (k : SpK) (s : Sp) (u : UnitA) {J : Option Int} {jt : Int} {F : Option AstA} {fa : AstA} (hJ : itemP k.region u.al = J) (hjt : J.getD 0 = jt) (hF : findA jt k.store = F) (hfa : F.getD astZ = fa)
    (h : J.isSome = false ∨ u.os > u.frame ∨ u.of ≤ 0 ∨ F.isSome = false ∨ u.frame - u.os ≥ u.of ∨ u.frame - u.os ≥ ((fa.pics.length : Nat) : Int)) : altP k s u = none := by
  unfold altP altAt
  rw [hJ]
  cases J with
  | none => rfl
  | some j =>
    simp only [Option.getD_some] at hjt
    subst hjt
    simp only [hF]
    by_cases h1 : u.frame < u.os ∨ u.of ≤ 0
    · rw [if_pos h1]
    · rw [if_neg h1]
      cases F with
      | none => rfl
      | some x =>
        simp only [Option.getD_some] at hfa
        subst hfa
        simp only
        rw [if_pos (by simp at h; omega)]
theorem altP_yes (k : SpK) (s : Sp) (u : UnitA) {J : Option Int} {jt : Int} {F : Option AstA} {fa : AstA} {PX : PicA} (hJ : itemP k.region u.al = J) (hjt : J.getD 0 = jt) (hF : findA jt k.store = F) (hfa : F.getD astZ = fa) (hPX : fa.pics.getD (u.frame - u.os).toNat picZ = PX)
    (h1 : J.isSome = true) (h2 : ¬ u.frame < u.os) (h3 : ¬ u.of ≤ 0) (h4 : F.isSome = true) (h5 : ¬ u.of ≤ u.frame - u.os) (h6 : ¬ ((fa.pics.length : Nat) : Int) ≤ u.frame - u.os) :
    altP k s u = if altOk k.store s u ⟨jt, u.frame - u.os, PX.data.size, PX.key, true⟩ fa.pics.length = true then some ⟨jt, u.frame - u.os, PX.data.size, PX.key, true⟩ else none := by
  unfold altP altAt
  rw [hJ]
  cases J with
  | none => cases h1
  | some j =>
    simp only [Option.getD_some] at hjt
    subst hjt
    simp only [hF]
    rw [if_neg (by omega)]
    cases F with
    | none => cases h4
    | some x =>
      simp only [Option.getD_some] at hfa
      subst hfa
      simp only
      rw [if_neg (by omega), hPX]
set_option maxRecDepth 100000 in
set_option maxHeartbeats 20000000 in
theorem alt_any (b : Nat) (k : SpK) (s : Sp) (u : UnitA) (w : World) (h : SpOk w b k s) (hu : u.ok w) (h1 : -9223372036854775808 ≤ s.last.index) (hnf : ∀ n ∈ s.noted, -9223372036854775808 ≤ n.frame) :
    Calls Try.prog 30 #[.pointer (some ⟨b, 0, none⟩), u.val] w fun e w' => e = .returned (p5V (altP k s u)) ∧ Below w.heap.size w w' := by
  have HS := h
  obtain ⟨⟨NA, nc, hx, hno, hoff⟩, hst, _, _, hm, hp, hn1⟩ := h
  have c8 : w.cell? ⟨b, 8, none⟩ = some (.int .i64 k.region) := hx.cell (i := 8) rfl
  have c9 : w.cell? ⟨b, 9, none⟩ = some (.slice k.SA k.store.length k.sc) := hx.cell (i := 9) rfl
  have c10 : w.cell? ⟨b, 10, none⟩ = some (.slice NA s.noted.length nc) := hx.cell (i := 10) rfl
  have c5 : w.cell? ⟨b, 5, none⟩ = some (.bool s.last.alt) := hx.cell (i := 5) rfl
  obtain ⟨ch, fr, ve, it, ix, ky, da, re, ga, ca, os, oF, A, c, al⟩ := u
  obtain ⟨hal, hall, ⟨u1, u2⟩, _, ⟨u3, u4⟩, u5, u6⟩ := hu
  simp only at hal hall u1 u2 u3 u4 u5 u6
  have CI := fun w h => item_any os oF A al.length c al k.region w h hall
  obtain ⟨J, hJ⟩ : ∃ J, itemP k.region al = J := ⟨_, rfl⟩
  obtain ⟨jt, hjt⟩ : ∃ jt, J.getD 0 = jt := ⟨_, rfl⟩
  obtain ⟨F, hF⟩ : ∃ F, findA jt k.store = F := ⟨_, rfl⟩
  obtain ⟨fa, hfa⟩ : ∃ fa, F.getD astZ = fa := ⟨_, rfl⟩
  obtain ⟨PX, hPX⟩ : ∃ PX, fa.pics.getD (fr - os).toNat picZ = PX := ⟨_, rfl⟩
  have CF := fun w h => mfind_any k.SA k.store.length k.sc k.store jt w h hm hp
  have hpl : fa.pics.length ≤ 2000000 := by
    rw [← hfa]
    cases hf : F with
    | none => simp [astZ]
    | some x => rw [hf] at hF; exact hp x (findA_mem hF).1
  unfold RetFind at CF
  rw [hJ, hjt] at CI
  rw [hF, hfa] at CF
  have HP := Hp.start w
  refine w_enter 137 [(0, (.pointer (some ⟨b, 0, none⟩))), (1, (.agg #[(.int .i64 ch), (.int .i64 fr), (.int .i64 ve), (.int .i64 it), (.int .i64 ix), (.bool ky), (.string da), (.int .i64 re), (.int .i64 ga), (.string ca), (.int .i64 os), (.int .i64 oF), (.slice A al.length c)]))] Try.func30 rfl Try.ntmps30 (by kernel_rfl) (by kernel_rfl) ?_
  intro a H
  refine wp_seq ?_
  refine w_region ?_
  refine H.alloc HP 3 (fun b => (.pointer (some ⟨b, 0, none⟩))) 46 [(.int .i64 ch), (.int .i64 fr), (.int .i64 ve), (.int .i64 it), (.int .i64 ix), (.bool ky), (.string da), (.int .i64 re), (.int .i64 ga), (.string ca), (.int .i64 os), (.int .i64 oF), (.slice A al.length c)] (by kernel_rfl) (fun w => by kernel_rfl) ?_
  intro b1 w2 a H HP
  refine H.alloc HP 4 (fun b => (.pointer (some ⟨b, 0, none⟩))) 71 [(.int .i64 0), (.int .i64 0), (.int .i64 0), (.bool false), (.bool false)] (by kernel_rfl) (fun w => by kernel_rfl) ?_
  intro b3 w4 a H HP
  refine H.val 5 (.bool false) (by kernel_rfl) (by kernel_rfl) ?_
  intro a H
  refine wpList_nil ?_
  refine then_normal ?_
  refine wp_seq ?_
  refine An.start (fun v => Hp w v [bx b3 71 [(.int .i64 0), (.int .i64 0), (.int .i64 0), (.bool false), (.bool false)] true, bx b1 46 [(.int .i64 ch), (.int .i64 fr), (.int .i64 ve), (.int .i64 it), (.int .i64 ix), (.bool ky), (.string da), (.int .i64 re), (.int .i64 ga), (.string ca), (.int .i64 os), (.int .i64 oF), (.slice A al.length c)] true] []) 12 12 HP wide_follows rfl ?_
  intro w5 HP
  refine An.pure H (.inr (HP)) 0 14 (.pointer (some ⟨b1, 10, none⟩)) rfl (by kernel_rfl) (by kernel_rfl) (fun _ _ _ h => h) (fun _ => by kernel_rfl) ?_
  intro a H
  refine An.val H (HP) 1 15 (.agg #[(.int .i64 os), (.int .i64 oF), (.slice A al.length c)]) rfl (by kernel_rfl) (by kernel_rfl) (fun _ _ _ h => h) (fun _ hS => ex_loadN (vs := [(.int .i64 os), (.int .i64 oF), (.slice A al.length c)]) (by kernel_rfl) (by kernel_rfl) (by kernel_rfl) rfl (hS.cells 1 rfl 10 3 (by kernel_rfl))) ?_
  intro a H
  refine An.pure H (.inr (HP)) 2 16 (.pointer (some ⟨b, 0, none⟩)) rfl (by kernel_rfl) (by kernel_rfl) (fun _ _ _ h => h) (fun _ => by kernel_rfl) ?_
  intro a H
  refine An.pure H (.inr (HP)) 3 17 (.pointer (some ⟨b, 0, none⟩)) rfl (by kernel_rfl) (by kernel_rfl) (fun _ _ _ h => h) (fun _ => by kernel_rfl) ?_
  intro a H
  refine An.pure H (.inr (HP)) 4 18 (.pointer (some ⟨b, 8, none⟩)) rfl (by kernel_rfl) (by kernel_rfl) (fun _ _ _ h => h) (fun _ => by kernel_rfl) ?_
  intro a H
  refine An.val H (HP) 5 19 (.int .i64 k.region) rfl (by kernel_rfl) (by kernel_rfl) (fun _ _ _ h => h) (fun _ hS => ex_load1 (by kernel_rfl) (by kernel_rfl) (hS.oldc (by kernel_rfl) c8)) ?_
  intro a H
  refine An.one 6 (by kernel_rfl) ?_
  refine Op.call H 20 rfl (by kernel_rfl) (Eq.trans (by kernel_rfl : _ = (callFunc 36 #[(.agg #[(.int .i64 os), (.int .i64 oF), (.slice A al.length c)]), (.int .i64 k.region)]).run Try.prog w5) (Try.call36 _ _)) (CI w5 (hal.below (HP.below (by kernel_rfl)))) ?_
  rintro e w6 ⟨rfl, hb⟩
  refine ⟨_, rfl, ?_⟩
  intro a H
  have HP := HP.next hb
  refine ⟨.inr (HP), ?_⟩
  refine An.pure H (.inr (HP)) 7 13 (.tuple #[(.int .i64 jt), (.bool J.isSome)]) rfl (by kernel_rfl) (by kernel_rfl) (fun _ _ _ h => h) (fun _ => by kernel_rfl) ?_
  intro a H
  refine An.pure H (.inr (HP)) 8 21 (.int .i64 jt) rfl (by kernel_rfl) (by kernel_rfl) (fun _ _ _ h => h) (fun _ => by kernel_rfl) ?_
  intro a H
  refine An.pure H (.inr (HP)) 9 22 (.bool J.isSome) rfl (by kernel_rfl) (by kernel_rfl) (fun _ _ _ h => h) (fun _ => by kernel_rfl) ?_
  intro a H
  refine An.pure H (.inr (HP)) 10 6 (.int .i64 jt) rfl (by kernel_rfl) (by kernel_rfl) (fun _ _ _ h => h) (fun _ => by kernel_rfl) ?_
  intro a H
  refine An.pure H (.inr (HP)) 11 7 (.bool J.isSome) rfl (by kernel_rfl) (by kernel_rfl) (fun _ _ _ h => h) (fun _ => by kernel_rfl) ?_
  intro a H
  refine An.done (by kernel_rfl) ?_
  have H := H.keep (L' := [(7, (.bool J.isSome)), (6, (.int .i64 jt)), (5, (.bool false)), (4, (.pointer (some ⟨b3, 0, none⟩))), (3, (.pointer (some ⟨b1, 0, none⟩))), (0, (.pointer (some ⟨b, 0, none⟩))), (1, (.agg #[(.int .i64 ch), (.int .i64 fr), (.int .i64 ve), (.int .i64 it), (.int .i64 ix), (.bool ky), (.string da), (.int .i64 re), (.int .i64 ga), (.string ca), (.int .i64 os), (.int .i64 oF), (.slice A al.length c)]))]) (by kernel_rfl)
  refine then_normal ?_
  refine wp_seq ?_
  refine wp_seq ?_
  refine w_region ?_
  refine H.val 23 (.bool J.isSome) (by kernel_rfl) (by kernel_rfl) ?_
  intro a H
  refine H.val 24 (.bool (!J.isSome)) (by kernel_rfl) (by kernel_rfl) ?_
  intro a H
  refine H.val 25 (.bool (!J.isSome)) (by kernel_rfl) (by kernel_rfl) ?_
  intro a H
  refine H.split 25 rfl (fun g25 H => ?_) (fun g25 H => ?_)
  · have g25p := not_is_true g25
    refine H.skip 26 (by kernel_rfl) ?_
    intro a H
    refine H.skip 27 (by kernel_rfl) ?_
    intro a H
    refine H.skip 28 (by kernel_rfl) ?_
    intro a H
    refine H.skip 29 (by kernel_rfl) ?_
    intro a H
    refine H.skip 30 (by kernel_rfl) ?_
    intro a H
    refine H.skip 31 (by kernel_rfl) ?_
    intro a H
    refine H.val 32 (.bool true) (by kernel_rfl) (by kernel_rfl) ?_
    intro a H
    refine H.val 33 (.bool true) (by kernel_rfl) (by kernel_rfl) ?_
    intro a H
    refine H.skip 34 (by kernel_rfl) ?_
    intro a H
    refine H.skip 35 (by kernel_rfl) ?_
    intro a H
    refine H.skip 36 (by kernel_rfl) ?_
    intro a H
    refine H.skip 37 (by kernel_rfl) ?_
    intro a H
    refine H.val 38 (.bool true) (by kernel_rfl) (by kernel_rfl) ?_
    intro a H
    refine wpList_nil ?_
    have H := H.keep (L' := [(38, (.bool true)), (7, (.bool J.isSome)), (6, (.int .i64 jt)), (5, (.bool false)), (4, (.pointer (some ⟨b3, 0, none⟩))), (3, (.pointer (some ⟨b1, 0, none⟩))), (0, (.pointer (some ⟨b, 0, none⟩))), (1, (.agg #[(.int .i64 ch), (.int .i64 fr), (.int .i64 ve), (.int .i64 it), (.int .i64 ix), (.bool ky), (.string da), (.int .i64 re), (.int .i64 ga), (.string ca), (.int .i64 os), (.int .i64 oF), (.slice A al.length c)]))]) (by kernel_rfl)
    refine then_normal ?_
    refine w_ift H rfl ?_
    refine wp_seq ?_
    refine w_region ?_
    refine H.val 39 (.agg #[(.int .i64 0), (.int .i64 0), (.int .i64 0), (.bool false), (.bool false)]) (by kernel_rfl) (by kernel_rfl) ?_
    intro a H
    refine H.store HP 0 b3 0 5 71 [(.int .i64 0), (.int .i64 0), (.int .i64 0), (.bool false), (.bool false)] true (.agg #[(.int .i64 0), (.int .i64 0), (.int .i64 0), (.bool false), (.bool false)]) [bx b3 71 [(.int .i64 0), (.int .i64 0), (.int .i64 0), (.bool false), (.bool false)] true, bx b1 46 [(.int .i64 ch), (.int .i64 fr), (.int .i64 ve), (.int .i64 it), (.int .i64 ix), (.bool ky), (.string da), (.int .i64 re), (.int .i64 ga), (.string ca), (.int .i64 os), (.int .i64 oF), (.slice A al.length c)] true] (by kernel_rfl) (by kernel_rfl) (by kernel_rfl) rfl (by kernel_rfl) (by kernel_rfl) (by kernel_rfl) (by kernel_rfl) (by kernel_rfl) ?_
    intro w7 a H HP
    refine H.val 5 (.bool false) (by kernel_rfl) (by kernel_rfl) ?_
    intro a H
    refine wpList_nil ?_
    refine then_normal ?_
    refine wp_ret ?_
    refine then_ret ?_
    refine H.ret2 (fn := Try.f30) Try.results30 (RV.cellN (vs := [(.int .i64 0), (.int .i64 0), (.int .i64 0), (.bool false), (.bool false)]) (b := b3) (off := 0) (k := 5) (by kernel_rfl) (by kernel_rfl) (by kernel_rfl) rfl (HP.cells 0 rfl 0 5 (by kernel_rfl))) (RV.tmp_ (v := (.bool false)) (by kernel_rfl)) ?_
    refine ⟨?_, (HP.below (by kernel_rfl))⟩
    rw [altP_no k s ⟨ch, fr, ve, it, ix, ky, da, re, ga, ca, os, oF, A, c, al⟩ hJ hjt hF hfa (.inl g25p)]
    rfl
  · have g25p := not_is_false g25
    refine H.val 26 (.pointer (some ⟨b1, 10, none⟩)) (by kernel_rfl) (by kernel_rfl) ?_
    intro a H
    refine H.val 27 (.pointer (some ⟨b1, 10, none⟩)) (by kernel_rfl) (by kernel_rfl) ?_
    intro a H
    refine H.val 28 (.int .i64 os) (by kernel_rfl) (ex_load1 (by kernel_rfl) (by kernel_rfl) (HP.cell 1 rfl 10 rfl)) ?_
    intro a H
    refine H.val 29 (.pointer (some ⟨b1, 1, none⟩)) (by kernel_rfl) (by kernel_rfl) ?_
    intro a H
    refine H.val 30 (.int .i64 fr) (by kernel_rfl) (ex_load1 (by kernel_rfl) (by kernel_rfl) (HP.cell 1 rfl 1 rfl)) ?_
    intro a H
    refine H.val 31 (.bool (decide (os > fr))) (by kernel_rfl) (by kernel_rfl) ?_
    intro a H
    refine H.val 32 (.bool (decide (os > fr))) (by kernel_rfl) (by kernel_rfl) ?_
    intro a H
    refine H.val 33 (.bool (decide (os > fr))) (by kernel_rfl) (by kernel_rfl) ?_
    intro a H
    refine H.split 33 rfl (fun g33 H => ?_) (fun g33 H => ?_)
    · have g33p := of_decide_eq_true g33
      refine H.skip 34 (by kernel_rfl) ?_
      intro a H
      refine H.skip 35 (by kernel_rfl) ?_
      intro a H
      refine H.skip 36 (by kernel_rfl) ?_
      intro a H
      refine H.skip 37 (by kernel_rfl) ?_
      intro a H
      refine H.val 38 (.bool true) (by kernel_rfl) (by kernel_rfl) ?_
      intro a H
      refine wpList_nil ?_
      have H := H.keep (L' := [(38, (.bool true)), (7, (.bool J.isSome)), (6, (.int .i64 jt)), (5, (.bool false)), (4, (.pointer (some ⟨b3, 0, none⟩))), (3, (.pointer (some ⟨b1, 0, none⟩))), (0, (.pointer (some ⟨b, 0, none⟩))), (1, (.agg #[(.int .i64 ch), (.int .i64 fr), (.int .i64 ve), (.int .i64 it), (.int .i64 ix), (.bool ky), (.string da), (.int .i64 re), (.int .i64 ga), (.string ca), (.int .i64 os), (.int .i64 oF), (.slice A al.length c)]))]) (by kernel_rfl)
      refine then_normal ?_
      refine w_ift H rfl ?_
      refine wp_seq ?_
      refine w_region ?_
      refine H.val 39 (.agg #[(.int .i64 0), (.int .i64 0), (.int .i64 0), (.bool false), (.bool false)]) (by kernel_rfl) (by kernel_rfl) ?_
      intro a H
      refine H.store HP 0 b3 0 5 71 [(.int .i64 0), (.int .i64 0), (.int .i64 0), (.bool false), (.bool false)] true (.agg #[(.int .i64 0), (.int .i64 0), (.int .i64 0), (.bool false), (.bool false)]) [bx b3 71 [(.int .i64 0), (.int .i64 0), (.int .i64 0), (.bool false), (.bool false)] true, bx b1 46 [(.int .i64 ch), (.int .i64 fr), (.int .i64 ve), (.int .i64 it), (.int .i64 ix), (.bool ky), (.string da), (.int .i64 re), (.int .i64 ga), (.string ca), (.int .i64 os), (.int .i64 oF), (.slice A al.length c)] true] (by kernel_rfl) (by kernel_rfl) (by kernel_rfl) rfl (by kernel_rfl) (by kernel_rfl) (by kernel_rfl) (by kernel_rfl) (by kernel_rfl) ?_
      intro w8 a H HP
      refine H.val 5 (.bool false) (by kernel_rfl) (by kernel_rfl) ?_
      intro a H
      refine wpList_nil ?_
      refine then_normal ?_
      refine wp_ret ?_
      refine then_ret ?_
      refine H.ret2 (fn := Try.f30) Try.results30 (RV.cellN (vs := [(.int .i64 0), (.int .i64 0), (.int .i64 0), (.bool false), (.bool false)]) (b := b3) (off := 0) (k := 5) (by kernel_rfl) (by kernel_rfl) (by kernel_rfl) rfl (HP.cells 0 rfl 0 5 (by kernel_rfl))) (RV.tmp_ (v := (.bool false)) (by kernel_rfl)) ?_
      refine ⟨?_, (HP.below (by kernel_rfl))⟩
      rw [altP_no k s ⟨ch, fr, ve, it, ix, ky, da, re, ga, ca, os, oF, A, c, al⟩ hJ hjt hF hfa (.inr (.inl g33p))]
      rfl
    · have g33p := of_decide_eq_false g33
      refine H.val 34 (.pointer (some ⟨b1, 10, none⟩)) (by kernel_rfl) (by kernel_rfl) ?_
      intro a H
      refine H.val 35 (.pointer (some ⟨b1, 11, none⟩)) (by kernel_rfl) (by kernel_rfl) ?_
      intro a H
      refine H.val 36 (.int .i64 oF) (by kernel_rfl) (ex_load1 (by kernel_rfl) (by kernel_rfl) (HP.cell 1 rfl 11 rfl)) ?_
      intro a H
      refine H.val 37 (.bool (decide (oF ≤ 0))) (by kernel_rfl) (by kernel_rfl) ?_
      intro a H
      refine H.val 38 (.bool (decide (oF ≤ 0))) (by kernel_rfl) (by kernel_rfl) ?_
      intro a H
      refine wpList_nil ?_
      have H := H.keep (L' := [(38, (.bool (decide (oF ≤ 0)))), (7, (.bool J.isSome)), (6, (.int .i64 jt)), (5, (.bool false)), (4, (.pointer (some ⟨b3, 0, none⟩))), (3, (.pointer (some ⟨b1, 0, none⟩))), (0, (.pointer (some ⟨b, 0, none⟩))), (1, (.agg #[(.int .i64 ch), (.int .i64 fr), (.int .i64 ve), (.int .i64 it), (.int .i64 ix), (.bool ky), (.string da), (.int .i64 re), (.int .i64 ga), (.string ca), (.int .i64 os), (.int .i64 oF), (.slice A al.length c)]))]) (by kernel_rfl)
      refine then_normal ?_
      refine w_if H rfl (fun g38 => ?_) (fun g38 => ?_)
      · have g38p := of_decide_eq_true g38
        refine wp_seq ?_
        refine w_region ?_
        refine H.val 39 (.agg #[(.int .i64 0), (.int .i64 0), (.int .i64 0), (.bool false), (.bool false)]) (by kernel_rfl) (by kernel_rfl) ?_
        intro a H
        refine H.store HP 0 b3 0 5 71 [(.int .i64 0), (.int .i64 0), (.int .i64 0), (.bool false), (.bool false)] true (.agg #[(.int .i64 0), (.int .i64 0), (.int .i64 0), (.bool false), (.bool false)]) [bx b3 71 [(.int .i64 0), (.int .i64 0), (.int .i64 0), (.bool false), (.bool false)] true, bx b1 46 [(.int .i64 ch), (.int .i64 fr), (.int .i64 ve), (.int .i64 it), (.int .i64 ix), (.bool ky), (.string da), (.int .i64 re), (.int .i64 ga), (.string ca), (.int .i64 os), (.int .i64 oF), (.slice A al.length c)] true] (by kernel_rfl) (by kernel_rfl) (by kernel_rfl) rfl (by kernel_rfl) (by kernel_rfl) (by kernel_rfl) (by kernel_rfl) (by kernel_rfl) ?_
        intro w9 a H HP
        refine H.val 5 (.bool false) (by kernel_rfl) (by kernel_rfl) ?_
        intro a H
        refine wpList_nil ?_
        refine then_normal ?_
        refine wp_ret ?_
        refine then_ret ?_
        refine H.ret2 (fn := Try.f30) Try.results30 (RV.cellN (vs := [(.int .i64 0), (.int .i64 0), (.int .i64 0), (.bool false), (.bool false)]) (b := b3) (off := 0) (k := 5) (by kernel_rfl) (by kernel_rfl) (by kernel_rfl) rfl (HP.cells 0 rfl 0 5 (by kernel_rfl))) (RV.tmp_ (v := (.bool false)) (by kernel_rfl)) ?_
        refine ⟨?_, (HP.below (by kernel_rfl))⟩
        rw [altP_no k s ⟨ch, fr, ve, it, ix, ky, da, re, ga, ca, os, oF, A, c, al⟩ hJ hjt hF hfa (.inr (.inr (.inl g38p)))]
        rfl
      · have g38p := of_decide_eq_false g38
        refine wp_skip ?_
        refine then_normal ?_
        refine wp_seq ?_
        refine w_region ?_
        refine H.val 40 (.pointer (some ⟨b1, 10, none⟩)) (by kernel_rfl) (by kernel_rfl) ?_
        intro a H
        refine H.val 41 (.pointer (some ⟨b1, 10, none⟩)) (by kernel_rfl) (by kernel_rfl) ?_
        intro a H
        refine H.val 42 (.int .i64 os) (by kernel_rfl) (ex_load1 (by kernel_rfl) (by kernel_rfl) (HP.cell 1 rfl 10 rfl)) ?_
        intro a H
        refine H.val 43 (.pointer (some ⟨b1, 1, none⟩)) (by kernel_rfl) (by kernel_rfl) ?_
        intro a H
        refine H.val 44 (.int .i64 fr) (by kernel_rfl) (ex_load1 (by kernel_rfl) (by kernel_rfl) (HP.cell 1 rfl 1 rfl)) ?_
        intro a H
        refine H.call 45 (by kernel_rfl) (Eq.trans (by kernel_rfl : _ = (callFunc 39 #[(.int .i64 os), (.int .i64 fr)]).run Try.prog w6) (Try.call39 _ _)) (dist_any os fr w6 (by omega) (by omega) (by omega)) ?_
        rintro e w10 ⟨rfl, hw⟩
        refine ⟨_, rfl, ?_⟩
        intro a H
        have HP := hw ▸ HP
        refine H.val 8 (.int .u64 (fr - os)) (by kernel_rfl) (by kernel_rfl) ?_
        intro a H
        refine wpList_nil ?_
        have H := H.keep (L' := [(8, (.int .u64 (fr - os))), (38, (.bool (decide (oF ≤ 0)))), (7, (.bool J.isSome)), (6, (.int .i64 jt)), (5, (.bool false)), (4, (.pointer (some ⟨b3, 0, none⟩))), (3, (.pointer (some ⟨b1, 0, none⟩))), (0, (.pointer (some ⟨b, 0, none⟩))), (1, (.agg #[(.int .i64 ch), (.int .i64 fr), (.int .i64 ve), (.int .i64 it), (.int .i64 ix), (.bool ky), (.string da), (.int .i64 re), (.int .i64 ga), (.string ca), (.int .i64 os), (.int .i64 oF), (.slice A al.length c)]))]) (by kernel_rfl)
        refine then_normal ?_
        refine wp_seq ?_
        refine w_region ?_
        refine H.val 47 (.pointer (some ⟨b, 0, none⟩)) (by kernel_rfl) (by kernel_rfl) ?_
        intro a H
        refine H.val 48 (.pointer (some ⟨b, 0, none⟩)) (by kernel_rfl) (by kernel_rfl) ?_
        intro a H
        refine H.val 49 (.pointer (some ⟨b, 9, none⟩)) (by kernel_rfl) (by kernel_rfl) ?_
        intro a H
        refine H.val 50 (.slice k.SA k.store.length k.sc) (by kernel_rfl) (ex_load1 (by kernel_rfl) (by kernel_rfl) (HP.oldc (by kernel_rfl) c9)) ?_
        intro a H
        refine H.val 51 (.int .i64 jt) (by kernel_rfl) (by kernel_rfl) ?_
        intro a H
        refine H.call 52 (by kernel_rfl) (Eq.trans (by kernel_rfl : _ = (callFunc 40 #[(.slice k.SA k.store.length k.sc), (.int .i64 jt)]).run Try.prog w10) (Try.call40 _ _)) (CF w10 (hst.below (HP.below (by kernel_rfl)))) ?_
        rintro e w11 ⟨Bf, cf, rfl, q1, q2, q3, q4, hb, q5⟩
        refine ⟨_, rfl, ?_⟩
        intro a H
        have HP := (HP.next hb).keepF ⟨rowFp fa.pics.length Bf, fun w => IsPics w Bf fa.pics.length fa.pics⟩ q1 (fun _ _ h hk hs => ⟨h.1, h.2.keep hk hs⟩) (fun j hj => row_sep HP q1.2 q5 hj)
        refine H.val 46 (.tuple #[(.agg #[(.int .i64 fa.item), (.slice Bf fa.pics.length cf)]), (.bool F.isSome)]) (by kernel_rfl) (by kernel_rfl) ?_
        intro a H
        refine H.val 53 (.agg #[(.int .i64 fa.item), (.slice Bf fa.pics.length cf)]) (by kernel_rfl) (by kernel_rfl) ?_
        intro a H
        refine H.val 54 (.bool F.isSome) (by kernel_rfl) (by kernel_rfl) ?_
        intro a H
        refine H.alloc HP 9 (fun b => (.pointer (some ⟨b, 0, none⟩))) 49 [(.int .i64 0), (.slice none 0 0)] (by kernel_rfl) (fun w => by kernel_rfl) ?_
        intro b12 w13 a H HP
        refine H.store HP 0 b12 0 2 49 [(.int .i64 0), (.slice none 0 0)] true (.agg #[(.int .i64 fa.item), (.slice Bf fa.pics.length cf)]) [bx b12 49 [(.int .i64 fa.item), (.slice Bf fa.pics.length cf)] true, bx b3 71 [(.int .i64 0), (.int .i64 0), (.int .i64 0), (.bool false), (.bool false)] true, bx b1 46 [(.int .i64 ch), (.int .i64 fr), (.int .i64 ve), (.int .i64 it), (.int .i64 ix), (.bool ky), (.string da), (.int .i64 re), (.int .i64 ga), (.string ca), (.int .i64 os), (.int .i64 oF), (.slice A al.length c)] true] (by kernel_rfl) (by kernel_rfl) (by kernel_rfl) rfl (by kernel_rfl) (by kernel_rfl) (by kernel_rfl) (by kernel_rfl) (by kernel_rfl) ?_
        intro w14 a H HP
        refine H.val 7 (.bool F.isSome) (by kernel_rfl) (by kernel_rfl) ?_
        intro a H
        refine wpList_nil ?_
        have H := H.keep (L' := [(7, (.bool F.isSome)), (9, (.pointer (some ⟨b12, 0, none⟩))), (8, (.int .u64 (fr - os))), (38, (.bool (decide (oF ≤ 0)))), (6, (.int .i64 jt)), (5, (.bool false)), (4, (.pointer (some ⟨b3, 0, none⟩))), (3, (.pointer (some ⟨b1, 0, none⟩))), (0, (.pointer (some ⟨b, 0, none⟩))), (1, (.agg #[(.int .i64 ch), (.int .i64 fr), (.int .i64 ve), (.int .i64 it), (.int .i64 ix), (.bool ky), (.string da), (.int .i64 re), (.int .i64 ga), (.string ca), (.int .i64 os), (.int .i64 oF), (.slice A al.length c)]))]) (by kernel_rfl)
        refine then_normal ?_
        refine wp_seq ?_
        refine wp_seq ?_
        refine w_region ?_
        refine H.val 55 (.bool F.isSome) (by kernel_rfl) (by kernel_rfl) ?_
        intro a H
        refine H.val 56 (.bool (!F.isSome)) (by kernel_rfl) (by kernel_rfl) ?_
        intro a H
        refine H.val 57 (.bool (!F.isSome)) (by kernel_rfl) (by kernel_rfl) ?_
        intro a H
        refine H.split 57 rfl (fun g57 H => ?_) (fun g57 H => ?_)
        · have g57p := not_is_true g57
          refine H.skip 58 (by kernel_rfl) ?_
          intro a H
          refine H.skip 59 (by kernel_rfl) ?_
          intro a H
          refine H.skip 60 (by kernel_rfl) ?_
          intro a H
          refine H.skip 61 (by kernel_rfl) ?_
          intro a H
          refine H.skip 62 (by kernel_rfl) ?_
          intro a H
          refine H.skip 63 (by kernel_rfl) ?_
          intro a H
          refine H.val 64 (.bool true) (by kernel_rfl) (by kernel_rfl) ?_
          intro a H
          refine H.val 65 (.bool true) (by kernel_rfl) (by kernel_rfl) ?_
          intro a H
          refine H.skip 66 (by kernel_rfl) ?_
          intro a H
          refine H.skip 67 (by kernel_rfl) ?_
          intro a H
          refine H.skip 68 (by kernel_rfl) ?_
          intro a H
          refine H.skip 69 (by kernel_rfl) ?_
          intro a H
          refine H.skip 70 (by kernel_rfl) ?_
          intro a H
          refine H.skip 71 (by kernel_rfl) ?_
          intro a H
          refine H.val 72 (.bool true) (by kernel_rfl) (by kernel_rfl) ?_
          intro a H
          refine wpList_nil ?_
          have H := H.keep (L' := [(72, (.bool true)), (7, (.bool F.isSome)), (9, (.pointer (some ⟨b12, 0, none⟩))), (8, (.int .u64 (fr - os))), (38, (.bool (decide (oF ≤ 0)))), (6, (.int .i64 jt)), (5, (.bool false)), (4, (.pointer (some ⟨b3, 0, none⟩))), (3, (.pointer (some ⟨b1, 0, none⟩))), (0, (.pointer (some ⟨b, 0, none⟩))), (1, (.agg #[(.int .i64 ch), (.int .i64 fr), (.int .i64 ve), (.int .i64 it), (.int .i64 ix), (.bool ky), (.string da), (.int .i64 re), (.int .i64 ga), (.string ca), (.int .i64 os), (.int .i64 oF), (.slice A al.length c)]))]) (by kernel_rfl)
          refine then_normal ?_
          refine w_ift H rfl ?_
          refine wp_seq ?_
          refine w_region ?_
          refine H.val 73 (.agg #[(.int .i64 0), (.int .i64 0), (.int .i64 0), (.bool false), (.bool false)]) (by kernel_rfl) (by kernel_rfl) ?_
          intro a H
          refine H.store HP 1 b3 0 5 71 [(.int .i64 0), (.int .i64 0), (.int .i64 0), (.bool false), (.bool false)] true (.agg #[(.int .i64 0), (.int .i64 0), (.int .i64 0), (.bool false), (.bool false)]) [bx b12 49 [(.int .i64 fa.item), (.slice Bf fa.pics.length cf)] true, bx b3 71 [(.int .i64 0), (.int .i64 0), (.int .i64 0), (.bool false), (.bool false)] true, bx b1 46 [(.int .i64 ch), (.int .i64 fr), (.int .i64 ve), (.int .i64 it), (.int .i64 ix), (.bool ky), (.string da), (.int .i64 re), (.int .i64 ga), (.string ca), (.int .i64 os), (.int .i64 oF), (.slice A al.length c)] true] (by kernel_rfl) (by kernel_rfl) (by kernel_rfl) rfl (by kernel_rfl) (by kernel_rfl) (by kernel_rfl) (by kernel_rfl) (by kernel_rfl) ?_
          intro w15 a H HP
          refine H.val 5 (.bool false) (by kernel_rfl) (by kernel_rfl) ?_
          intro a H
          refine wpList_nil ?_
          refine then_normal ?_
          refine wp_ret ?_
          refine then_ret ?_
          refine H.ret2 (fn := Try.f30) Try.results30 (RV.cellN (vs := [(.int .i64 0), (.int .i64 0), (.int .i64 0), (.bool false), (.bool false)]) (b := b3) (off := 0) (k := 5) (by kernel_rfl) (by kernel_rfl) (by kernel_rfl) rfl (HP.cells 1 rfl 0 5 (by kernel_rfl))) (RV.tmp_ (v := (.bool false)) (by kernel_rfl)) ?_
          refine ⟨?_, (HP.below (by kernel_rfl))⟩
          rw [altP_no k s ⟨ch, fr, ve, it, ix, ky, da, re, ga, ca, os, oF, A, c, al⟩ hJ hjt hF hfa (.inr (.inr (.inr (.inl g57p))))]
          rfl
        · have g57p := not_is_false g57
          refine H.val 58 (.int .u64 (fr - os)) (by kernel_rfl) (by kernel_rfl) ?_
          intro a H
          refine H.val 59 (.pointer (some ⟨b1, 10, none⟩)) (by kernel_rfl) (by kernel_rfl) ?_
          intro a H
          refine H.val 60 (.pointer (some ⟨b1, 11, none⟩)) (by kernel_rfl) (by kernel_rfl) ?_
          intro a H
          refine H.val 61 (.int .i64 oF) (by kernel_rfl) (ex_load1 (by kernel_rfl) (by kernel_rfl) (HP.cell 2 rfl 11 rfl)) ?_
          intro a H
          refine H.valE 62 (.int .u64 (IntKind.u64.wrap oF)) (.int .u64 oF) (by kernel_rfl) (by kernel_rfl) ((by rw [wrap_inu64 _ (by omega)])) ?_
          intro a H
          refine H.val 63 (.bool (decide ((fr - os) ≥ oF))) (by kernel_rfl) (by kernel_rfl) ?_
          intro a H
          refine H.val 64 (.bool (decide ((fr - os) ≥ oF))) (by kernel_rfl) (by kernel_rfl) ?_
          intro a H
          refine H.val 65 (.bool (decide ((fr - os) ≥ oF))) (by kernel_rfl) (by kernel_rfl) ?_
          intro a H
          refine H.split 65 rfl (fun g65 H => ?_) (fun g65 H => ?_)
          · have g65p := of_decide_eq_true g65
            refine H.skip 66 (by kernel_rfl) ?_
            intro a H
            refine H.skip 67 (by kernel_rfl) ?_
            intro a H
            refine H.skip 68 (by kernel_rfl) ?_
            intro a H
            refine H.skip 69 (by kernel_rfl) ?_
            intro a H
            refine H.skip 70 (by kernel_rfl) ?_
            intro a H
            refine H.skip 71 (by kernel_rfl) ?_
            intro a H
            refine H.val 72 (.bool true) (by kernel_rfl) (by kernel_rfl) ?_
            intro a H
            refine wpList_nil ?_
            have H := H.keep (L' := [(72, (.bool true)), (7, (.bool F.isSome)), (9, (.pointer (some ⟨b12, 0, none⟩))), (8, (.int .u64 (fr - os))), (38, (.bool (decide (oF ≤ 0)))), (6, (.int .i64 jt)), (5, (.bool false)), (4, (.pointer (some ⟨b3, 0, none⟩))), (3, (.pointer (some ⟨b1, 0, none⟩))), (0, (.pointer (some ⟨b, 0, none⟩))), (1, (.agg #[(.int .i64 ch), (.int .i64 fr), (.int .i64 ve), (.int .i64 it), (.int .i64 ix), (.bool ky), (.string da), (.int .i64 re), (.int .i64 ga), (.string ca), (.int .i64 os), (.int .i64 oF), (.slice A al.length c)]))]) (by kernel_rfl)
            refine then_normal ?_
            refine w_ift H rfl ?_
            refine wp_seq ?_
            refine w_region ?_
            refine H.val 73 (.agg #[(.int .i64 0), (.int .i64 0), (.int .i64 0), (.bool false), (.bool false)]) (by kernel_rfl) (by kernel_rfl) ?_
            intro a H
            refine H.store HP 1 b3 0 5 71 [(.int .i64 0), (.int .i64 0), (.int .i64 0), (.bool false), (.bool false)] true (.agg #[(.int .i64 0), (.int .i64 0), (.int .i64 0), (.bool false), (.bool false)]) [bx b12 49 [(.int .i64 fa.item), (.slice Bf fa.pics.length cf)] true, bx b3 71 [(.int .i64 0), (.int .i64 0), (.int .i64 0), (.bool false), (.bool false)] true, bx b1 46 [(.int .i64 ch), (.int .i64 fr), (.int .i64 ve), (.int .i64 it), (.int .i64 ix), (.bool ky), (.string da), (.int .i64 re), (.int .i64 ga), (.string ca), (.int .i64 os), (.int .i64 oF), (.slice A al.length c)] true] (by kernel_rfl) (by kernel_rfl) (by kernel_rfl) rfl (by kernel_rfl) (by kernel_rfl) (by kernel_rfl) (by kernel_rfl) (by kernel_rfl) ?_
            intro w16 a H HP
            refine H.val 5 (.bool false) (by kernel_rfl) (by kernel_rfl) ?_
            intro a H
            refine wpList_nil ?_
            refine then_normal ?_
            refine wp_ret ?_
            refine then_ret ?_
            refine H.ret2 (fn := Try.f30) Try.results30 (RV.cellN (vs := [(.int .i64 0), (.int .i64 0), (.int .i64 0), (.bool false), (.bool false)]) (b := b3) (off := 0) (k := 5) (by kernel_rfl) (by kernel_rfl) (by kernel_rfl) rfl (HP.cells 1 rfl 0 5 (by kernel_rfl))) (RV.tmp_ (v := (.bool false)) (by kernel_rfl)) ?_
            refine ⟨?_, (HP.below (by kernel_rfl))⟩
            rw [altP_no k s ⟨ch, fr, ve, it, ix, ky, da, re, ga, ca, os, oF, A, c, al⟩ hJ hjt hF hfa (.inr (.inr (.inr (.inr (.inl g65p)))))]
            rfl
          · have g65p := of_decide_eq_false g65
            refine H.val 66 (.int .u64 (fr - os)) (by kernel_rfl) (by kernel_rfl) ?_
            intro a H
            refine H.val 67 (.pointer (some ⟨b12, 1, none⟩)) (by kernel_rfl) (by kernel_rfl) ?_
            intro a H
            refine H.val 68 (.slice Bf fa.pics.length cf) (by kernel_rfl) (ex_load1 (by kernel_rfl) (by kernel_rfl) (HP.cell 0 rfl 1 rfl)) ?_
            intro a H
            refine H.val 69 (.int .i64 ((fa.pics.length : Nat) : Int)) (by kernel_rfl) (by kernel_rfl) ?_
            intro a H
            refine H.valE 70 (.int .u64 (IntKind.u64.wrap ((fa.pics.length : Nat) : Int))) (.int .u64 ((fa.pics.length : Nat) : Int)) (by kernel_rfl) (by kernel_rfl) ((by rw [wrap_inu64 _ (by omega)])) ?_
            intro a H
            refine H.val 71 (.bool (decide ((fr - os) ≥ ((fa.pics.length : Nat) : Int)))) (by kernel_rfl) (by kernel_rfl) ?_
            intro a H
            refine H.val 72 (.bool (decide ((fr - os) ≥ ((fa.pics.length : Nat) : Int)))) (by kernel_rfl) (by kernel_rfl) ?_
            intro a H
            refine wpList_nil ?_
            have H := H.keep (L' := [(72, (.bool (decide ((fr - os) ≥ ((fa.pics.length : Nat) : Int))))), (7, (.bool F.isSome)), (9, (.pointer (some ⟨b12, 0, none⟩))), (8, (.int .u64 (fr - os))), (38, (.bool (decide (oF ≤ 0)))), (6, (.int .i64 jt)), (5, (.bool false)), (4, (.pointer (some ⟨b3, 0, none⟩))), (3, (.pointer (some ⟨b1, 0, none⟩))), (0, (.pointer (some ⟨b, 0, none⟩))), (1, (.agg #[(.int .i64 ch), (.int .i64 fr), (.int .i64 ve), (.int .i64 it), (.int .i64 ix), (.bool ky), (.string da), (.int .i64 re), (.int .i64 ga), (.string ca), (.int .i64 os), (.int .i64 oF), (.slice A al.length c)]))]) (by kernel_rfl)
            refine then_normal ?_
            refine w_if H rfl (fun g72 => ?_) (fun g72 => ?_)
            · have g72p := of_decide_eq_true g72
              refine wp_seq ?_
              refine w_region ?_
              refine H.val 73 (.agg #[(.int .i64 0), (.int .i64 0), (.int .i64 0), (.bool false), (.bool false)]) (by kernel_rfl) (by kernel_rfl) ?_
              intro a H
              refine H.store HP 1 b3 0 5 71 [(.int .i64 0), (.int .i64 0), (.int .i64 0), (.bool false), (.bool false)] true (.agg #[(.int .i64 0), (.int .i64 0), (.int .i64 0), (.bool false), (.bool false)]) [bx b12 49 [(.int .i64 fa.item), (.slice Bf fa.pics.length cf)] true, bx b3 71 [(.int .i64 0), (.int .i64 0), (.int .i64 0), (.bool false), (.bool false)] true, bx b1 46 [(.int .i64 ch), (.int .i64 fr), (.int .i64 ve), (.int .i64 it), (.int .i64 ix), (.bool ky), (.string da), (.int .i64 re), (.int .i64 ga), (.string ca), (.int .i64 os), (.int .i64 oF), (.slice A al.length c)] true] (by kernel_rfl) (by kernel_rfl) (by kernel_rfl) rfl (by kernel_rfl) (by kernel_rfl) (by kernel_rfl) (by kernel_rfl) (by kernel_rfl) ?_
              intro w17 a H HP
              refine H.val 5 (.bool false) (by kernel_rfl) (by kernel_rfl) ?_
              intro a H
              refine wpList_nil ?_
              refine then_normal ?_
              refine wp_ret ?_
              refine then_ret ?_
              refine H.ret2 (fn := Try.f30) Try.results30 (RV.cellN (vs := [(.int .i64 0), (.int .i64 0), (.int .i64 0), (.bool false), (.bool false)]) (b := b3) (off := 0) (k := 5) (by kernel_rfl) (by kernel_rfl) (by kernel_rfl) rfl (HP.cells 1 rfl 0 5 (by kernel_rfl))) (RV.tmp_ (v := (.bool false)) (by kernel_rfl)) ?_
              refine ⟨?_, (HP.below (by kernel_rfl))⟩
              rw [altP_no k s ⟨ch, fr, ve, it, ix, ky, da, re, ga, ca, os, oF, A, c, al⟩ hJ hjt hF hfa (.inr (.inr (.inr (.inr (.inr g72p)))))]
              rfl
            · have g72p := of_decide_eq_false g72
              refine wp_skip ?_
              refine then_normal ?_
              refine wp_seq ?_
              obtain ⟨bb, off, hBB, hbl, pa, pb, pc⟩ := IsPics.get (HP.fact 0 rfl) (i := (fr - os).toNat) (by omega)
              subst hBB
              rw [hPX] at pa pb pc
              refine w_region ?_
              refine H.val 74 (.pointer (some ⟨b12, 1, none⟩)) (by kernel_rfl) (by kernel_rfl) ?_
              intro a H
              refine H.val 75 (.slice (some ⟨bb, off, none⟩) fa.pics.length cf) (by kernel_rfl) (ex_load1 (by kernel_rfl) (by kernel_rfl) (HP.cell 0 rfl 1 rfl)) ?_
              intro a H
              refine H.val 76 (.int .u64 (fr - os)) (by kernel_rfl) (by kernel_rfl) ?_
              intro a H
              refine H.val 77 (.pointer (some ⟨bb, off + (fr - os).toNat * 3, none⟩)) (by kernel_rfl) (ex_index (b := bb) (off := off) (len := fa.pics.length) (cap := cf) (e := 53) (k := 3) (ik := .u64) (i := (fr - os)) (m := (fr - os).toNat) (by kernel_rfl) (by kernel_rfl) (by omega) (by omega) (by kernel_rfl) (by kernel_rfl)) ?_
              intro a H
              refine H.val 78 (.agg #[(.bool PX.key), (.string PX.data), (.int .i64 PX.power)]) (by kernel_rfl) (ex_loadN (vs := [(.bool PX.key), (.string PX.data), (.int .i64 PX.power)]) (by kernel_rfl) (by kernel_rfl) (by kernel_rfl) rfl (cells3 (pa) (pb) (pc))) ?_
              intro a H
              refine H.alloc HP 10 (fun b => (.pointer (some ⟨b, 0, none⟩))) 53 [(.bool false), (.string (ByteArray.mk #[])), (.int .i64 0)] (by kernel_rfl) (fun w => by kernel_rfl) ?_
              intro b18 w19 a H HP
              refine H.store HP 0 b18 0 3 53 [(.bool false), (.string (ByteArray.mk #[])), (.int .i64 0)] true (.agg #[(.bool PX.key), (.string PX.data), (.int .i64 PX.power)]) [bx b18 53 [(.bool PX.key), (.string PX.data), (.int .i64 PX.power)] true, bx b12 49 [(.int .i64 fa.item), (.slice (some ⟨bb, off, none⟩) fa.pics.length cf)] true, bx b3 71 [(.int .i64 0), (.int .i64 0), (.int .i64 0), (.bool false), (.bool false)] true, bx b1 46 [(.int .i64 ch), (.int .i64 fr), (.int .i64 ve), (.int .i64 it), (.int .i64 ix), (.bool ky), (.string da), (.int .i64 re), (.int .i64 ga), (.string ca), (.int .i64 os), (.int .i64 oF), (.slice A al.length c)] true] (by kernel_rfl) (by kernel_rfl) (by kernel_rfl) rfl (by kernel_rfl) (by kernel_rfl) (by kernel_rfl) (by kernel_rfl) (by kernel_rfl) ?_
              intro w20 a H HP
              refine wpList_nil ?_
              refine then_normal ?_
              refine wp_seq ?_
              refine w_region ?_
              refine H.val 79 (.int .i64 jt) (by kernel_rfl) (by kernel_rfl) ?_
              intro a H
              refine H.val 80 (.int .u64 (fr - os)) (by kernel_rfl) (by kernel_rfl) ?_
              intro a H
              refine H.valE 81 (.int .i64 (IntKind.i64.wrap (fr - os))) (.int .i64 (fr - os)) (by kernel_rfl) (by kernel_rfl) ((by rw [wrap_ini64 _ (by omega)])) ?_
              intro a H
              refine H.val 82 (.pointer (some ⟨b18, 1, none⟩)) (by kernel_rfl) (by kernel_rfl) ?_
              intro a H
              refine H.val 83 (.string PX.data) (by kernel_rfl) (ex_load1 (by kernel_rfl) (by kernel_rfl) (HP.cell 0 rfl 1 rfl)) ?_
              intro a H
              refine H.val 84 (.int .i64 ((PX.data.size : Nat) : Int)) (by kernel_rfl) (by kernel_rfl) ?_
              intro a H
              refine H.val 85 (.pointer (some ⟨b18, 0, none⟩)) (by kernel_rfl) (by kernel_rfl) ?_
              intro a H
              refine H.val 86 (.bool PX.key) (by kernel_rfl) (ex_load1 (by kernel_rfl) (by kernel_rfl) (HP.cell 0 rfl 0 rfl)) ?_
              intro a H
              refine H.val 87 (.agg #[(.int .i64 jt), (.int .i64 (fr - os)), (.int .i64 ((PX.data.size : Nat) : Int)), (.bool PX.key), (.bool true)]) (by kernel_rfl) (by kernel_rfl) ?_
              intro a H
              refine H.alloc HP 11 (fun b => (.pointer (some ⟨b, 0, none⟩))) 71 [(.int .i64 0), (.int .i64 0), (.int .i64 0), (.bool false), (.bool false)] (by kernel_rfl) (fun w => by kernel_rfl) ?_
              intro b21 w22 a H HP
              refine H.store HP 0 b21 0 5 71 [(.int .i64 0), (.int .i64 0), (.int .i64 0), (.bool false), (.bool false)] true (.agg #[(.int .i64 jt), (.int .i64 (fr - os)), (.int .i64 ((PX.data.size : Nat) : Int)), (.bool PX.key), (.bool true)]) [bx b21 71 [(.int .i64 jt), (.int .i64 (fr - os)), (.int .i64 ((PX.data.size : Nat) : Int)), (.bool PX.key), (.bool true)] true, bx b18 53 [(.bool PX.key), (.string PX.data), (.int .i64 PX.power)] true, bx b12 49 [(.int .i64 fa.item), (.slice (some ⟨bb, off, none⟩) fa.pics.length cf)] true, bx b3 71 [(.int .i64 0), (.int .i64 0), (.int .i64 0), (.bool false), (.bool false)] true, bx b1 46 [(.int .i64 ch), (.int .i64 fr), (.int .i64 ve), (.int .i64 it), (.int .i64 ix), (.bool ky), (.string da), (.int .i64 re), (.int .i64 ga), (.string ca), (.int .i64 os), (.int .i64 oF), (.slice A al.length c)] true] (by kernel_rfl) (by kernel_rfl) (by kernel_rfl) rfl (by kernel_rfl) (by kernel_rfl) (by kernel_rfl) (by kernel_rfl) (by kernel_rfl) ?_
              intro w23 a H HP
              refine wpList_nil ?_
              have H := H.keep (L' := [(11, (.pointer (some ⟨b21, 0, none⟩))), (10, (.pointer (some ⟨b18, 0, none⟩))), (78, (.agg #[(.bool PX.key), (.string PX.data), (.int .i64 PX.power)])), (77, (.pointer (some ⟨bb, off + (fr - os).toNat * 3, none⟩))), (76, (.int .u64 (fr - os))), (75, (.slice (some ⟨bb, off, none⟩) fa.pics.length cf)), (74, (.pointer (some ⟨b12, 1, none⟩))), (72, (.bool (decide ((fr - os) ≥ ((fa.pics.length : Nat) : Int))))), (7, (.bool F.isSome)), (9, (.pointer (some ⟨b12, 0, none⟩))), (8, (.int .u64 (fr - os))), (38, (.bool (decide (oF ≤ 0)))), (6, (.int .i64 jt)), (5, (.bool false)), (4, (.pointer (some ⟨b3, 0, none⟩))), (3, (.pointer (some ⟨b1, 0, none⟩))), (0, (.pointer (some ⟨b, 0, none⟩))), (1, (.agg #[(.int .i64 ch), (.int .i64 fr), (.int .i64 ve), (.int .i64 it), (.int .i64 ix), (.bool ky), (.string da), (.int .i64 re), (.int .i64 ga), (.string ca), (.int .i64 os), (.int .i64 oF), (.slice A al.length c)]))]) (by kernel_rfl)
              refine then_normal ?_
              refine wp_seq ?_
              refine wp_seq ?_
              refine An.start (fun v => Hp w v [bx b21 71 [(.int .i64 jt), (.int .i64 (fr - os)), (.int .i64 ((PX.data.size : Nat) : Int)), (.bool PX.key), (.bool true)] true, bx b18 53 [(.bool PX.key), (.string PX.data), (.int .i64 PX.power)] true, bx b12 49 [(.int .i64 fa.item), (.slice (some ⟨bb, off, none⟩) fa.pics.length cf)] true, bx b3 71 [(.int .i64 0), (.int .i64 0), (.int .i64 0), (.bool false), (.bool false)] true, bx b1 46 [(.int .i64 ch), (.int .i64 fr), (.int .i64 ve), (.int .i64 it), (.int .i64 ix), (.bool ky), (.string da), (.int .i64 re), (.int .i64 ga), (.string ca), (.int .i64 os), (.int .i64 oF), (.slice A al.length c)] true] [⟨rowFp fa.pics.length (some ⟨bb, off, none⟩), fun w => IsPics w (some ⟨bb, off, none⟩) fa.pics.length fa.pics⟩]) 8 8 HP wide_follows rfl ?_
              intro w24 HP
              refine An.pure H (.inr (HP)) 0 88 (.pointer (some ⟨b, 0, none⟩)) rfl (by kernel_rfl) (by kernel_rfl) (fun _ _ _ h => h) (fun _ => by kernel_rfl) ?_
              intro a H
              refine An.val H (HP) 1 89 (.agg #[(.int .i64 jt), (.int .i64 (fr - os)), (.int .i64 ((PX.data.size : Nat) : Int)), (.bool PX.key), (.bool true)]) rfl (by kernel_rfl) (by kernel_rfl) (fun _ _ _ h => h) (fun _ hS => ex_loadN (vs := [(.int .i64 jt), (.int .i64 (fr - os)), (.int .i64 ((PX.data.size : Nat) : Int)), (.bool PX.key), (.bool true)]) (by kernel_rfl) (by kernel_rfl) (by kernel_rfl) rfl (hS.cells 0 rfl 0 5 (by kernel_rfl))) ?_
              intro a H
              refine An.pure H (.inr (HP)) 2 90 (.pointer (some ⟨b, 0, none⟩)) rfl (by kernel_rfl) (by kernel_rfl) (fun _ _ _ h => h) (fun _ => by kernel_rfl) ?_
              intro a H
              refine An.pure H (.inr (HP)) 3 91 (.pointer (some ⟨b, 0, none⟩)) rfl (by kernel_rfl) (by kernel_rfl) (fun _ _ _ h => h) (fun _ => by kernel_rfl) ?_
              intro a H
              refine An.pure H (.inr (HP)) 4 92 (.pointer (some ⟨b, 0, none⟩)) rfl (by kernel_rfl) (by kernel_rfl) (fun _ _ _ h => h) (fun _ => by kernel_rfl) ?_
              intro a H
              refine An.pure H (.inr (HP)) 5 93 (.func (.func 42) #[(.pointer (some ⟨b, 0, none⟩))] #[]) rfl (by kernel_rfl) (by kernel_rfl) (fun _ _ _ h => h) (fun _ => by kernel_rfl) ?_
              intro a H
              refine An.one 6 (by kernel_rfl) ?_
              refine Op.alloc H HP 94 (fun b => (.slice (some ⟨b, 0, none⟩) 1 1)) 100 [(.func (.func 42) #[(.pointer (some ⟨b, 0, none⟩))] #[])] rfl (by kernel_rfl) (fun w => by kernel_rfl) ?_
              intro b25 w26 a H HP
              refine ⟨.inr (HP.tail rfl), ?_⟩
              refine An.one 7 (by kernel_rfl) ?_
              refine Op.call H 95 rfl (by kernel_rfl) (Eq.trans (by kernel_rfl : _ = (callFunc 41 #[(.pointer (some ⟨b, 0, none⟩)), (.agg #[(.int .i64 jt), (.int .i64 (fr - os)), (.int .i64 ((PX.data.size : Nat) : Int)), (.bool PX.key), (.bool true)]), (.slice (some ⟨b25, 0, none⟩) 1 1)]).run Try.prog w26) (Try.call41 _ _)) (may_any b k s ⟨jt, fr - os, PX.data.size, PX.key, true⟩ [.cont] _ 1 1 w26 (HS.below (HP.below (by kernel_rfl))) (Rd.of_box (HP.at_ 0 rfl) rfl) (by omega) h1 (by simp only; omega)) ?_
              rintro e w27 ⟨rfl, hb⟩
              refine ⟨_, rfl, ?_⟩
              intro a H
              have HP := HP.next hb
              refine ⟨.inr (HP.tail rfl), ?_⟩
              refine An.done (by kernel_rfl) ?_
              have H := H.keep (L' := [(95, (.bool (mayP k.store s ⟨jt, fr - os, PX.data.size, PX.key, true⟩ [.cont]))), (11, (.pointer (some ⟨b21, 0, none⟩))), (10, (.pointer (some ⟨b18, 0, none⟩))), (78, (.agg #[(.bool PX.key), (.string PX.data), (.int .i64 PX.power)])), (77, (.pointer (some ⟨bb, off + (fr - os).toNat * 3, none⟩))), (76, (.int .u64 (fr - os))), (75, (.slice (some ⟨bb, off, none⟩) fa.pics.length cf)), (74, (.pointer (some ⟨b12, 1, none⟩))), (72, (.bool (decide ((fr - os) ≥ ((fa.pics.length : Nat) : Int))))), (7, (.bool F.isSome)), (9, (.pointer (some ⟨b12, 0, none⟩))), (8, (.int .u64 (fr - os))), (38, (.bool (decide (oF ≤ 0)))), (6, (.int .i64 jt)), (5, (.bool false)), (4, (.pointer (some ⟨b3, 0, none⟩))), (3, (.pointer (some ⟨b1, 0, none⟩))), (0, (.pointer (some ⟨b, 0, none⟩))), (1, (.agg #[(.int .i64 ch), (.int .i64 fr), (.int .i64 ve), (.int .i64 it), (.int .i64 ix), (.bool ky), (.string da), (.int .i64 re), (.int .i64 ga), (.string ca), (.int .i64 os), (.int .i64 oF), (.slice A al.length c)]))]) (by kernel_rfl)
              refine then_normal ?_
              refine w_if H rfl (fun g95 => ?_) (fun g95 => ?_)
              · have g95p := g95
                refine wp_seq ?_
                refine w_region ?_
                refine H.val 96 (.agg #[(.int .i64 jt), (.int .i64 (fr - os)), (.int .i64 ((PX.data.size : Nat) : Int)), (.bool PX.key), (.bool true)]) (by kernel_rfl) (ex_loadN (vs := [(.int .i64 jt), (.int .i64 (fr - os)), (.int .i64 ((PX.data.size : Nat) : Int)), (.bool PX.key), (.bool true)]) (by kernel_rfl) (by kernel_rfl) (by kernel_rfl) rfl (HP.cells 1 rfl 0 5 (by kernel_rfl))) ?_
                intro a H
                refine H.store HP 4 b3 0 5 71 [(.int .i64 0), (.int .i64 0), (.int .i64 0), (.bool false), (.bool false)] true (.agg #[(.int .i64 jt), (.int .i64 (fr - os)), (.int .i64 ((PX.data.size : Nat) : Int)), (.bool PX.key), (.bool true)]) [bx b25 100 [(.func (.func 42) #[(.pointer (some ⟨b, 0, none⟩))] #[])] true, bx b21 71 [(.int .i64 jt), (.int .i64 (fr - os)), (.int .i64 ((PX.data.size : Nat) : Int)), (.bool PX.key), (.bool true)] true, bx b18 53 [(.bool PX.key), (.string PX.data), (.int .i64 PX.power)] true, bx b12 49 [(.int .i64 fa.item), (.slice (some ⟨bb, off, none⟩) fa.pics.length cf)] true, bx b3 71 [(.int .i64 jt), (.int .i64 (fr - os)), (.int .i64 ((PX.data.size : Nat) : Int)), (.bool PX.key), (.bool true)] true, bx b1 46 [(.int .i64 ch), (.int .i64 fr), (.int .i64 ve), (.int .i64 it), (.int .i64 ix), (.bool ky), (.string da), (.int .i64 re), (.int .i64 ga), (.string ca), (.int .i64 os), (.int .i64 oF), (.slice A al.length c)] true] (by kernel_rfl) (by kernel_rfl) (by kernel_rfl) rfl (by kernel_rfl) (by kernel_rfl) (by kernel_rfl) (by kernel_rfl) (by kernel_rfl) ?_
                intro w28 a H HP
                refine H.val 5 (.bool true) (by kernel_rfl) (by kernel_rfl) ?_
                intro a H
                refine wpList_nil ?_
                refine then_normal ?_
                refine wp_ret ?_
                refine then_ret ?_
                refine H.ret2 (fn := Try.f30) Try.results30 (RV.cellN (vs := [(.int .i64 jt), (.int .i64 (fr - os)), (.int .i64 ((PX.data.size : Nat) : Int)), (.bool PX.key), (.bool true)]) (b := b3) (off := 0) (k := 5) (by kernel_rfl) (by kernel_rfl) (by kernel_rfl) rfl (HP.cells 4 rfl 0 5 (by kernel_rfl))) (RV.tmp_ (v := (.bool true)) (by kernel_rfl)) ?_
                refine ⟨?_, (HP.below (by kernel_rfl))⟩
                rw [altP_yes k s ⟨ch, fr, ve, it, ix, ky, da, re, ga, ca, os, oF, A, c, al⟩ hJ hjt hF hfa hPX g25p (by simp only; omega) (by simp only; omega) g57p (by simp only; omega) (by simp only; omega)]
                have hz : altOk k.store s ⟨ch, fr, ve, it, ix, ky, da, re, ga, ca, os, oF, A, c, al⟩ ⟨jt, fr - os, PX.data.size, PX.key, true⟩ fa.pics.length = true := by
                  unfold altOk
                  simp only
                  rw [g95p]
                  simp
                rw [if_pos (by rw [hz])]
                rfl
              · have g95p := g95
                refine wp_skip ?_
                refine then_normal ?_
                refine wp_seq ?_
                refine wp_seq ?_
                refine w_region ?_
                refine H.val 97 (.int .u64 (fr - os)) (by kernel_rfl) (by kernel_rfl) ?_
                intro a H
                refine H.val 98 (.bool ((fr - os) != 0)) (by kernel_rfl) (by kernel_rfl) ?_
                intro a H
                refine H.val 99 (.bool ((fr - os) != 0)) (by kernel_rfl) (by kernel_rfl) ?_
                intro a H
                refine H.split 99 rfl (fun g99 H => ?_) (fun g99 H => ?_)
                · have g99p := bne_iff_ne.1 g99
                  refine H.skip 100 (by kernel_rfl) ?_
                  intro a H
                  refine H.skip 101 (by kernel_rfl) ?_
                  intro a H
                  refine H.skip 102 (by kernel_rfl) ?_
                  intro a H
                  refine H.skip 103 (by kernel_rfl) ?_
                  intro a H
                  refine H.skip 104 (by kernel_rfl) ?_
                  intro a H
                  refine H.skip 105 (by kernel_rfl) ?_
                  intro a H
                  refine H.skip 106 (by kernel_rfl) ?_
                  intro a H
                  refine H.val 107 (.bool true) (by kernel_rfl) (by kernel_rfl) ?_
                  intro a H
                  refine H.val 108 (.bool true) (by kernel_rfl) (by kernel_rfl) ?_
                  intro a H
                  refine H.skip 109 (by kernel_rfl) ?_
                  intro a H
                  refine H.skip 110 (by kernel_rfl) ?_
                  intro a H
                  refine H.skip 111 (by kernel_rfl) ?_
                  intro a H
                  refine H.skip 112 (by kernel_rfl) ?_
                  intro a H
                  refine H.skip 113 (by kernel_rfl) ?_
                  intro a H
                  refine H.skip 114 (by kernel_rfl) ?_
                  intro a H
                  refine H.skip 115 (by kernel_rfl) ?_
                  intro a H
                  refine H.val 116 (.bool true) (by kernel_rfl) (by kernel_rfl) ?_
                  intro a H
                  refine wpList_nil ?_
                  have H := H.keep (L' := [(116, (.bool true)), (95, (.bool (mayP k.store s ⟨jt, fr - os, PX.data.size, PX.key, true⟩ [.cont]))), (11, (.pointer (some ⟨b21, 0, none⟩))), (10, (.pointer (some ⟨b18, 0, none⟩))), (78, (.agg #[(.bool PX.key), (.string PX.data), (.int .i64 PX.power)])), (77, (.pointer (some ⟨bb, off + (fr - os).toNat * 3, none⟩))), (76, (.int .u64 (fr - os))), (75, (.slice (some ⟨bb, off, none⟩) fa.pics.length cf)), (74, (.pointer (some ⟨b12, 1, none⟩))), (72, (.bool (decide ((fr - os) ≥ ((fa.pics.length : Nat) : Int))))), (7, (.bool F.isSome)), (9, (.pointer (some ⟨b12, 0, none⟩))), (8, (.int .u64 (fr - os))), (38, (.bool (decide (oF ≤ 0)))), (6, (.int .i64 jt)), (5, (.bool false)), (4, (.pointer (some ⟨b3, 0, none⟩))), (3, (.pointer (some ⟨b1, 0, none⟩))), (0, (.pointer (some ⟨b, 0, none⟩))), (1, (.agg #[(.int .i64 ch), (.int .i64 fr), (.int .i64 ve), (.int .i64 it), (.int .i64 ix), (.bool ky), (.string da), (.int .i64 re), (.int .i64 ga), (.string ca), (.int .i64 os), (.int .i64 oF), (.slice A al.length c)]))]) (by kernel_rfl)
                  refine then_normal ?_
                  refine w_ift H rfl ?_
                  refine wp_seq ?_
                  refine w_region ?_
                  refine H.val 117 (.agg #[(.int .i64 0), (.int .i64 0), (.int .i64 0), (.bool false), (.bool false)]) (by kernel_rfl) (by kernel_rfl) ?_
                  intro a H
                  refine H.store HP 4 b3 0 5 71 [(.int .i64 0), (.int .i64 0), (.int .i64 0), (.bool false), (.bool false)] true (.agg #[(.int .i64 0), (.int .i64 0), (.int .i64 0), (.bool false), (.bool false)]) [bx b25 100 [(.func (.func 42) #[(.pointer (some ⟨b, 0, none⟩))] #[])] true, bx b21 71 [(.int .i64 jt), (.int .i64 (fr - os)), (.int .i64 ((PX.data.size : Nat) : Int)), (.bool PX.key), (.bool true)] true, bx b18 53 [(.bool PX.key), (.string PX.data), (.int .i64 PX.power)] true, bx b12 49 [(.int .i64 fa.item), (.slice (some ⟨bb, off, none⟩) fa.pics.length cf)] true, bx b3 71 [(.int .i64 0), (.int .i64 0), (.int .i64 0), (.bool false), (.bool false)] true, bx b1 46 [(.int .i64 ch), (.int .i64 fr), (.int .i64 ve), (.int .i64 it), (.int .i64 ix), (.bool ky), (.string da), (.int .i64 re), (.int .i64 ga), (.string ca), (.int .i64 os), (.int .i64 oF), (.slice A al.length c)] true] (by kernel_rfl) (by kernel_rfl) (by kernel_rfl) rfl (by kernel_rfl) (by kernel_rfl) (by kernel_rfl) (by kernel_rfl) (by kernel_rfl) ?_
                  intro w29 a H HP
                  refine H.val 5 (.bool false) (by kernel_rfl) (by kernel_rfl) ?_
                  intro a H
                  refine wpList_nil ?_
                  refine then_normal ?_
                  refine wp_ret ?_
                  refine then_ret ?_
                  refine H.ret2 (fn := Try.f30) Try.results30 (RV.cellN (vs := [(.int .i64 0), (.int .i64 0), (.int .i64 0), (.bool false), (.bool false)]) (b := b3) (off := 0) (k := 5) (by kernel_rfl) (by kernel_rfl) (by kernel_rfl) rfl (HP.cells 4 rfl 0 5 (by kernel_rfl))) (RV.tmp_ (v := (.bool false)) (by kernel_rfl)) ?_
                  refine ⟨?_, (HP.below (by kernel_rfl))⟩
                  rw [altP_yes k s ⟨ch, fr, ve, it, ix, ky, da, re, ga, ca, os, oF, A, c, al⟩ hJ hjt hF hfa hPX g25p (by simp only; omega) (by simp only; omega) g57p (by simp only; omega) (by simp only; omega)]
                  have hz : altOk k.store s ⟨ch, fr, ve, it, ix, ky, da, re, ga, ca, os, oF, A, c, al⟩ ⟨jt, fr - os, PX.data.size, PX.key, true⟩ fa.pics.length = false := by
                    unfold altOk
                    simp only
                    rw [g95p]
                    simp [g99p]
                  rw [if_neg (by rw [hz]; simp)]
                  rfl
                · have g99p := eq_of_bne_false g99
                  refine H.val 100 (.pointer (some ⟨b12, 1, none⟩)) (by kernel_rfl) (by kernel_rfl) ?_
                  intro a H
                  refine H.val 101 (.slice (some ⟨bb, off, none⟩) fa.pics.length cf) (by kernel_rfl) (ex_load1 (by kernel_rfl) (by kernel_rfl) (HP.cell 3 rfl 1 rfl)) ?_
                  intro a H
                  refine H.val 102 (.int .i64 ((fa.pics.length : Nat) : Int)) (by kernel_rfl) (by kernel_rfl) ?_
                  intro a H
                  refine H.val 103 (.pointer (some ⟨b1, 10, none⟩)) (by kernel_rfl) (by kernel_rfl) ?_
                  intro a H
                  refine H.val 104 (.pointer (some ⟨b1, 11, none⟩)) (by kernel_rfl) (by kernel_rfl) ?_
                  intro a H
                  refine H.val 105 (.int .i64 oF) (by kernel_rfl) (ex_load1 (by kernel_rfl) (by kernel_rfl) (HP.cell 5 rfl 11 rfl)) ?_
                  intro a H
                  refine H.val 106 (.bool (decide (((fa.pics.length : Nat) : Int) < oF))) (by kernel_rfl) (by kernel_rfl) ?_
                  intro a H
                  refine H.val 107 (.bool (decide (((fa.pics.length : Nat) : Int) < oF))) (by kernel_rfl) (by kernel_rfl) ?_
                  intro a H
                  refine H.val 108 (.bool (decide (((fa.pics.length : Nat) : Int) < oF))) (by kernel_rfl) (by kernel_rfl) ?_
                  intro a H
                  refine H.split 108 rfl (fun g108 H => ?_) (fun g108 H => ?_)
                  · have g108p := of_decide_eq_true g108
                    refine H.skip 109 (by kernel_rfl) ?_
                    intro a H
                    refine H.skip 110 (by kernel_rfl) ?_
                    intro a H
                    refine H.skip 111 (by kernel_rfl) ?_
                    intro a H
                    refine H.skip 112 (by kernel_rfl) ?_
                    intro a H
                    refine H.skip 113 (by kernel_rfl) ?_
                    intro a H
                    refine H.skip 114 (by kernel_rfl) ?_
                    intro a H
                    refine H.skip 115 (by kernel_rfl) ?_
                    intro a H
                    refine H.val 116 (.bool true) (by kernel_rfl) (by kernel_rfl) ?_
                    intro a H
                    refine wpList_nil ?_
                    have H := H.keep (L' := [(116, (.bool true)), (95, (.bool (mayP k.store s ⟨jt, fr - os, PX.data.size, PX.key, true⟩ [.cont]))), (11, (.pointer (some ⟨b21, 0, none⟩))), (10, (.pointer (some ⟨b18, 0, none⟩))), (78, (.agg #[(.bool PX.key), (.string PX.data), (.int .i64 PX.power)])), (77, (.pointer (some ⟨bb, off + (fr - os).toNat * 3, none⟩))), (76, (.int .u64 (fr - os))), (75, (.slice (some ⟨bb, off, none⟩) fa.pics.length cf)), (74, (.pointer (some ⟨b12, 1, none⟩))), (72, (.bool (decide ((fr - os) ≥ ((fa.pics.length : Nat) : Int))))), (7, (.bool F.isSome)), (9, (.pointer (some ⟨b12, 0, none⟩))), (8, (.int .u64 (fr - os))), (38, (.bool (decide (oF ≤ 0)))), (6, (.int .i64 jt)), (5, (.bool false)), (4, (.pointer (some ⟨b3, 0, none⟩))), (3, (.pointer (some ⟨b1, 0, none⟩))), (0, (.pointer (some ⟨b, 0, none⟩))), (1, (.agg #[(.int .i64 ch), (.int .i64 fr), (.int .i64 ve), (.int .i64 it), (.int .i64 ix), (.bool ky), (.string da), (.int .i64 re), (.int .i64 ga), (.string ca), (.int .i64 os), (.int .i64 oF), (.slice A al.length c)]))]) (by kernel_rfl)
                    refine then_normal ?_
                    refine w_ift H rfl ?_
                    refine wp_seq ?_
                    refine w_region ?_
                    refine H.val 117 (.agg #[(.int .i64 0), (.int .i64 0), (.int .i64 0), (.bool false), (.bool false)]) (by kernel_rfl) (by kernel_rfl) ?_
                    intro a H
                    refine H.store HP 4 b3 0 5 71 [(.int .i64 0), (.int .i64 0), (.int .i64 0), (.bool false), (.bool false)] true (.agg #[(.int .i64 0), (.int .i64 0), (.int .i64 0), (.bool false), (.bool false)]) [bx b25 100 [(.func (.func 42) #[(.pointer (some ⟨b, 0, none⟩))] #[])] true, bx b21 71 [(.int .i64 jt), (.int .i64 (fr - os)), (.int .i64 ((PX.data.size : Nat) : Int)), (.bool PX.key), (.bool true)] true, bx b18 53 [(.bool PX.key), (.string PX.data), (.int .i64 PX.power)] true, bx b12 49 [(.int .i64 fa.item), (.slice (some ⟨bb, off, none⟩) fa.pics.length cf)] true, bx b3 71 [(.int .i64 0), (.int .i64 0), (.int .i64 0), (.bool false), (.bool false)] true, bx b1 46 [(.int .i64 ch), (.int .i64 fr), (.int .i64 ve), (.int .i64 it), (.int .i64 ix), (.bool ky), (.string da), (.int .i64 re), (.int .i64 ga), (.string ca), (.int .i64 os), (.int .i64 oF), (.slice A al.length c)] true] (by kernel_rfl) (by kernel_rfl) (by kernel_rfl) rfl (by kernel_rfl) (by kernel_rfl) (by kernel_rfl) (by kernel_rfl) (by kernel_rfl) ?_
                    intro w30 a H HP
                    refine H.val 5 (.bool false) (by kernel_rfl) (by kernel_rfl) ?_
                    intro a H
                    refine wpList_nil ?_
                    refine then_normal ?_
                    refine wp_ret ?_
                    refine then_ret ?_
                    refine H.ret2 (fn := Try.f30) Try.results30 (RV.cellN (vs := [(.int .i64 0), (.int .i64 0), (.int .i64 0), (.bool false), (.bool false)]) (b := b3) (off := 0) (k := 5) (by kernel_rfl) (by kernel_rfl) (by kernel_rfl) rfl (HP.cells 4 rfl 0 5 (by kernel_rfl))) (RV.tmp_ (v := (.bool false)) (by kernel_rfl)) ?_
                    refine ⟨?_, (HP.below (by kernel_rfl))⟩
                    rw [altP_yes k s ⟨ch, fr, ve, it, ix, ky, da, re, ga, ca, os, oF, A, c, al⟩ hJ hjt hF hfa hPX g25p (by simp only; omega) (by simp only; omega) g57p (by simp only; omega) (by simp only; omega)]
                    have hz : altOk k.store s ⟨ch, fr, ve, it, ix, ky, da, re, ga, ca, os, oF, A, c, al⟩ ⟨jt, fr - os, PX.data.size, PX.key, true⟩ fa.pics.length = false := by
                      unfold altOk
                      simp only
                      rw [g95p]
                      have : ¬ (oF ≤ (fa.pics.length : Int)) := by omega
                      simp [this]
                    rw [if_neg (by rw [hz]; simp)]
                    rfl
                  · have g108p := of_decide_eq_false g108
                    refine H.val 109 (.pointer (some ⟨b, 0, none⟩)) (by kernel_rfl) (by kernel_rfl) ?_
                    intro a H
                    refine H.val 110 (.agg #[(.int .i64 jt), (.int .i64 (fr - os)), (.int .i64 ((PX.data.size : Nat) : Int)), (.bool PX.key), (.bool true)]) (by kernel_rfl) (ex_loadN (vs := [(.int .i64 jt), (.int .i64 (fr - os)), (.int .i64 ((PX.data.size : Nat) : Int)), (.bool PX.key), (.bool true)]) (by kernel_rfl) (by kernel_rfl) (by kernel_rfl) rfl (HP.cells 1 rfl 0 5 (by kernel_rfl))) ?_
                    intro a H
                    refine H.val 111 (.pointer (some ⟨b, 0, none⟩)) (by kernel_rfl) (by kernel_rfl) ?_
                    intro a H
                    refine H.val 112 (.func (.func 43) #[(.pointer (some ⟨b, 0, none⟩))] #[]) (by kernel_rfl) (by kernel_rfl) ?_
                    intro a H
                    refine H.alloc HP 113 (fun b => (.slice (some ⟨b, 0, none⟩) 1 1)) 100 [(.func (.func 43) #[(.pointer (some ⟨b, 0, none⟩))] #[])] (by kernel_rfl) (fun w => by kernel_rfl) ?_
                    intro b31 w32 a H HP
                    refine H.call 114 (by kernel_rfl) (Eq.trans (by kernel_rfl : _ = (callFunc 41 #[(.pointer (some ⟨b, 0, none⟩)), (.agg #[(.int .i64 jt), (.int .i64 (fr - os)), (.int .i64 ((PX.data.size : Nat) : Int)), (.bool PX.key), (.bool true)]), (.slice (some ⟨b31, 0, none⟩) 1 1)]).run Try.prog w32) (Try.call41 _ _)) (may_any b k s ⟨jt, fr - os, PX.data.size, PX.key, true⟩ [.ent] _ 1 1 w32 (HS.below (HP.below (by kernel_rfl))) (Rd.of_box (HP.at_ 0 rfl) rfl) (by omega) h1 (by simp only; omega)) ?_
                    rintro e w33 ⟨rfl, hb⟩
                    refine ⟨_, rfl, ?_⟩
                    intro a H
                    have HP := HP.next hb
                    refine H.val 115 (.bool (!(mayP k.store s ⟨jt, fr - os, PX.data.size, PX.key, true⟩ [.ent]))) (by kernel_rfl) (by kernel_rfl) ?_
                    intro a H
                    refine H.val 116 (.bool (!(mayP k.store s ⟨jt, fr - os, PX.data.size, PX.key, true⟩ [.ent]))) (by kernel_rfl) (by kernel_rfl) ?_
                    intro a H
                    refine wpList_nil ?_
                    have H := H.keep (L' := [(116, (.bool (!(mayP k.store s ⟨jt, fr - os, PX.data.size, PX.key, true⟩ [.ent])))), (95, (.bool (mayP k.store s ⟨jt, fr - os, PX.data.size, PX.key, true⟩ [.cont]))), (11, (.pointer (some ⟨b21, 0, none⟩))), (10, (.pointer (some ⟨b18, 0, none⟩))), (78, (.agg #[(.bool PX.key), (.string PX.data), (.int .i64 PX.power)])), (77, (.pointer (some ⟨bb, off + (fr - os).toNat * 3, none⟩))), (76, (.int .u64 (fr - os))), (75, (.slice (some ⟨bb, off, none⟩) fa.pics.length cf)), (74, (.pointer (some ⟨b12, 1, none⟩))), (72, (.bool (decide ((fr - os) ≥ ((fa.pics.length : Nat) : Int))))), (7, (.bool F.isSome)), (9, (.pointer (some ⟨b12, 0, none⟩))), (8, (.int .u64 (fr - os))), (38, (.bool (decide (oF ≤ 0)))), (6, (.int .i64 jt)), (5, (.bool false)), (4, (.pointer (some ⟨b3, 0, none⟩))), (3, (.pointer (some ⟨b1, 0, none⟩))), (0, (.pointer (some ⟨b, 0, none⟩))), (1, (.agg #[(.int .i64 ch), (.int .i64 fr), (.int .i64 ve), (.int .i64 it), (.int .i64 ix), (.bool ky), (.string da), (.int .i64 re), (.int .i64 ga), (.string ca), (.int .i64 os), (.int .i64 oF), (.slice A al.length c)]))]) (by kernel_rfl)
                    refine then_normal ?_
                    refine w_if H rfl (fun g116 => ?_) (fun g116 => ?_)
                    · have g116p := not_is_true g116
                      refine wp_seq ?_
                      refine w_region ?_
                      refine H.val 117 (.agg #[(.int .i64 0), (.int .i64 0), (.int .i64 0), (.bool false), (.bool false)]) (by kernel_rfl) (by kernel_rfl) ?_
                      intro a H
                      refine H.store HP 5 b3 0 5 71 [(.int .i64 0), (.int .i64 0), (.int .i64 0), (.bool false), (.bool false)] true (.agg #[(.int .i64 0), (.int .i64 0), (.int .i64 0), (.bool false), (.bool false)]) [bx b31 100 [(.func (.func 43) #[(.pointer (some ⟨b, 0, none⟩))] #[])] true, bx b25 100 [(.func (.func 42) #[(.pointer (some ⟨b, 0, none⟩))] #[])] true, bx b21 71 [(.int .i64 jt), (.int .i64 (fr - os)), (.int .i64 ((PX.data.size : Nat) : Int)), (.bool PX.key), (.bool true)] true, bx b18 53 [(.bool PX.key), (.string PX.data), (.int .i64 PX.power)] true, bx b12 49 [(.int .i64 fa.item), (.slice (some ⟨bb, off, none⟩) fa.pics.length cf)] true, bx b3 71 [(.int .i64 0), (.int .i64 0), (.int .i64 0), (.bool false), (.bool false)] true, bx b1 46 [(.int .i64 ch), (.int .i64 fr), (.int .i64 ve), (.int .i64 it), (.int .i64 ix), (.bool ky), (.string da), (.int .i64 re), (.int .i64 ga), (.string ca), (.int .i64 os), (.int .i64 oF), (.slice A al.length c)] true] (by kernel_rfl) (by kernel_rfl) (by kernel_rfl) rfl (by kernel_rfl) (by kernel_rfl) (by kernel_rfl) (by kernel_rfl) (by kernel_rfl) ?_
                      intro w34 a H HP
                      refine H.val 5 (.bool false) (by kernel_rfl) (by kernel_rfl) ?_
                      intro a H
                      refine wpList_nil ?_
                      refine then_normal ?_
                      refine wp_ret ?_
                      refine then_ret ?_
                      refine H.ret2 (fn := Try.f30) Try.results30 (RV.cellN (vs := [(.int .i64 0), (.int .i64 0), (.int .i64 0), (.bool false), (.bool false)]) (b := b3) (off := 0) (k := 5) (by kernel_rfl) (by kernel_rfl) (by kernel_rfl) rfl (HP.cells 5 rfl 0 5 (by kernel_rfl))) (RV.tmp_ (v := (.bool false)) (by kernel_rfl)) ?_
                      refine ⟨?_, (HP.below (by kernel_rfl))⟩
                      rw [altP_yes k s ⟨ch, fr, ve, it, ix, ky, da, re, ga, ca, os, oF, A, c, al⟩ hJ hjt hF hfa hPX g25p (by simp only; omega) (by simp only; omega) g57p (by simp only; omega) (by simp only; omega)]
                      have hz : altOk k.store s ⟨ch, fr, ve, it, ix, ky, da, re, ga, ca, os, oF, A, c, al⟩ ⟨jt, fr - os, PX.data.size, PX.key, true⟩ fa.pics.length = false := by
                        unfold altOk
                        simp only
                        rw [g95p]
                        rw [g116p]
                        have e1 : fr - os = 0 := by omega
                        have e2 : oF ≤ (fa.pics.length : Int) := by omega
                        simp [e1, e2]
                      rw [if_neg (by rw [hz]; simp)]
                      rfl
                    · have g116p := not_is_false g116
                      refine wp_skip ?_
                      refine then_normal ?_
                      refine wp_seq ?_
                      refine w_region ?_
                      refine H.val 118 (.func (.func 44) #[] #[(.pointer (some ⟨b1, 0, none⟩))]) (by kernel_rfl) (by kernel_rfl) ?_
                      intro a H
                      refine H.val 12 (.func (.func 44) #[] #[(.pointer (some ⟨b1, 0, none⟩))]) (by kernel_rfl) (by kernel_rfl) ?_
                      intro a H
                      refine wpList_nil ?_
                      refine then_normal ?_
                      refine wp_seq ?_
                      refine wp_seq ?_
                      refine w_region ?_
                      refine H.val 119 (.pointer (some ⟨b, 0, none⟩)) (by kernel_rfl) (by kernel_rfl) ?_
                      intro a H
                      refine H.val 120 (.pointer (some ⟨b, 0, none⟩)) (by kernel_rfl) (by kernel_rfl) ?_
                      intro a H
                      refine H.val 121 (.pointer (some ⟨b, 10, none⟩)) (by kernel_rfl) (by kernel_rfl) ?_
                      intro a H
                      refine H.val 122 (.slice NA s.noted.length nc) (by kernel_rfl) (ex_load1 (by kernel_rfl) (by kernel_rfl) (HP.oldc (by kernel_rfl) c10)) ?_
                      intro a H
                      refine H.val 123 (.func (.func 44) #[] #[(.pointer (some ⟨b1, 0, none⟩))]) (by kernel_rfl) (by kernel_rfl) ?_
                      intro a H
                      refine H.call 124 (by kernel_rfl) (Eq.trans (by kernel_rfl : _ = (callFunc 38 #[(.slice NA s.noted.length nc), (.func (.func 44) #[] #[(.pointer (some ⟨b1, 0, none⟩))])]).run Try.prog w33) (Try.call38 _ _)) (hasN_known NA s.noted.length nc s.noted fr b1 w33 (hno.below (HP.below (by kernel_rfl))) (by unfold maxLen; omega) (HP.cell 6 rfl 1 rfl) hnf (by omega)) ?_
                      rintro e w35 ⟨rfl, hb⟩
                      refine ⟨_, rfl, ?_⟩
                      intro a H
                      have HP := HP.next hb
                      refine H.val 125 (.bool (!(s.noted.any (Note.known fr)))) (by kernel_rfl) (by kernel_rfl) ?_
                      intro a H
                      refine H.val 126 (.bool (!(s.noted.any (Note.known fr)))) (by kernel_rfl) (by kernel_rfl) ?_
                      intro a H
                      refine H.split 126 rfl (fun g126 H => ?_) (fun g126 H => ?_)
                      · have g126p := not_is_true g126
                        refine H.val 127 (.pointer (some ⟨b, 0, none⟩)) (by kernel_rfl) (by kernel_rfl) ?_
                        intro a H
                        refine H.val 128 (.pointer (some ⟨b, 0, none⟩)) (by kernel_rfl) (by kernel_rfl) ?_
                        intro a H
                        refine H.val 129 (.pointer (some ⟨b, 0, none⟩)) (by kernel_rfl) (by kernel_rfl) ?_
                        intro a H
                        refine H.val 130 (.pointer (some ⟨b, 1, none⟩)) (by kernel_rfl) (by kernel_rfl) ?_
                        intro a H
                        refine H.val 131 (.pointer (some ⟨b, 5, none⟩)) (by kernel_rfl) (by kernel_rfl) ?_
                        intro a H
                        refine H.val 132 (.bool s.last.alt) (by kernel_rfl) (ex_load1 (by kernel_rfl) (by kernel_rfl) (HP.oldc (by kernel_rfl) c5)) ?_
                        intro a H
                        refine H.val 133 (.bool (!s.last.alt)) (by kernel_rfl) (by kernel_rfl) ?_
                        intro a H
                        refine H.val 134 (.bool (!s.last.alt)) (by kernel_rfl) (by kernel_rfl) ?_
                        intro a H
                        refine wpList_nil ?_
                        have H := H.keep (L' := [(134, (.bool (!s.last.alt))), (118, (.func (.func 44) #[] #[(.pointer (some ⟨b1, 0, none⟩))])), (116, (.bool (!(mayP k.store s ⟨jt, fr - os, PX.data.size, PX.key, true⟩ [.ent])))), (95, (.bool (mayP k.store s ⟨jt, fr - os, PX.data.size, PX.key, true⟩ [.cont]))), (11, (.pointer (some ⟨b21, 0, none⟩))), (10, (.pointer (some ⟨b18, 0, none⟩))), (78, (.agg #[(.bool PX.key), (.string PX.data), (.int .i64 PX.power)])), (77, (.pointer (some ⟨bb, off + (fr - os).toNat * 3, none⟩))), (76, (.int .u64 (fr - os))), (75, (.slice (some ⟨bb, off, none⟩) fa.pics.length cf)), (74, (.pointer (some ⟨b12, 1, none⟩))), (72, (.bool (decide ((fr - os) ≥ ((fa.pics.length : Nat) : Int))))), (7, (.bool F.isSome)), (9, (.pointer (some ⟨b12, 0, none⟩))), (8, (.int .u64 (fr - os))), (38, (.bool (decide (oF ≤ 0)))), (6, (.int .i64 jt)), (5, (.bool false)), (4, (.pointer (some ⟨b3, 0, none⟩))), (3, (.pointer (some ⟨b1, 0, none⟩))), (0, (.pointer (some ⟨b, 0, none⟩))), (1, (.agg #[(.int .i64 ch), (.int .i64 fr), (.int .i64 ve), (.int .i64 it), (.int .i64 ix), (.bool ky), (.string da), (.int .i64 re), (.int .i64 ga), (.string ca), (.int .i64 os), (.int .i64 oF), (.slice A al.length c)]))]) (by kernel_rfl)
                        refine then_normal ?_
                        refine w_if H rfl (fun g134 => ?_) (fun g134 => ?_)
                        · have g134p := not_is_true g134
                          refine wp_seq ?_
                          refine w_region ?_
                          refine H.val 135 (.agg #[(.int .i64 0), (.int .i64 0), (.int .i64 0), (.bool false), (.bool false)]) (by kernel_rfl) (by kernel_rfl) ?_
                          intro a H
                          refine H.store HP 5 b3 0 5 71 [(.int .i64 0), (.int .i64 0), (.int .i64 0), (.bool false), (.bool false)] true (.agg #[(.int .i64 0), (.int .i64 0), (.int .i64 0), (.bool false), (.bool false)]) [bx b31 100 [(.func (.func 43) #[(.pointer (some ⟨b, 0, none⟩))] #[])] true, bx b25 100 [(.func (.func 42) #[(.pointer (some ⟨b, 0, none⟩))] #[])] true, bx b21 71 [(.int .i64 jt), (.int .i64 (fr - os)), (.int .i64 ((PX.data.size : Nat) : Int)), (.bool PX.key), (.bool true)] true, bx b18 53 [(.bool PX.key), (.string PX.data), (.int .i64 PX.power)] true, bx b12 49 [(.int .i64 fa.item), (.slice (some ⟨bb, off, none⟩) fa.pics.length cf)] true, bx b3 71 [(.int .i64 0), (.int .i64 0), (.int .i64 0), (.bool false), (.bool false)] true, bx b1 46 [(.int .i64 ch), (.int .i64 fr), (.int .i64 ve), (.int .i64 it), (.int .i64 ix), (.bool ky), (.string da), (.int .i64 re), (.int .i64 ga), (.string ca), (.int .i64 os), (.int .i64 oF), (.slice A al.length c)] true] (by kernel_rfl) (by kernel_rfl) (by kernel_rfl) rfl (by kernel_rfl) (by kernel_rfl) (by kernel_rfl) (by kernel_rfl) (by kernel_rfl) ?_
                          intro w36 a H HP
                          refine H.val 5 (.bool false) (by kernel_rfl) (by kernel_rfl) ?_
                          intro a H
                          refine wpList_nil ?_
                          refine then_normal ?_
                          refine wp_ret ?_
                          refine then_ret ?_
                          refine H.ret2 (fn := Try.f30) Try.results30 (RV.cellN (vs := [(.int .i64 0), (.int .i64 0), (.int .i64 0), (.bool false), (.bool false)]) (b := b3) (off := 0) (k := 5) (by kernel_rfl) (by kernel_rfl) (by kernel_rfl) rfl (HP.cells 5 rfl 0 5 (by kernel_rfl))) (RV.tmp_ (v := (.bool false)) (by kernel_rfl)) ?_
                          refine ⟨?_, (HP.below (by kernel_rfl))⟩
                          rw [altP_yes k s ⟨ch, fr, ve, it, ix, ky, da, re, ga, ca, os, oF, A, c, al⟩ hJ hjt hF hfa hPX g25p (by simp only; omega) (by simp only; omega) g57p (by simp only; omega) (by simp only; omega)]
                          have hz : altOk k.store s ⟨ch, fr, ve, it, ix, ky, da, re, ga, ca, os, oF, A, c, al⟩ ⟨jt, fr - os, PX.data.size, PX.key, true⟩ fa.pics.length = false := by
                            unfold altOk
                            simp only
                            rw [g95p]
                            rw [g116p]
                            rw [g126p]
                            rw [g134p]
                            have e1 : fr - os = 0 := by omega
                            have e2 : oF ≤ (fa.pics.length : Int) := by omega
                            simp [e1, e2]
                          rw [if_neg (by rw [hz]; simp)]
                          rfl
                        · have g134p := not_is_false g134
                          refine wp_skip ?_
                          refine then_normal ?_
                          refine wp_seq ?_
                          refine w_region ?_
                          refine H.val 136 (.agg #[(.int .i64 jt), (.int .i64 (fr - os)), (.int .i64 ((PX.data.size : Nat) : Int)), (.bool PX.key), (.bool true)]) (by kernel_rfl) (ex_loadN (vs := [(.int .i64 jt), (.int .i64 (fr - os)), (.int .i64 ((PX.data.size : Nat) : Int)), (.bool PX.key), (.bool true)]) (by kernel_rfl) (by kernel_rfl) (by kernel_rfl) rfl (HP.cells 2 rfl 0 5 (by kernel_rfl))) ?_
                          intro a H
                          refine H.store HP 5 b3 0 5 71 [(.int .i64 0), (.int .i64 0), (.int .i64 0), (.bool false), (.bool false)] true (.agg #[(.int .i64 jt), (.int .i64 (fr - os)), (.int .i64 ((PX.data.size : Nat) : Int)), (.bool PX.key), (.bool true)]) [bx b31 100 [(.func (.func 43) #[(.pointer (some ⟨b, 0, none⟩))] #[])] true, bx b25 100 [(.func (.func 42) #[(.pointer (some ⟨b, 0, none⟩))] #[])] true, bx b21 71 [(.int .i64 jt), (.int .i64 (fr - os)), (.int .i64 ((PX.data.size : Nat) : Int)), (.bool PX.key), (.bool true)] true, bx b18 53 [(.bool PX.key), (.string PX.data), (.int .i64 PX.power)] true, bx b12 49 [(.int .i64 fa.item), (.slice (some ⟨bb, off, none⟩) fa.pics.length cf)] true, bx b3 71 [(.int .i64 jt), (.int .i64 (fr - os)), (.int .i64 ((PX.data.size : Nat) : Int)), (.bool PX.key), (.bool true)] true, bx b1 46 [(.int .i64 ch), (.int .i64 fr), (.int .i64 ve), (.int .i64 it), (.int .i64 ix), (.bool ky), (.string da), (.int .i64 re), (.int .i64 ga), (.string ca), (.int .i64 os), (.int .i64 oF), (.slice A al.length c)] true] (by kernel_rfl) (by kernel_rfl) (by kernel_rfl) rfl (by kernel_rfl) (by kernel_rfl) (by kernel_rfl) (by kernel_rfl) (by kernel_rfl) ?_
                          intro w37 a H HP
                          refine H.val 5 (.bool true) (by kernel_rfl) (by kernel_rfl) ?_
                          intro a H
                          refine wpList_nil ?_
                          refine then_normal ?_
                          refine wp_ret ?_
                          refine H.ret2 (fn := Try.f30) Try.results30 (RV.cellN (vs := [(.int .i64 jt), (.int .i64 (fr - os)), (.int .i64 ((PX.data.size : Nat) : Int)), (.bool PX.key), (.bool true)]) (b := b3) (off := 0) (k := 5) (by kernel_rfl) (by kernel_rfl) (by kernel_rfl) rfl (HP.cells 5 rfl 0 5 (by kernel_rfl))) (RV.tmp_ (v := (.bool true)) (by kernel_rfl)) ?_
                          refine ⟨?_, (HP.below (by kernel_rfl))⟩
                          rw [altP_yes k s ⟨ch, fr, ve, it, ix, ky, da, re, ga, ca, os, oF, A, c, al⟩ hJ hjt hF hfa hPX g25p (by simp only; omega) (by simp only; omega) g57p (by simp only; omega) (by simp only; omega)]
                          have hz : altOk k.store s ⟨ch, fr, ve, it, ix, ky, da, re, ga, ca, os, oF, A, c, al⟩ ⟨jt, fr - os, PX.data.size, PX.key, true⟩ fa.pics.length = true := by
                            unfold altOk
                            simp only
                            rw [g95p]
                            rw [g116p]
                            rw [g126p]
                            rw [g134p]
                            have e1 : fr - os = 0 := by omega
                            have e2 : oF ≤ (fa.pics.length : Int) := by omega
                            simp [e1, e2]
                          rw [if_pos (by rw [hz])]
                          rfl
                      · have g126p := not_is_false g126
                        refine H.skip 127 (by kernel_rfl) ?_
                        intro a H
                        refine H.skip 128 (by kernel_rfl) ?_
                        intro a H
                        refine H.skip 129 (by kernel_rfl) ?_
                        intro a H
                        refine H.skip 130 (by kernel_rfl) ?_
                        intro a H
                        refine H.skip 131 (by kernel_rfl) ?_
                        intro a H
                        refine H.skip 132 (by kernel_rfl) ?_
                        intro a H
                        refine H.skip 133 (by kernel_rfl) ?_
                        intro a H
                        refine H.val 134 (.bool false) (by kernel_rfl) (by kernel_rfl) ?_
                        intro a H
                        refine wpList_nil ?_
                        have H := H.keep (L' := [(134, (.bool false)), (118, (.func (.func 44) #[] #[(.pointer (some ⟨b1, 0, none⟩))])), (116, (.bool (!(mayP k.store s ⟨jt, fr - os, PX.data.size, PX.key, true⟩ [.ent])))), (95, (.bool (mayP k.store s ⟨jt, fr - os, PX.data.size, PX.key, true⟩ [.cont]))), (11, (.pointer (some ⟨b21, 0, none⟩))), (10, (.pointer (some ⟨b18, 0, none⟩))), (78, (.agg #[(.bool PX.key), (.string PX.data), (.int .i64 PX.power)])), (77, (.pointer (some ⟨bb, off + (fr - os).toNat * 3, none⟩))), (76, (.int .u64 (fr - os))), (75, (.slice (some ⟨bb, off, none⟩) fa.pics.length cf)), (74, (.pointer (some ⟨b12, 1, none⟩))), (72, (.bool (decide ((fr - os) ≥ ((fa.pics.length : Nat) : Int))))), (7, (.bool F.isSome)), (9, (.pointer (some ⟨b12, 0, none⟩))), (8, (.int .u64 (fr - os))), (38, (.bool (decide (oF ≤ 0)))), (6, (.int .i64 jt)), (5, (.bool false)), (4, (.pointer (some ⟨b3, 0, none⟩))), (3, (.pointer (some ⟨b1, 0, none⟩))), (0, (.pointer (some ⟨b, 0, none⟩))), (1, (.agg #[(.int .i64 ch), (.int .i64 fr), (.int .i64 ve), (.int .i64 it), (.int .i64 ix), (.bool ky), (.string da), (.int .i64 re), (.int .i64 ga), (.string ca), (.int .i64 os), (.int .i64 oF), (.slice A al.length c)]))]) (by kernel_rfl)
                        refine then_normal ?_
                        refine w_iff H rfl ?_
                        refine wp_skip ?_
                        refine then_normal ?_
                        refine wp_seq ?_
                        refine w_region ?_
                        refine H.val 136 (.agg #[(.int .i64 jt), (.int .i64 (fr - os)), (.int .i64 ((PX.data.size : Nat) : Int)), (.bool PX.key), (.bool true)]) (by kernel_rfl) (ex_loadN (vs := [(.int .i64 jt), (.int .i64 (fr - os)), (.int .i64 ((PX.data.size : Nat) : Int)), (.bool PX.key), (.bool true)]) (by kernel_rfl) (by kernel_rfl) (by kernel_rfl) rfl (HP.cells 2 rfl 0 5 (by kernel_rfl))) ?_
                        intro a H
                        refine H.store HP 5 b3 0 5 71 [(.int .i64 0), (.int .i64 0), (.int .i64 0), (.bool false), (.bool false)] true (.agg #[(.int .i64 jt), (.int .i64 (fr - os)), (.int .i64 ((PX.data.size : Nat) : Int)), (.bool PX.key), (.bool true)]) [bx b31 100 [(.func (.func 43) #[(.pointer (some ⟨b, 0, none⟩))] #[])] true, bx b25 100 [(.func (.func 42) #[(.pointer (some ⟨b, 0, none⟩))] #[])] true, bx b21 71 [(.int .i64 jt), (.int .i64 (fr - os)), (.int .i64 ((PX.data.size : Nat) : Int)), (.bool PX.key), (.bool true)] true, bx b18 53 [(.bool PX.key), (.string PX.data), (.int .i64 PX.power)] true, bx b12 49 [(.int .i64 fa.item), (.slice (some ⟨bb, off, none⟩) fa.pics.length cf)] true, bx b3 71 [(.int .i64 jt), (.int .i64 (fr - os)), (.int .i64 ((PX.data.size : Nat) : Int)), (.bool PX.key), (.bool true)] true, bx b1 46 [(.int .i64 ch), (.int .i64 fr), (.int .i64 ve), (.int .i64 it), (.int .i64 ix), (.bool ky), (.string da), (.int .i64 re), (.int .i64 ga), (.string ca), (.int .i64 os), (.int .i64 oF), (.slice A al.length c)] true] (by kernel_rfl) (by kernel_rfl) (by kernel_rfl) rfl (by kernel_rfl) (by kernel_rfl) (by kernel_rfl) (by kernel_rfl) (by kernel_rfl) ?_
                        intro w38 a H HP
                        refine H.val 5 (.bool true) (by kernel_rfl) (by kernel_rfl) ?_
                        intro a H
                        refine wpList_nil ?_
                        refine then_normal ?_
                        refine wp_ret ?_
                        refine H.ret2 (fn := Try.f30) Try.results30 (RV.cellN (vs := [(.int .i64 jt), (.int .i64 (fr - os)), (.int .i64 ((PX.data.size : Nat) : Int)), (.bool PX.key), (.bool true)]) (b := b3) (off := 0) (k := 5) (by kernel_rfl) (by kernel_rfl) (by kernel_rfl) rfl (HP.cells 5 rfl 0 5 (by kernel_rfl))) (RV.tmp_ (v := (.bool true)) (by kernel_rfl)) ?_
                        refine ⟨?_, (HP.below (by kernel_rfl))⟩
                        rw [altP_yes k s ⟨ch, fr, ve, it, ix, ky, da, re, ga, ca, os, oF, A, c, al⟩ hJ hjt hF hfa hPX g25p (by simp only; omega) (by simp only; omega) g57p (by simp only; omega) (by simp only; omega)]
                        have hz : altOk k.store s ⟨ch, fr, ve, it, ix, ky, da, re, ga, ca, os, oF, A, c, al⟩ ⟨jt, fr - os, PX.data.size, PX.key, true⟩ fa.pics.length = true := by
                          unfold altOk
                          simp only
                          rw [g95p]
                          rw [g116p]
                          rw [g126p]
                          have e1 : fr - os = 0 := by omega
                          have e2 : oF ≤ (fa.pics.length : Int) := by omega
                          simp [e1, e2]
                        rw [if_pos (by rw [hz])]
                        rfl
end Go.Proofs.Ytpaepefpfaoacaa
