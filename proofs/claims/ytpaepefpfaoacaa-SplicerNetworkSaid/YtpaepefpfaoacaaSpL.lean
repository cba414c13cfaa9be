/- Contracts of show and note, with the rows named. -/
import Derived.Test.YtpaepefpfaoacaaSpK
namespace Go.Proofs.Ytpaepefpfaoacaa
open Go.ChangeShapes Go.WideShapes Go.ChangeAt Go.RowKit
set_option linter.unusedVariables false
set_option linter.unusedSimpArgs false

theorem row_lt {w : World} {size n j : Nat} {A : Option Addr} {xs : List Value} (h : Rd w size A n xs) (hj : rowFp n A j) : j < w.heap.size := by
  obtain ⟨hn, off, rfl⟩ := hj
  obtain ⟨b, off', e, hlt, _⟩ := h.2.resolve_left (by omega)
  cases e
  exact hlt
theorem Rd.of_box3 {w : World} {b t n : Nat} {vs : List Value} (h : Box w b t vs.toArray) (hl : vs.length = n * 3) : Rd w 3 (some ⟨b, 0, none⟩) n vs :=
  ⟨hl, .inr ⟨b, 0, rfl, h.lt, fun i hi => by
    have hi' : i < vs.length := by omega
    rw [Nat.zero_add, List.getElem?_eq_getElem hi']
    exact h.cell (by simp [List.getElem?_eq_getElem hi'])⟩⟩
theorem itemP_of {r jt : Int} {al : Alts} {J : Option Int} (hJ : itemP r al = J) (hjt : J.getD 0 = jt) (h : J.isSome = true) : itemP r al = some jt := by
  cases J with
  | none => cases h
  | some x => simp only [Option.getD_some] at hjt; rw [hJ, hjt]
theorem notedP_nil {r jt : Int} {l : List Note} {u : UnitA} {J : Option Int} (hJ : itemP r u.al = J) (hjt : J.getD 0 = jt) (h : J.isSome = false ∨ u.of ≤ 0) : notedP r l u = [] := by
  unfold notedP
  rw [hJ]
  cases J with
  | none => rfl
  | some x => simp only; rw [if_pos (by simpa using h)]
theorem spok_of {w : World} {b : Nat} {k : SpK} {s : Sp} {NA : Option Addr} {nc : Nat} (hx : Box w b 76 (spCells k s NA nc)) (hno : IsNotes w NA s.noted.length s.noted) (hoff : Off b NA) (hst : IsAsts w k.SA k.store.length k.store)
    (h1 : Off b k.SA) (h2 : ∀ a ∈ k.store, Off b a.A) (h3 : k.store.length ≤ maxLen) (h4 : ∀ a ∈ k.store, a.pics.length ≤ 2000000) (h5 : s.noted.length ≤ 1) : SpOk w b k s := ⟨⟨NA, nc, hx, hno, hoff⟩, hst, h1, h2, h3, h4, h5⟩
/-- A slice of assets that is kept. -/
def astsK (A : Option Addr) (n : Nat) (l : List AstA) : FK := ⟨fun j => rowFp n A j ∨ ∃ a ∈ l, rowFp a.pics.length a.A j, fun w => IsAsts w A n l⟩
theorem astsK_ok (A : Option Addr) (n : Nat) (l : List AstA) : (astsK A n l).ok := fun _ _ h hk hs =>
  ⟨⟨h.1.1, h.1.2.keep (fun j hj => hk j (.inl hj)) hs⟩, fun a ha => ⟨⟨(h.2 a ha).1.1, (h.2 a ha).1.2.keep (fun j hj => hk j (.inr ⟨a, ha, hj⟩)) hs⟩, (h.2 a ha).2⟩⟩
theorem asts_lt {w : World} {A : Option Addr} {n j : Nat} {l : List AstA} (h : IsAsts w A n l) (hj : rowFp n A j ∨ ∃ a ∈ l, rowFp a.pics.length a.A j) : j < w.heap.size := by
  rcases hj with hj | ⟨a, ha, hj⟩
  · exact row_lt h.1.2 hj
  · exact row_lt (h.2 a ha).1.2 hj
theorem asts_off {b : Nat} {A : Option Addr} {n j : Nat} {l : List AstA} (h1 : Off b A) (h2 : ∀ a ∈ l, Off b a.A) (hj : rowFp n A j ∨ ∃ a ∈ l, rowFp a.pics.length a.A j) : b ≠ j := by
  rcases hj with ⟨_, off, e⟩ | ⟨a, ha, _, off, e⟩
  · exact fun e' => h1 j off e e'.symm
  · exact fun e' => h2 a ha j off e e'.symm
theorem set_lt {w0 w : World} {L : List HB} {K : List FK} (H : Hp w0 w L K) {i : Nat} {x x' : HB} (hi : L[i]? = some x) (hb : ∀ k, x'.fp k → x.fp k) : ∀ y ∈ L.set i x', ∀ k, y.fp k → k < w.heap.size := by
  intro y hy
  rcases List.mem_or_eq_of_mem_set hy with hy | rfl
  · exact H.lt y hy
  · exact fun k hk => H.lt x (List.mem_of_getElem? hi) k (hb k hk)
set_option maxRecDepth 100000 in
set_option maxHeartbeats 4000000 in
theorem show2 (b : Nat) (k : SpK) (s : Sp) (p : P5) (w : World) (NA : Option Addr) (nc : Nat) (hx : Box w b 76 (spCells k s NA nc)) :
    Calls Try.prog 32 #[.pointer (some ⟨b, 0, none⟩), p.val] w fun e w' => e = .returned (.tuple #[]) ∧ Box w' b 76 (spCells k (s.shown p) NA nc) ∧ w.grownBy w' (some b) := by
  have HP := Hp.own (vs := [(.int .i64 s.full), (.int .i64 s.last.item), (.int .i64 s.last.index), (.int .i64 s.last.size), (.bool s.last.key), (.bool s.last.alt), (.bool true), (.int .i64 k.channel), (.int .i64 k.region), (.slice k.SA k.store.length k.sc), (.slice NA s.noted.length nc)]) hx
  refine w_enter 21 [(0, (.pointer (some ⟨b, 0, none⟩))), (1, (.agg #[(.int .i64 p.item), (.int .i64 p.index), (.int .i64 p.size), (.bool p.key), (.bool p.alt)]))] Try.func32 rfl Try.ntmps32 (by kernel_rfl) (by kernel_rfl) ?_
  intro a H
  refine wp_seq ?_
  refine w_region ?_
  refine H.alloc HP 3 (fun b => (.pointer (some ⟨b, 0, none⟩))) 71 [(.int .i64 p.item), (.int .i64 p.index), (.int .i64 p.size), (.bool p.key), (.bool p.alt)] (by kernel_rfl) (fun w => by kernel_rfl) ?_
  intro b_1 w_2 a H HP
  refine wpList_nil ?_
  refine then_normal ?_
  refine wp_seq ?_
  refine An.start (fun v => Hp w v [bx b_1 71 [(.int .i64 p.item), (.int .i64 p.index), (.int .i64 p.size), (.bool p.key), (.bool p.alt)] true, bx b 76 [(.int .i64 s.full), (.int .i64 s.last.item), (.int .i64 s.last.index), (.int .i64 s.last.size), (.bool s.last.key), (.bool s.last.alt), (.bool true), (.int .i64 k.channel), (.int .i64 k.region), (.slice k.SA k.store.length k.sc), (.slice NA s.noted.length nc)] false] []) 13 14 HP wide_follows rfl ?_
  intro w_3 HP
  refine An.pure H (.inr (HP)) 0 5 (.pointer (some ⟨b, 0, none⟩)) rfl (by kernel_rfl) (by kernel_rfl) (fun _ _ _ h => h) (fun _ => by kernel_rfl) ?_
  intro a H
  refine An.pure H (.inr (HP)) 1 6 (.pointer (some ⟨b, 0, none⟩)) rfl (by kernel_rfl) (by kernel_rfl) (fun _ _ _ h => h) (fun _ => by kernel_rfl) ?_
  intro a H
  refine An.pure H (.inr (HP)) 2 7 (.pointer (some ⟨b, 0, none⟩)) rfl (by kernel_rfl) (by kernel_rfl) (fun _ _ _ h => h) (fun _ => by kernel_rfl) ?_
  intro a H
  refine An.pure H (.inr (HP)) 3 8 (.pointer (some ⟨b, 0, none⟩)) rfl (by kernel_rfl) (by kernel_rfl) (fun _ _ _ h => h) (fun _ => by kernel_rfl) ?_
  intro a H
  refine An.val H (HP) 4 9 (.int .i64 s.full) rfl (by kernel_rfl) (by kernel_rfl) (fun _ _ _ h => h) (fun _ hS => ex_load1 (by kernel_rfl) (by kernel_rfl) (hS.cell 1 rfl 0 rfl)) ?_
  intro a H
  refine An.pure H (.inr (HP)) 5 10 (.pointer (some ⟨b_1, 2, none⟩)) rfl (by kernel_rfl) (by kernel_rfl) (fun _ _ _ h => h) (fun _ => by kernel_rfl) ?_
  intro a H
  refine An.val H (HP) 6 11 (.int .i64 p.size) rfl (by kernel_rfl) (by kernel_rfl) (fun _ _ _ h => h) (fun _ hS => ex_load1 (by kernel_rfl) (by kernel_rfl) (hS.cell 0 rfl 2 rfl)) ?_
  intro a H
  refine An.one 7 (by kernel_rfl) ?_
  refine Op.call H 12 rfl (by kernel_rfl) (Eq.trans (by kernel_rfl : _ = (callFunc 45 #[(.int .i64 s.full), (.int .i64 p.size)]).run Try.prog w_3) (Try.call45 _ _)) (vbvStep_any s.full p.size w_3) ?_
  rintro e w_4 ⟨rfl, hw⟩
  refine ⟨_, rfl, ?_⟩
  intro a H
  have HP := hw ▸ HP
  refine ⟨.inr (HP), ?_⟩
  refine An.pure H (.inr (HP)) 8 4 (.tuple #[(.int .i64 ((vstep s.full p.size).getD 0)), (.bool ((vstep s.full p.size).isSome))]) rfl (by kernel_rfl) (by kernel_rfl) (fun _ _ _ h => h) (fun _ => by kernel_rfl) ?_
  intro a H
  refine An.pure H (.inr (HP)) 9 13 (.int .i64 ((vstep s.full p.size).getD 0)) rfl (by kernel_rfl) (by kernel_rfl) (fun _ _ _ h => h) (fun _ => by kernel_rfl) ?_
  intro a H
  refine An.pure H (.inr (HP)) 10 14 (.bool ((vstep s.full p.size).isSome)) rfl (by kernel_rfl) (by kernel_rfl) (fun _ _ _ h => h) (fun _ => by kernel_rfl) ?_
  intro a H
  refine An.pure H (.inr (HP)) 11 15 (.pointer (some ⟨b, 0, none⟩)) rfl (by kernel_rfl) (by kernel_rfl) (fun _ _ _ h => h) (fun _ => by kernel_rfl) ?_
  intro a H
  refine An.pure H (.inr (HP)) 12 16 (.pointer (some ⟨b, 0, none⟩)) rfl (by kernel_rfl) (by kernel_rfl) (fun _ _ _ h => h) (fun _ => by kernel_rfl) ?_
  intro a H
  refine An.one 13 (by kernel_rfl) ?_
  refine Op.store H HP 1 b 0 1 76 [(.int .i64 s.full), (.int .i64 s.last.item), (.int .i64 s.last.index), (.int .i64 s.last.size), (.bool s.last.key), (.bool s.last.alt), (.bool true), (.int .i64 k.channel), (.int .i64 k.region), (.slice k.SA k.store.length k.sc), (.slice NA s.noted.length nc)] false (.int .i64 ((vstep s.full p.size).getD 0)) [bx b_1 71 [(.int .i64 p.item), (.int .i64 p.index), (.int .i64 p.size), (.bool p.key), (.bool p.alt)] true, bx b 76 [(.int .i64 ((vstep s.full p.size).getD 0)), (.int .i64 s.last.item), (.int .i64 s.last.index), (.int .i64 s.last.size), (.bool s.last.key), (.bool s.last.alt), (.bool true), (.int .i64 k.channel), (.int .i64 k.region), (.slice k.SA k.store.length k.sc), (.slice NA s.noted.length nc)] false] rfl (by kernel_rfl) (by kernel_rfl) (by kernel_rfl) rfl (by kernel_rfl) (by kernel_rfl) (by kernel_rfl) (by kernel_rfl) (by kernel_rfl) ?_
  intro w_5 a H HP
  refine ⟨.inl (by kernel_rfl), ?_⟩
  refine An.done (by kernel_rfl) ?_
  have H := H.keep (L' := [(4, (.tuple #[(.int .i64 ((vstep s.full p.size).getD 0)), (.bool ((vstep s.full p.size).isSome))])), (6, (.pointer (some ⟨b, 0, none⟩))), (5, (.pointer (some ⟨b, 0, none⟩))), (3, (.pointer (some ⟨b_1, 0, none⟩))), (0, (.pointer (some ⟨b, 0, none⟩))), (1, (.agg #[(.int .i64 p.item), (.int .i64 p.index), (.int .i64 p.size), (.bool p.key), (.bool p.alt)]))]) (by kernel_rfl)
  refine then_normal ?_
  refine w_region ?_
  refine H.val 17 (.pointer (some ⟨b, 0, none⟩)) (by kernel_rfl) (by kernel_rfl) ?_
  intro a H
  refine H.val 18 (.agg #[(.int .i64 p.item), (.int .i64 p.index), (.int .i64 p.size), (.bool p.key), (.bool p.alt)]) (by kernel_rfl) (ex_loadN (vs := [(.int .i64 p.item), (.int .i64 p.index), (.int .i64 p.size), (.bool p.key), (.bool p.alt)]) (by kernel_rfl) (by kernel_rfl) (by kernel_rfl) rfl (HP.cells 0 rfl 0 5 (by kernel_rfl))) ?_
  intro a H
  refine H.val 19 (.pointer (some ⟨b, 0, none⟩)) (by kernel_rfl) (by kernel_rfl) ?_
  intro a H
  refine H.val 20 (.pointer (some ⟨b, 1, none⟩)) (by kernel_rfl) (by kernel_rfl) ?_
  intro a H
  refine H.store HP 1 b 1 5 76 [(.int .i64 ((vstep s.full p.size).getD 0)), (.int .i64 s.last.item), (.int .i64 s.last.index), (.int .i64 s.last.size), (.bool s.last.key), (.bool s.last.alt), (.bool true), (.int .i64 k.channel), (.int .i64 k.region), (.slice k.SA k.store.length k.sc), (.slice NA s.noted.length nc)] false (.agg #[(.int .i64 p.item), (.int .i64 p.index), (.int .i64 p.size), (.bool p.key), (.bool p.alt)]) [bx b_1 71 [(.int .i64 p.item), (.int .i64 p.index), (.int .i64 p.size), (.bool p.key), (.bool p.alt)] true, bx b 76 [(.int .i64 ((vstep s.full p.size).getD 0)), (.int .i64 p.item), (.int .i64 p.index), (.int .i64 p.size), (.bool p.key), (.bool p.alt), (.bool true), (.int .i64 k.channel), (.int .i64 k.region), (.slice k.SA k.store.length k.sc), (.slice NA s.noted.length nc)] false] (by kernel_rfl) (by kernel_rfl) (by kernel_rfl) rfl (by kernel_rfl) (by kernel_rfl) (by kernel_rfl) (by kernel_rfl) (by kernel_rfl) ?_
  intro w_6 a H HP
  refine wpList_nil ?_
  refine H.end0 (fn := Try.f32) Try.results32  ?_
  exact ⟨rfl, HP.at_ 1 rfl, HP.only b (by intro x hx; simp only [List.mem_cons, List.not_mem_nil, or_false] at hx; rcases hx with rfl | rfl <;> simp [bx])⟩
set_option maxRecDepth 100000 in
set_option maxHeartbeats 4000000 in
theorem note2 (b : Nat) (k : SpK) (s : Sp) (u : UnitA) (w : World) (NA : Option Addr) (nc : Nat) (hx : Box w b 76 (spCells k s NA nc)) (hno : IsNotes w NA s.noted.length s.noted) (hoff : Off b NA) (hn1 : s.noted.length ≤ 1) (hu : u.ok w) (hua : ∀ j, rowFp u.al.length u.A j → j ≠ b) :
    Calls Try.prog 29 #[.pointer (some ⟨b, 0, none⟩), u.val] w fun e w' => e = .returned (.tuple #[]) ∧ ∃ NA' nc', Box w' b 76 (spCells k (s.noting k.region u) NA' nc') ∧ IsNotes w' NA' (s.noting k.region u).noted.length (s.noting k.region u).noted ∧ Off b NA' ∧ (∀ bk o, NA' = some ⟨bk, o, none⟩ → (NA' = NA ∧ (s.noting k.region u).noted = s.noted) ∨ w.heap.size ≤ bk) ∧ (s.noting k.region u).noted.length ≤ 1 ∧ w.grownBy w' (some b) := by
  obtain ⟨ch, fr, ve, it, ix, ky, da, re, ga, ca, os, oF, A, c, al⟩ := u
  obtain ⟨hal, hall, _⟩ := hu
  simp only at hal hall hua
  have CI := fun w h => item_any os oF A al.length c al k.region w h hall
  obtain ⟨J, hJ⟩ : ∃ J, itemP k.region al = J := ⟨_, rfl⟩
  obtain ⟨jt, hjt⟩ : ∃ jt, J.getD 0 = jt := ⟨_, rfl⟩
  rw [hJ, hjt] at CI
  have HP := ((Hp.own (vs := [(.int .i64 s.full), (.int .i64 s.last.item), (.int .i64 s.last.index), (.int .i64 s.last.size), (.bool s.last.key), (.bool s.last.alt), (.bool true), (.int .i64 k.channel), (.int .i64 k.region), (.slice k.SA k.store.length k.sc), (.slice NA s.noted.length nc)]) hx).keepF ⟨fun j => rowFp al.length A j, fun w => IsAlts w A al.length al⟩ hal (fun _ _ h hk hs => ⟨h.1, h.2.keep hk hs⟩) (fun j hj => ⟨row_lt hal.2 hj, fun x hx e => by rcases List.mem_singleton.1 hx with rfl; exact hua j hj e⟩)).keepF (rowK 3 Note.cells NA s.noted.length s.noted) hno (rowK_ok _ _ _ _ _) (fun j hj => ⟨row_lt hno.2 hj, fun x hx e => by rcases List.mem_singleton.1 hx with rfl; exact hoff j _ hj.2.choose_spec e⟩)
  refine w_enter 47 [(0, (.pointer (some ⟨b, 0, none⟩))), (1, (.agg #[(.int .i64 ch), (.int .i64 fr), (.int .i64 ve), (.int .i64 it), (.int .i64 ix), (.bool ky), (.string da), (.int .i64 re), (.int .i64 ga), (.string ca), (.int .i64 os), (.int .i64 oF), (.slice A al.length c)]))] Try.func29 rfl Try.ntmps29 (by kernel_rfl) (by kernel_rfl) ?_
  intro a H
  refine wp_seq ?_
  refine w_region ?_
  refine H.alloc HP 3 (fun b => (.pointer (some ⟨b, 0, none⟩))) 46 [(.int .i64 ch), (.int .i64 fr), (.int .i64 ve), (.int .i64 it), (.int .i64 ix), (.bool ky), (.string da), (.int .i64 re), (.int .i64 ga), (.string ca), (.int .i64 os), (.int .i64 oF), (.slice A al.length c)] (by kernel_rfl) (fun w => by kernel_rfl) ?_
  intro b_1 w_2 a H HP
  refine wpList_nil ?_
  refine then_normal ?_
  refine w_cut (fun a v => ∃ (bi : Nat), Sl 47 [(5, (.bool J.isSome)), (4, (.pointer (some ⟨bi, 0, none⟩))), (3, (.pointer (some ⟨b_1, 0, none⟩))), (0, (.pointer (some ⟨b, 0, none⟩)))] a ∧ Hp w v [bx bi 3 [(.int .i64 jt)] true, bx b_1 46 [(.int .i64 ch), (.int .i64 fr), (.int .i64 ve), (.int .i64 it), (.int .i64 ix), (.bool ky), (.string da), (.int .i64 re), (.int .i64 ga), (.string ca), (.int .i64 os), (.int .i64 oF), (.slice A al.length c)] true, bx b 76 [(.int .i64 s.full), (.int .i64 s.last.item), (.int .i64 s.last.index), (.int .i64 s.last.size), (.bool s.last.key), (.bool s.last.alt), (.bool true), (.int .i64 k.channel), (.int .i64 k.region), (.slice k.SA k.store.length k.sc), (.slice NA s.noted.length nc)] false] [(rowK 3 Note.cells NA s.noted.length s.noted), ⟨fun j => rowFp al.length A j, fun w => IsAlts w A al.length al⟩]) ?_ ?_
  ·
    refine An.start (fun v => Hp w v [bx b_1 46 [(.int .i64 ch), (.int .i64 fr), (.int .i64 ve), (.int .i64 it), (.int .i64 ix), (.bool ky), (.string da), (.int .i64 re), (.int .i64 ga), (.string ca), (.int .i64 os), (.int .i64 oF), (.slice A al.length c)] true, bx b 76 [(.int .i64 s.full), (.int .i64 s.last.item), (.int .i64 s.last.index), (.int .i64 s.last.size), (.bool s.last.key), (.bool s.last.alt), (.bool true), (.int .i64 k.channel), (.int .i64 k.region), (.slice k.SA k.store.length k.sc), (.slice NA s.noted.length nc)] false] [(rowK 3 Note.cells NA s.noted.length s.noted), ⟨fun j => rowFp al.length A j, fun w => IsAlts w A al.length al⟩]) 13 13 HP wide_follows rfl ?_
    intro w_3 HP
    refine An.pure H (.inr (HP)) 0 8 (.pointer (some ⟨b_1, 10, none⟩)) rfl (by kernel_rfl) (by kernel_rfl) (fun _ _ _ h => h) (fun _ => by kernel_rfl) ?_
    intro a H
    refine An.val H (HP) 1 9 (.agg #[(.int .i64 os), (.int .i64 oF), (.slice A al.length c)]) rfl (by kernel_rfl) (by kernel_rfl) (fun _ _ _ h => h) (fun _ hS => ex_loadN (vs := [(.int .i64 os), (.int .i64 oF), (.slice A al.length c)]) (by kernel_rfl) (by kernel_rfl) (by kernel_rfl) rfl (hS.cells 0 rfl 10 3 (by kernel_rfl))) ?_
    intro a H
    refine An.pure H (.inr (HP)) 2 10 (.pointer (some ⟨b, 0, none⟩)) rfl (by kernel_rfl) (by kernel_rfl) (fun _ _ _ h => h) (fun _ => by kernel_rfl) ?_
    intro a H
    refine An.pure H (.inr (HP)) 3 11 (.pointer (some ⟨b, 0, none⟩)) rfl (by kernel_rfl) (by kernel_rfl) (fun _ _ _ h => h) (fun _ => by kernel_rfl) ?_
    intro a H
    refine An.pure H (.inr (HP)) 4 12 (.pointer (some ⟨b, 8, none⟩)) rfl (by kernel_rfl) (by kernel_rfl) (fun _ _ _ h => h) (fun _ => by kernel_rfl) ?_
    intro a H
    refine An.val H (HP) 5 13 (.int .i64 k.region) rfl (by kernel_rfl) (by kernel_rfl) (fun _ _ _ h => h) (fun _ hS => ex_load1 (by kernel_rfl) (by kernel_rfl) (hS.cell 1 rfl 8 rfl)) ?_
    intro a H
    refine An.two 6 10 (by kernel_rfl) ?_ ?_
    · refine Op.call H 14 rfl (by kernel_rfl) (Eq.trans (by kernel_rfl : _ = (callFunc 36 #[(.agg #[(.int .i64 os), (.int .i64 oF), (.slice A al.length c)]), (.int .i64 k.region)]).run Try.prog w_3) (Try.call36 _ _)) (CI w_3 (HP.fact 1 rfl)) ?_
      rintro e w_4 ⟨rfl, hb⟩
      refine ⟨_, rfl, ?_⟩
      intro a H
      have HP := HP.next hb
      refine ⟨.inr (HP), ?_⟩
      refine An.pure H (.inr (HP)) 7 7 (.tuple #[(.int .i64 jt), (.bool J.isSome)]) rfl (by kernel_rfl) (by kernel_rfl) (fun _ _ _ h => h) (fun _ => by kernel_rfl) ?_
      intro a H
      refine An.pure H (.inr (HP)) 8 15 (.int .i64 jt) rfl (by kernel_rfl) (by kernel_rfl) (fun _ _ _ h => h) (fun _ => by kernel_rfl) ?_
      intro a H
      refine An.pure H (.inr (HP)) 9 16 (.bool J.isSome) rfl (by kernel_rfl) (by kernel_rfl) (fun _ _ _ h => h) (fun _ => by kernel_rfl) ?_
      intro a H
      refine An.one 10 (by kernel_rfl) ?_
      refine Op.alloc H HP 4 (fun b => (.pointer (some ⟨b, 0, none⟩))) 3 [(.int .i64 0)] rfl (by kernel_rfl) (fun w => by kernel_rfl) ?_
      intro b_5 w_6 a H HP
      refine ⟨.inr ((HP.tail rfl)), ?_⟩
      refine An.one 11 (by kernel_rfl) ?_
      refine Op.store H HP 0 b_5 0 1 3 [(.int .i64 0)] true (.int .i64 jt) [bx b_5 3 [(.int .i64 jt)] true, bx b_1 46 [(.int .i64 ch), (.int .i64 fr), (.int .i64 ve), (.int .i64 it), (.int .i64 ix), (.bool ky), (.string da), (.int .i64 re), (.int .i64 ga), (.string ca), (.int .i64 os), (.int .i64 oF), (.slice A al.length c)] true, bx b 76 [(.int .i64 s.full), (.int .i64 s.last.item), (.int .i64 s.last.index), (.int .i64 s.last.size), (.bool s.last.key), (.bool s.last.alt), (.bool true), (.int .i64 k.channel), (.int .i64 k.region), (.slice k.SA k.store.length k.sc), (.slice NA s.noted.length nc)] false] rfl (by kernel_rfl) (by kernel_rfl) (by kernel_rfl) rfl (by kernel_rfl) (by kernel_rfl) (by kernel_rfl) (by kernel_rfl) (by kernel_rfl) ?_
      intro w_7 a H HP
      refine ⟨.inr ((HP.tail rfl)), ?_⟩
      refine An.pure H (.inr ((HP.tail rfl))) 12 5 (.bool J.isSome) rfl (by kernel_rfl) (by kernel_rfl) (fun _ _ _ h => h) (fun _ => by kernel_rfl) ?_
      intro a H
      refine An.done (by kernel_rfl) ?_
      have H := H.keep (L' := [(5, (.bool J.isSome)), (4, (.pointer (some ⟨b_5, 0, none⟩))), (3, (.pointer (some ⟨b_1, 0, none⟩))), (0, (.pointer (some ⟨b, 0, none⟩))), (1, (.agg #[(.int .i64 ch), (.int .i64 fr), (.int .i64 ve), (.int .i64 it), (.int .i64 ix), (.bool ky), (.string da), (.int .i64 re), (.int .i64 ga), (.string ca), (.int .i64 os), (.int .i64 oF), (.slice A al.length c)]))]) (by kernel_rfl)
      refine then_normal ?_
      exact ⟨b_5, H.keep (by kernel_rfl), HP⟩
    · refine Op.alloc H HP 4 (fun b => (.pointer (some ⟨b, 0, none⟩))) 3 [(.int .i64 0)] rfl (by kernel_rfl) (fun w => by kernel_rfl) ?_
      intro b_8 w_9 a H HP
      refine ⟨.inr ((HP.tail rfl)), ?_⟩
      refine An.one 6 (by kernel_rfl) ?_
      refine Op.call H 14 rfl (by kernel_rfl) (Eq.trans (by kernel_rfl : _ = (callFunc 36 #[(.agg #[(.int .i64 os), (.int .i64 oF), (.slice A al.length c)]), (.int .i64 k.region)]).run Try.prog w_9) (Try.call36 _ _)) (CI w_9 (HP.fact 1 rfl)) ?_
      rintro e w_10 ⟨rfl, hb⟩
      refine ⟨_, rfl, ?_⟩
      intro a H
      have HP := HP.next hb
      refine ⟨.inr ((HP.tail rfl)), ?_⟩
      refine An.pure H (.inr ((HP.tail rfl))) 7 7 (.tuple #[(.int .i64 jt), (.bool J.isSome)]) rfl (by kernel_rfl) (by kernel_rfl) (fun _ _ _ h => h) (fun _ => by kernel_rfl) ?_
      intro a H
      refine An.pure H (.inr ((HP.tail rfl))) 8 15 (.int .i64 jt) rfl (by kernel_rfl) (by kernel_rfl) (fun _ _ _ h => h) (fun _ => by kernel_rfl) ?_
      intro a H
      refine An.pure H (.inr ((HP.tail rfl))) 9 16 (.bool J.isSome) rfl (by kernel_rfl) (by kernel_rfl) (fun _ _ _ h => h) (fun _ => by kernel_rfl) ?_
      intro a H
      refine An.one 11 (by kernel_rfl) ?_
      refine Op.store H HP 0 b_8 0 1 3 [(.int .i64 0)] true (.int .i64 jt) [bx b_8 3 [(.int .i64 jt)] true, bx b_1 46 [(.int .i64 ch), (.int .i64 fr), (.int .i64 ve), (.int .i64 it), (.int .i64 ix), (.bool ky), (.string da), (.int .i64 re), (.int .i64 ga), (.string ca), (.int .i64 os), (.int .i64 oF), (.slice A al.length c)] true, bx b 76 [(.int .i64 s.full), (.int .i64 s.last.item), (.int .i64 s.last.index), (.int .i64 s.last.size), (.bool s.last.key), (.bool s.last.alt), (.bool true), (.int .i64 k.channel), (.int .i64 k.region), (.slice k.SA k.store.length k.sc), (.slice NA s.noted.length nc)] false] rfl (by kernel_rfl) (by kernel_rfl) (by kernel_rfl) rfl (by kernel_rfl) (by kernel_rfl) (by kernel_rfl) (by kernel_rfl) (by kernel_rfl) ?_
      intro w_11 a H HP
      refine ⟨.inr ((HP.tail rfl)), ?_⟩
      refine An.pure H (.inr ((HP.tail rfl))) 12 5 (.bool J.isSome) rfl (by kernel_rfl) (by kernel_rfl) (fun _ _ _ h => h) (fun _ => by kernel_rfl) ?_
      intro a H
      refine An.done (by kernel_rfl) ?_
      have H := H.keep (L' := [(5, (.bool J.isSome)), (4, (.pointer (some ⟨b_8, 0, none⟩))), (3, (.pointer (some ⟨b_1, 0, none⟩))), (0, (.pointer (some ⟨b, 0, none⟩))), (1, (.agg #[(.int .i64 ch), (.int .i64 fr), (.int .i64 ve), (.int .i64 it), (.int .i64 ix), (.bool ky), (.string da), (.int .i64 re), (.int .i64 ga), (.string ca), (.int .i64 os), (.int .i64 oF), (.slice A al.length c)]))]) (by kernel_rfl)
      refine then_normal ?_
      exact ⟨b_8, H.keep (by kernel_rfl), HP⟩
  ·
    rintro a w_12 ⟨bi, H, HP⟩
    refine wp_seq ?_
    refine wp_seq ?_
    refine w_region ?_
    refine H.val 17 (.bool J.isSome) (by kernel_rfl) (by kernel_rfl) ?_
    intro a H
    refine H.val 18 (.bool (!J.isSome)) (by kernel_rfl) (by kernel_rfl) ?_
    intro a H
    refine H.val 19 (.bool (!J.isSome)) (by kernel_rfl) (by kernel_rfl) ?_
    intro a H
    refine H.split 19 rfl (fun g19 H => ?_) (fun g19 H => ?_)
    · have g19p := not_is_true g19
      refine H.skip 20 (by kernel_rfl) ?_
      intro a H
      refine H.skip 21 (by kernel_rfl) ?_
      intro a H
      refine H.skip 22 (by kernel_rfl) ?_
      intro a H
      refine H.skip 23 (by kernel_rfl) ?_
      intro a H
      refine H.val 24 (.bool true) (by kernel_rfl) (by kernel_rfl) ?_
      intro a H
      refine wpList_nil ?_
      have H := H.keep (L' := [(24, (.bool true)), (5, (.bool J.isSome)), (4, (.pointer (some ⟨bi, 0, none⟩))), (3, (.pointer (some ⟨b_1, 0, none⟩))), (0, (.pointer (some ⟨b, 0, none⟩)))]) (by kernel_rfl)
      refine then_normal ?_
      refine w_ift H rfl ?_
      refine wp_seq ?_
      refine w_region ?_
      refine H.val 25 (.pointer (some ⟨b, 0, none⟩)) (by kernel_rfl) (by kernel_rfl) ?_
      intro a H
      refine H.val 26 (.pointer (some ⟨b, 0, none⟩)) (by kernel_rfl) (by kernel_rfl) ?_
      intro a H
      refine H.val 27 (.pointer (some ⟨b, 10, none⟩)) (by kernel_rfl) (by kernel_rfl) ?_
      intro a H
      refine H.store HP 2 b 10 1 76 [(.int .i64 s.full), (.int .i64 s.last.item), (.int .i64 s.last.index), (.int .i64 s.last.size), (.bool s.last.key), (.bool s.last.alt), (.bool true), (.int .i64 k.channel), (.int .i64 k.region), (.slice k.SA k.store.length k.sc), (.slice NA s.noted.length nc)] false (.slice none 0 0) [bx bi 3 [(.int .i64 jt)] true, bx b_1 46 [(.int .i64 ch), (.int .i64 fr), (.int .i64 ve), (.int .i64 it), (.int .i64 ix), (.bool ky), (.string da), (.int .i64 re), (.int .i64 ga), (.string ca), (.int .i64 os), (.int .i64 oF), (.slice A al.length c)] true, bx b 76 [(.int .i64 s.full), (.int .i64 s.last.item), (.int .i64 s.last.index), (.int .i64 s.last.size), (.bool s.last.key), (.bool s.last.alt), (.bool true), (.int .i64 k.channel), (.int .i64 k.region), (.slice k.SA k.store.length k.sc), (.slice none 0 0)] false] (by kernel_rfl) (by kernel_rfl) (by kernel_rfl) rfl (by kernel_rfl) (by kernel_rfl) (by kernel_rfl) (by kernel_rfl) (by kernel_rfl) ?_
      intro w_13 a H HP
      refine wpList_nil ?_
      refine then_normal ?_
      refine wp_ret ?_
      refine then_ret ?_
      refine H.ret0 (fn := Try.f29) Try.results29  ?_
      have hq : notedP k.region s.noted ⟨ch, fr, ve, it, ix, ky, da, re, ga, ca, os, oF, A, c, al⟩ = [] := notedP_nil hJ hjt (.inl g19p)
      unfold Sp.noting
      rw [hq]
      exact ⟨rfl, none, 0, HP.at_ 2 rfl, IsRow.nil _ _, (fun _ _ e => by cases e), (fun _ _ e => by cases e), by simp, HP.only b (by intro x hx; simp only [List.mem_cons, List.not_mem_nil, or_false] at hx; rcases hx with rfl | rfl | rfl <;> simp [bx])⟩
    · have g19p := not_is_false g19
      refine H.val 20 (.pointer (some ⟨b_1, 10, none⟩)) (by kernel_rfl) (by kernel_rfl) ?_
      intro a H
      refine H.val 21 (.pointer (some ⟨b_1, 11, none⟩)) (by kernel_rfl) (by kernel_rfl) ?_
      intro a H
      refine H.val 22 (.int .i64 oF) (by kernel_rfl) (ex_load1 (by kernel_rfl) (by kernel_rfl) (HP.cell 1 rfl 11 rfl)) ?_
      intro a H
      refine H.val 23 (.bool (decide (oF ≤ 0))) (by kernel_rfl) (by kernel_rfl) ?_
      intro a H
      refine H.val 24 (.bool (decide (oF ≤ 0))) (by kernel_rfl) (by kernel_rfl) ?_
      intro a H
      refine wpList_nil ?_
      have H := H.keep (L' := [(24, (.bool (decide (oF ≤ 0)))), (5, (.bool J.isSome)), (4, (.pointer (some ⟨bi, 0, none⟩))), (3, (.pointer (some ⟨b_1, 0, none⟩))), (0, (.pointer (some ⟨b, 0, none⟩)))]) (by kernel_rfl)
      refine then_normal ?_
      refine w_if H rfl (fun g24 => ?_) (fun g24 => ?_)
      · have g24p := of_decide_eq_true g24
        refine wp_seq ?_
        refine w_region ?_
        refine H.val 25 (.pointer (some ⟨b, 0, none⟩)) (by kernel_rfl) (by kernel_rfl) ?_
        intro a H
        refine H.val 26 (.pointer (some ⟨b, 0, none⟩)) (by kernel_rfl) (by kernel_rfl) ?_
        intro a H
        refine H.val 27 (.pointer (some ⟨b, 10, none⟩)) (by kernel_rfl) (by kernel_rfl) ?_
        intro a H
        refine H.store HP 2 b 10 1 76 [(.int .i64 s.full), (.int .i64 s.last.item), (.int .i64 s.last.index), (.int .i64 s.last.size), (.bool s.last.key), (.bool s.last.alt), (.bool true), (.int .i64 k.channel), (.int .i64 k.region), (.slice k.SA k.store.length k.sc), (.slice NA s.noted.length nc)] false (.slice none 0 0) [bx bi 3 [(.int .i64 jt)] true, bx b_1 46 [(.int .i64 ch), (.int .i64 fr), (.int .i64 ve), (.int .i64 it), (.int .i64 ix), (.bool ky), (.string da), (.int .i64 re), (.int .i64 ga), (.string ca), (.int .i64 os), (.int .i64 oF), (.slice A al.length c)] true, bx b 76 [(.int .i64 s.full), (.int .i64 s.last.item), (.int .i64 s.last.index), (.int .i64 s.last.size), (.bool s.last.key), (.bool s.last.alt), (.bool true), (.int .i64 k.channel), (.int .i64 k.region), (.slice k.SA k.store.length k.sc), (.slice none 0 0)] false] (by kernel_rfl) (by kernel_rfl) (by kernel_rfl) rfl (by kernel_rfl) (by kernel_rfl) (by kernel_rfl) (by kernel_rfl) (by kernel_rfl) ?_
        intro w_14 a H HP
        refine wpList_nil ?_
        refine then_normal ?_
        refine wp_ret ?_
        refine then_ret ?_
        refine H.ret0 (fn := Try.f29) Try.results29  ?_
        have hq : notedP k.region s.noted ⟨ch, fr, ve, it, ix, ky, da, re, ga, ca, os, oF, A, c, al⟩ = [] := notedP_nil hJ hjt (.inr g24p)
        unfold Sp.noting
        rw [hq]
        exact ⟨rfl, none, 0, HP.at_ 2 rfl, IsRow.nil _ _, (fun _ _ e => by cases e), (fun _ _ e => by cases e), by simp, HP.only b (by intro x hx; simp only [List.mem_cons, List.not_mem_nil, or_false] at hx; rcases hx with rfl | rfl | rfl <;> simp [bx])⟩
      · have g24p := of_decide_eq_false g24
        refine wp_skip ?_
        refine then_normal ?_
        refine wp_seq ?_
        refine w_region ?_
        refine H.val 28 (.func (.func 37) #[] #[(.pointer (some ⟨b_1, 0, none⟩)), (.pointer (some ⟨bi, 0, none⟩))]) (by kernel_rfl) (by kernel_rfl) ?_
        intro a H
        refine H.val 6 (.func (.func 37) #[] #[(.pointer (some ⟨b_1, 0, none⟩)), (.pointer (some ⟨bi, 0, none⟩))]) (by kernel_rfl) (by kernel_rfl) ?_
        intro a H
        refine wpList_nil ?_
        refine then_normal ?_
        refine wp_seq ?_
        refine w_region ?_
        refine H.val 29 (.pointer (some ⟨b, 0, none⟩)) (by kernel_rfl) (by kernel_rfl) ?_
        intro a H
        refine H.val 30 (.pointer (some ⟨b, 0, none⟩)) (by kernel_rfl) (by kernel_rfl) ?_
        intro a H
        refine H.val 31 (.pointer (some ⟨b, 10, none⟩)) (by kernel_rfl) (by kernel_rfl) ?_
        intro a H
        refine H.val 32 (.slice NA s.noted.length nc) (by kernel_rfl) (ex_load1 (by kernel_rfl) (by kernel_rfl) (HP.cell 2 rfl 10 rfl)) ?_
        intro a H
        refine H.val 33 (.func (.func 37) #[] #[(.pointer (some ⟨b_1, 0, none⟩)), (.pointer (some ⟨bi, 0, none⟩))]) (by kernel_rfl) (by kernel_rfl) ?_
        intro a H
        refine H.call 34 (by kernel_rfl) (Eq.trans (by kernel_rfl : _ = (callFunc 38 #[(.slice NA s.noted.length nc), (.func (.func 37) #[] #[(.pointer (some ⟨b_1, 0, none⟩)), (.pointer (some ⟨bi, 0, none⟩))])]).run Try.prog w_12) (Try.call38 _ _)) (hasN_same NA s.noted.length nc s.noted os jt b_1 bi w_12 (HP.fact 0 rfl) (by unfold maxLen; omega) (HP.cell 1 rfl 10 rfl) (HP.cell 0 rfl 0 rfl)) ?_
        rintro e w_15 ⟨rfl, hb⟩
        refine ⟨_, rfl, ?_⟩
        intro a H
        have HP := HP.next hb
        refine H.val 35 (.bool (!(s.noted.any (Note.same os jt)))) (by kernel_rfl) (by kernel_rfl) ?_
        intro a H
        refine wpList_nil ?_
        have H := H.keep (L' := [(35, (.bool (!(s.noted.any (Note.same os jt))))), (6, (.func (.func 37) #[] #[(.pointer (some ⟨b_1, 0, none⟩)), (.pointer (some ⟨bi, 0, none⟩))])), (28, (.func (.func 37) #[] #[(.pointer (some ⟨b_1, 0, none⟩)), (.pointer (some ⟨bi, 0, none⟩))])), (24, (.bool (decide (oF ≤ 0)))), (5, (.bool J.isSome)), (4, (.pointer (some ⟨bi, 0, none⟩))), (3, (.pointer (some ⟨b_1, 0, none⟩))), (0, (.pointer (some ⟨b, 0, none⟩)))]) (by kernel_rfl)
        refine then_normal ?_
        refine w_if H rfl (fun g35 => ?_) (fun g35 => ?_)
        · have g35p := not_is_true g35
          refine w_region ?_
          refine H.val 36 (.pointer (some ⟨b, 0, none⟩)) (by kernel_rfl) (by kernel_rfl) ?_
          intro a H
          refine H.val 37 (.pointer (some ⟨b_1, 10, none⟩)) (by kernel_rfl) (by kernel_rfl) ?_
          intro a H
          refine H.val 38 (.pointer (some ⟨b_1, 10, none⟩)) (by kernel_rfl) (by kernel_rfl) ?_
          intro a H
          refine H.val 39 (.int .i64 os) (by kernel_rfl) (ex_load1 (by kernel_rfl) (by kernel_rfl) (HP.cell 1 rfl 10 rfl)) ?_
          intro a H
          refine H.val 40 (.int .i64 jt) (by kernel_rfl) (ex_load1 (by kernel_rfl) (by kernel_rfl) (HP.cell 0 rfl 0 rfl)) ?_
          intro a H
          refine H.val 41 (.pointer (some ⟨b_1, 1, none⟩)) (by kernel_rfl) (by kernel_rfl) ?_
          intro a H
          refine H.val 42 (.int .i64 fr) (by kernel_rfl) (ex_load1 (by kernel_rfl) (by kernel_rfl) (HP.cell 1 rfl 1 rfl)) ?_
          intro a H
          refine H.val 43 (.agg #[(.int .i64 os), (.int .i64 jt), (.int .i64 fr)]) (by kernel_rfl) (by kernel_rfl) ?_
          intro a H
          refine H.alloc HP 44 (fun b => (.slice (some ⟨b, 0, none⟩) 1 1)) 94 [(.int .i64 os), (.int .i64 jt), (.int .i64 fr)] (by kernel_rfl) (fun w => by kernel_rfl) ?_
          intro b_16 w_17 a H HP
          refine H.val 45 (.pointer (some ⟨b, 0, none⟩)) (by kernel_rfl) (by kernel_rfl) ?_
          intro a H
          refine H.val 46 (.pointer (some ⟨b, 10, none⟩)) (by kernel_rfl) (by kernel_rfl) ?_
          intro a H
          refine H.store HP 3 b 10 1 76 [(.int .i64 s.full), (.int .i64 s.last.item), (.int .i64 s.last.index), (.int .i64 s.last.size), (.bool s.last.key), (.bool s.last.alt), (.bool true), (.int .i64 k.channel), (.int .i64 k.region), (.slice k.SA k.store.length k.sc), (.slice NA s.noted.length nc)] false (.slice (some ⟨b_16, 0, none⟩) 1 1) [bx b_16 94 [(.int .i64 os), (.int .i64 jt), (.int .i64 fr)] true, bx bi 3 [(.int .i64 jt)] true, bx b_1 46 [(.int .i64 ch), (.int .i64 fr), (.int .i64 ve), (.int .i64 it), (.int .i64 ix), (.bool ky), (.string da), (.int .i64 re), (.int .i64 ga), (.string ca), (.int .i64 os), (.int .i64 oF), (.slice A al.length c)] true, bx b 76 [(.int .i64 s.full), (.int .i64 s.last.item), (.int .i64 s.last.index), (.int .i64 s.last.size), (.bool s.last.key), (.bool s.last.alt), (.bool true), (.int .i64 k.channel), (.int .i64 k.region), (.slice k.SA k.store.length k.sc), (.slice (some ⟨b_16, 0, none⟩) 1 1)] false] (by kernel_rfl) (by kernel_rfl) (by kernel_rfl) rfl (by kernel_rfl) (by kernel_rfl) (by kernel_rfl) (by kernel_rfl) (by kernel_rfl) ?_
          intro w_18 a H HP
          refine wpList_nil ?_
          have H := H.keep (L' := [(35, (.bool (!(s.noted.any (Note.same os jt))))), (6, (.func (.func 37) #[] #[(.pointer (some ⟨b_1, 0, none⟩)), (.pointer (some ⟨bi, 0, none⟩))])), (28, (.func (.func 37) #[] #[(.pointer (some ⟨b_1, 0, none⟩)), (.pointer (some ⟨bi, 0, none⟩))])), (24, (.bool (decide (oF ≤ 0)))), (5, (.bool J.isSome)), (4, (.pointer (some ⟨bi, 0, none⟩))), (3, (.pointer (some ⟨b_1, 0, none⟩))), (0, (.pointer (some ⟨b, 0, none⟩)))]) (by kernel_rfl)
          refine H.end0 (fn := Try.f29) Try.results29  ?_
          have hq : notedP k.region s.noted ⟨ch, fr, ve, it, ix, ky, da, re, ga, ca, os, oF, A, c, al⟩ = [⟨os, jt, fr⟩] := notedP_new (itemP_of hJ hjt g19p) (by simp only; omega) g35p
          unfold Sp.noting
          rw [hq]
          exact ⟨rfl, some ⟨b_16, 0, none⟩, 1, HP.at_ 3 rfl, ⟨rfl, Rd.of_box3 (HP.at_ 0 rfl) rfl⟩, (fun b' o e => by cases e; exact fun e => pairwise_at HP.apart (i := 0) (j := 3) rfl rfl (by omega) _ rfl e), (fun b' o e => by cases e; exact .inr (HP.fresh _ (List.mem_cons_self ..) rfl _ rfl)), by simp, HP.only b (by intro x hx; simp only [List.mem_cons, List.not_mem_nil, or_false] at hx; rcases hx with rfl | rfl | rfl | rfl <;> simp [bx])⟩
        · have g35p := not_is_false g35
          refine wp_skip ?_
          refine H.end0 (fn := Try.f29) Try.results29  ?_
          have hq : notedP k.region s.noted ⟨ch, fr, ve, it, ix, ky, da, re, ga, ca, os, oF, A, c, al⟩ = s.noted := notedP_same (itemP_of hJ hjt g19p) (by simp only; omega) g35p
          unfold Sp.noting
          rw [hq]
          exact ⟨rfl, NA, nc, HP.at_ 2 rfl, HP.fact 0 rfl, hoff, (fun _ _ _ => .inl ⟨rfl, rfl⟩), hn1, HP.only b (by intro x hx; simp only [List.mem_cons, List.not_mem_nil, or_false] at hx; rcases hx with rfl | rfl | rfl <;> simp [bx])⟩
end Go.Proofs.Ytpaepefpfaoacaa
