/- Contract of Step. -/
import Derived.Test.YtpaepefpfaoacaaSpL
import Derived.Scope
namespace Go.Proofs.Ytpaepefpfaoacaa
open Go.ChangeShapes Go.WideShapes Go.ChangeAt Go.RowKit
set_option linter.unusedVariables false
set_option linter.unusedSimpArgs false

abbrev shownV (p : P5) (ver : Int) : Value := .agg #[.int .i64 p.item, .int .i64 p.index, .int .i64 ver]
def Sp.inv (s : Sp) : Prop := -9223372036854775808 ≤ s.last.index ∧ ∀ n ∈ s.noted, -9223372036854775808 ≤ n.frame
/-- What a unit of the channel makes of the state: the picture that is shown. -/
def pickP (k : SpK) (s : Sp) (u : UnitA) : P5 :=
  match altP k s u with
  | some p => p
  | none => if (bitP u.regions k.region && mayP k.store s (netP u) [.cont, .ent]) = true then netP u else p5Z
def stepS (k : SpK) (s : Sp) (u : UnitA) : P5 × Int × Sp :=
  if u.channel ≠ k.channel then (p5Z, 0, s.shown p5Z)
  else if u.item = 0 then (p5Z, u.version, s.shown p5Z)
  else (pickP k (s.noting k.region u) u, u.version, (s.noting k.region u).shown (pickP k (s.noting k.region u) u))
theorem stepS_other (k : SpK) (s : Sp) (u : UnitA) (h : u.channel ≠ k.channel) : stepS k s u = (p5Z, 0, Sp.shown ⟨s.full, s.last, s.noted⟩ p5Z) := by unfold stepS; rw [if_pos h]
theorem stepS_slate (k : SpK) (s : Sp) (u : UnitA) (h : u.channel = k.channel) (h0 : u.item = 0) : stepS k s u = (p5Z, u.version, Sp.shown ⟨s.full, s.last, s.noted⟩ p5Z) := by
  unfold stepS; rw [if_neg (by simp [h]), if_pos h0]
theorem stepS_alt (k : SpK) (s : Sp) (u : UnitA) {NL : List Note} {X : Option P5} {px : P5} (h : u.channel = k.channel) (h0 : u.item ≠ 0) (hNL : notedP k.region s.noted u = NL) (hX : altP k ⟨s.full, s.last, NL⟩ u = X) (hpx : X.getD p5Z = px) (hs : X.isSome = true) :
    stepS k s u = (px, u.version, Sp.shown ⟨s.full, s.last, NL⟩ px) := by
  unfold stepS Sp.noting pickP
  rw [if_neg (by simp [h]), if_neg h0, hNL, hX]
  cases X with
  | none => cases hs
  | some x => simp only [Option.getD_some] at hpx; subst hpx; rfl
theorem stepS_net (k : SpK) (s : Sp) (u : UnitA) {NL : List Note} {X : Option P5} {nb : Bool} (h : u.channel = k.channel) (h0 : u.item ≠ 0) (hNL : notedP k.region s.noted u = NL) (hX : altP k ⟨s.full, s.last, NL⟩ u = X) (hn : X = none) (hnb : (bitP u.regions k.region && mayP k.store ⟨s.full, s.last, NL⟩ (netP u) [.cont, .ent]) = nb) (hs : nb = true) :
    stepS k s u = (netP u, u.version, Sp.shown ⟨s.full, s.last, NL⟩ (netP u)) := by
  unfold stepS Sp.noting pickP
  rw [if_neg (by simp [h]), if_neg h0, hNL, hX, hn]
  simp only
  rw [if_pos (hnb.trans hs)]
theorem stepS_none (k : SpK) (s : Sp) (u : UnitA) {NL : List Note} {X : Option P5} {nb : Bool} (h : u.channel = k.channel) (h0 : u.item ≠ 0) (hNL : notedP k.region s.noted u = NL) (hX : altP k ⟨s.full, s.last, NL⟩ u = X) (hn : X = none) (hnb : (bitP u.regions k.region && mayP k.store ⟨s.full, s.last, NL⟩ (netP u) [.cont, .ent]) = nb) (hs : nb = false) :
    stepS k s u = (p5Z, u.version, Sp.shown ⟨s.full, s.last, NL⟩ p5Z) := by
  unfold stepS Sp.noting pickP
  rw [if_neg (by simp [h]), if_neg h0, hNL, hX, hn]
  simp only
  rw [if_neg (by rw [hnb, hs]; simp)]
/-- A splicer as it lies in memory, its rows named. -/
def SpN (w : World) (b : Nat) (k : SpK) (s : Sp) (NA : Option Addr) (nc : Nat) : Prop :=
  Box w b 76 (spCells k s NA nc) ∧ IsNotes w NA s.noted.length s.noted ∧ Off b NA ∧ IsAsts w k.SA k.store.length k.store ∧ Off b k.SA ∧ (∀ a ∈ k.store, Off b a.A) ∧ k.store.length ≤ maxLen ∧ (∀ a ∈ k.store, a.pics.length ≤ 2000000) ∧ s.noted.length ≤ 1
theorem SpN.ok {w : World} {b : Nat} {k : SpK} {s : Sp} {NA : Option Addr} {nc : Nat} (h : SpN w b k s NA nc) : SpOk w b k s := ⟨⟨NA, nc, h.1, h.2.1, h.2.2.1⟩, h.2.2.2⟩
def splFp (b : Nat) (k : SpK) (s : Sp) (NA : Option Addr) (j : Nat) : Prop := j = b ∨ (rowFp k.store.length k.SA j ∨ ∃ a ∈ k.store, rowFp a.pics.length a.A j) ∨ rowFp s.noted.length NA j
/-- A splicer that is held. -/
def splR (b : Nat) (k : SpK) (s : Sp) (NA : Option Addr) (nc : Nat) : HB := ⟨splFp b k s NA, fun w => SpN w b k s NA nc, true⟩
theorem splR_ok (b : Nat) (k : SpK) (s : Sp) (NA : Option Addr) (nc : Nat) : (splR b k s NA nc).ok := fun w1 w2 h hk hs => by
  obtain ⟨h1, h2, h3, h4, h5⟩ := h
  exact ⟨(hk b (.inl rfl)).trans h1, ⟨h2.1, h2.2.keep (fun j hj => hk j (.inr (.inr hj))) hs⟩, h3, astsK_ok _ _ _ w1 w2 h4 (fun j hj => hk j (.inr (.inl hj))) hs, h5⟩
theorem splR_lt {w : World} {b : Nat} {k : SpK} {s : Sp} {NA : Option Addr} {nc : Nat} (h : SpN w b k s NA nc) (j : Nat) (hj : splFp b k s NA j) : j < w.heap.size := by
  rcases hj with rfl | hj | hj
  · exact h.1.lt
  · exact asts_lt h.2.2.2.1 hj
  · exact row_lt h.2.1.2 hj
/-- A step of a splicer that is held. -/
theorem Hp.stepped {w0 w w' : World} {L : List HB} {K : List FK} (H : Hp w0 w L K) (i : Nat) {b : Nat} {k : SpK} {s s' : Sp} {NA NB : Option Addr} {nc cB : Nat} (hi : L[i]? = some (splR b k s NA nc)) (L' : List HB) (hL : L.set i (splR b k s' NB cB) = L') (h : SpN w' b k s' NB cB)
    (hq : ∀ bk o, NB = some ⟨bk, o, none⟩ → (NB = NA ∧ s'.noted = s.noted) ∨ w.heap.size ≤ bk) (hg : w.grownBy w' (some b)) : Hp w0 w' L' K :=
  H.mut i hi (splR b k s' NB cB) L' hL (Agree.of_grown hg fun k e => .inl (Option.some.inj e).symm) h (splR_ok _ _ _ _ _) (splR_lt h) (fun j hj => by
      rcases hj with rfl | hj | ⟨hn, off, e⟩
      · exact .inl (.inl rfl)
      · exact .inl (.inr (.inl hj))
      · rcases hq j off e with ⟨rfl, e'⟩ | h'
        · exact .inl (.inr (.inr ⟨by rw [← e']; exact hn, off, e⟩))
        · exact .inr h') (fun j hj hj' => by
      have := H.fresh _ (List.mem_of_getElem? hi) rfl j hj'
      omega) rfl
theorem notedP_frames {r : Int} {l : List Note} {u : UnitA} (h : ∀ n ∈ l, -9223372036854775808 ≤ n.frame) (hu : -9223372036854775808 ≤ u.frame) : ∀ n ∈ notedP r l u, -9223372036854775808 ≤ n.frame := by
  intro n hn
  unfold notedP at hn
  split at hn
  · cases hn
  · split at hn
    · cases hn
    · split at hn
      · exact h n hn
      · rcases List.mem_singleton.1 hn with rfl; exact hu
theorem none_of_not {X : Option P5} (h : X.isSome = false) : X = none := by simpa using h
theorem note_sep {w0 w w' : World} {L : List HB} {K K' : List FK} {i b t : Nat} {vs vs' : List Value} {f : Bool} {NA NB : Option Addr} {l l' : List Note} {L' : List HB} (H : Hp w0 w L K) (hi : L[i]? = some (bx b t vs f)) {K0 : FK} (hK : K0 = rowK 3 Note.cells NA l.length l) (hL : L.set i (bx b t vs' f) = L') (H1 : Hp w0 w' L' (K0 :: K'))
    (hq : ∀ bk o, NB = some ⟨bk, o, none⟩ → (NB = NA ∧ l' = l) ∨ w.heap.size ≤ bk) (hr : IsNotes w' NB l'.length l') {j : Nat} (hj : rowFp l'.length NB j) : j < w'.heap.size ∧ ∀ x ∈ L', ¬ x.fp j := by
  subst hK
  subst hL
  refine ⟨row_lt hr.2 hj, ?_⟩
  obtain ⟨hn, off, e⟩ := hj
  rcases hq j off e with ⟨rfl, rfl⟩ | h
  · exact ((H1.kept _ (List.mem_cons_self ..)).2.2 j ⟨hn, off, e⟩).2
  · intro x hx e
    have := set_lt H hi (x' := bx b t vs' f) (fun k hk => hk) x hx j e
    omega
theorem ex_index0 {P : Program} {ρ : Operand → Value} {w : World} {t e : TypeId} {x y : Operand} {dst : Option Tmp} {ty : TypeId} {pos : String} {af : Array Edge} {g : Option (Nat × Bool)} {b len cap m : Nat} {ik : IntKind}
    (hx : ρ x = .slice (some ⟨b, 0, none⟩) len cap) (hy : ρ y = .int ik m) (hlt : m < len) (hu : P.underlying t = some (.slice e)) (hs : sizeB P e = some 1) : (execOp ρ ⟨dst, .indexAddr t x y, ty, pos, af, g⟩).run P w = .ok (.value (.pointer (some ⟨b, m, none⟩))) w := by
  have := ex_index (P := P) (w := w) (dst := dst) (ty := ty) (pos := pos) (af := af) (g := g) hx hy rfl hlt hu hs
  simpa using this
set_option maxRecDepth 100000 in
set_option maxHeartbeats 4000000 in
theorem step_any (b : Nat) (k : SpK) (s : Sp) (u : UnitA) (w : World) (NA : Option Addr) (nc : Nat) (h : SpN w b k s NA nc) (hu : u.ok w) (hua : ∀ j, rowFp u.al.length u.A j → j ≠ b) (hr0 : 0 ≤ k.region) (hr1 : k.region ≤ 7) (hi : s.inv) :
    Calls Try.prog 14 #[.pointer (some ⟨b, 0, none⟩), u.val] w fun e w' => e = .returned (shownV (stepS k s u).1 (stepS k s u).2.1) ∧ ∃ NB cB, SpN w' b k (stepS k s u).2.2 NB cB ∧ (∀ bk o, NB = some ⟨bk, o, none⟩ → (NB = NA ∧ (stepS k s u).2.2.noted = s.noted) ∨ w.heap.size ≤ bk) ∧ w.grownBy w' (some b) := by
  obtain ⟨h1, hnf⟩ := hi
  obtain ⟨hx, hno, hoff, hst, hSA, hSo, hm, hp, hn1⟩ := h
  obtain ⟨ch, fr, ve, it, ix, ky, da, re, ga, ca, os, oF, A, c, al⟩ := u
  obtain ⟨hal, hall, ⟨u1, u2⟩, ⟨u7, u8⟩, ⟨u3, u4⟩, u5, u6⟩ := hu
  simp only at hal hall u1 u2 u3 u4 u5 u6 u7 u8 hua
  obtain ⟨NL, hNL⟩ : ∃ NL, notedP k.region s.noted ⟨ch, fr, ve, it, ix, ky, da, re, ga, ca, os, oF, A, c, al⟩ = NL := ⟨_, rfl⟩
  have hnf' : ∀ n ∈ NL, -9223372036854775808 ≤ n.frame := by rw [← hNL]; exact notedP_frames hnf u1
  obtain ⟨X, hX⟩ : ∃ X, altP k ⟨s.full, s.last, NL⟩ ⟨ch, fr, ve, it, ix, ky, da, re, ga, ca, os, oF, A, c, al⟩ = X := ⟨_, rfl⟩
  obtain ⟨px, hpx⟩ : ∃ px, X.getD p5Z = px := ⟨_, rfl⟩
  obtain ⟨nb, hnb⟩ : ∃ nb, (bitP re k.region && mayP k.store ⟨s.full, s.last, NL⟩ (netP ⟨ch, fr, ve, it, ix, ky, da, re, ga, ca, os, oF, A, c, al⟩) [.cont, .ent]) = nb := ⟨_, rfl⟩
  have CN := fun w hx hno hal => note2 b k s ⟨ch, fr, ve, it, ix, ky, da, re, ga, ca, os, oF, A, c, al⟩ w NA nc hx hno hoff hn1 ⟨hal, hall, ⟨u1, u2⟩, ⟨u7, u8⟩, ⟨u3, u4⟩, u5, u6⟩ hua
  have CA := fun w h hu => alt_any b k ⟨s.full, s.last, NL⟩ ⟨ch, fr, ve, it, ix, ky, da, re, ga, ca, os, oF, A, c, al⟩ w h hu h1 hnf'
  have CW := fun w h hu => network_any b k ⟨s.full, s.last, NL⟩ ⟨ch, fr, ve, it, ix, ky, da, re, ga, ca, os, oF, A, c, al⟩ w h hu hr0 hr1 h1
  unfold Sp.noting at CN
  simp only [hNL] at CN
  unfold p5V at CA
  simp only [hX, hpx] at CA
  simp only [hnb] at CW
  have HP := (((Hp.own (vs := [(.int .i64 s.full), (.int .i64 s.last.item), (.int .i64 s.last.index), (.int .i64 s.last.size), (.bool s.last.key), (.bool s.last.alt), (.bool true), (.int .i64 k.channel), (.int .i64 k.region), (.slice k.SA k.store.length k.sc), (.slice NA s.noted.length nc)]) hx).keepF ⟨fun j => rowFp al.length A j, fun w => IsAlts w A al.length al⟩ hal (fun _ _ h hk hs => ⟨h.1, h.2.keep hk hs⟩) (fun j hj => ⟨row_lt hal.2 hj, fun x hx e => by rcases List.mem_singleton.1 hx with rfl; exact hua j hj e⟩)).keepF (astsK k.SA k.store.length k.store) hst (astsK_ok _ _ _) (fun j hj => ⟨asts_lt hst hj, fun x hx e => by rcases List.mem_singleton.1 hx with rfl; exact asts_off hSA hSo hj e.symm⟩)).keepF (rowK 3 Note.cells NA s.noted.length s.noted) hno (rowK_ok _ _ _ _ _) (fun j hj => ⟨row_lt hno.2 hj, fun x hx e => by rcases List.mem_singleton.1 hx with rfl; exact hoff j _ hj.2.choose_spec e⟩)
  refine w_enter 70 [(0, (.pointer (some ⟨b, 0, none⟩))), (1, (.agg #[(.int .i64 ch), (.int .i64 fr), (.int .i64 ve), (.int .i64 it), (.int .i64 ix), (.bool ky), (.string da), (.int .i64 re), (.int .i64 ga), (.string ca), (.int .i64 os), (.int .i64 oF), (.slice A al.length c)]))] Try.func14 rfl Try.ntmps14 (by kernel_rfl) (by kernel_rfl) ?_
  intro a H
  refine wp_seq ?_
  refine w_region ?_
  refine H.alloc HP 3 (fun b => (.pointer (some ⟨b, 0, none⟩))) 46 [(.int .i64 ch), (.int .i64 fr), (.int .i64 ve), (.int .i64 it), (.int .i64 ix), (.bool ky), (.string da), (.int .i64 re), (.int .i64 ga), (.string ca), (.int .i64 os), (.int .i64 oF), (.slice A al.length c)] (by kernel_rfl) (fun w => by kernel_rfl) ?_
  intro b_1 w_2 a H HP
  refine H.alloc HP 4 (fun b => (.pointer (some ⟨b, 0, none⟩))) 36 [(.int .i64 0), (.int .i64 0), (.int .i64 0)] (by kernel_rfl) (fun w => by kernel_rfl) ?_
  intro b_3 w_4 a H HP
  refine wpList_nil ?_
  refine then_normal ?_
  refine wp_seq ?_
  refine wp_seq ?_
  refine w_region ?_
  refine H.val 11 (.pointer (some ⟨b, 0, none⟩)) (by kernel_rfl) (by kernel_rfl) ?_
  intro a H
  refine H.val 12 (.bool false) (by kernel_rfl) (by kernel_rfl) ?_
  intro a H
  refine H.val 13 (.bool false) (by kernel_rfl) (by kernel_rfl) ?_
  intro a H
  refine H.val 14 (.pointer (some ⟨b, 0, none⟩)) (by kernel_rfl) (by kernel_rfl) ?_
  intro a H
  refine H.val 15 (.pointer (some ⟨b, 0, none⟩)) (by kernel_rfl) (by kernel_rfl) ?_
  intro a H
  refine H.val 16 (.pointer (some ⟨b, 6, none⟩)) (by kernel_rfl) (by kernel_rfl) ?_
  intro a H
  refine H.val 17 (.bool true) (by kernel_rfl) (ex_load1 (by kernel_rfl) (by kernel_rfl) (HP.cell 2 rfl 6 rfl)) ?_
  intro a H
  refine H.val 18 (.bool false) (by kernel_rfl) (by kernel_rfl) ?_
  intro a H
  refine H.val 19 (.bool false) (by kernel_rfl) (by kernel_rfl) ?_
  intro a H
  refine wpList_nil ?_
  have H := H.keep (L' := [(19, (.bool false)), (4, (.pointer (some ⟨b_3, 0, none⟩))), (3, (.pointer (some ⟨b_1, 0, none⟩))), (0, (.pointer (some ⟨b, 0, none⟩))), (1, (.agg #[(.int .i64 ch), (.int .i64 fr), (.int .i64 ve), (.int .i64 it), (.int .i64 ix), (.bool ky), (.string da), (.int .i64 re), (.int .i64 ga), (.string ca), (.int .i64 os), (.int .i64 oF), (.slice A al.length c)]))]) (by kernel_rfl)
  refine then_normal ?_
  refine w_iff H rfl ?_
  refine wp_skip ?_
  refine then_normal ?_
  refine wp_seq ?_
  refine wp_seq ?_
  refine An.start (fun v => Hp w v [bx b_3 36 [(.int .i64 0), (.int .i64 0), (.int .i64 0)] true, bx b_1 46 [(.int .i64 ch), (.int .i64 fr), (.int .i64 ve), (.int .i64 it), (.int .i64 ix), (.bool ky), (.string da), (.int .i64 re), (.int .i64 ga), (.string ca), (.int .i64 os), (.int .i64 oF), (.slice A al.length c)] true, bx b 76 [(.int .i64 s.full), (.int .i64 s.last.item), (.int .i64 s.last.index), (.int .i64 s.last.size), (.bool s.last.key), (.bool s.last.alt), (.bool true), (.int .i64 k.channel), (.int .i64 k.region), (.slice k.SA k.store.length k.sc), (.slice NA s.noted.length nc)] false] [(rowK 3 Note.cells NA s.noted.length s.noted), (astsK k.SA k.store.length k.store), ⟨fun j => rowFp al.length A j, fun w => IsAlts w A al.length al⟩]) 7 7 HP wide_follows rfl ?_
  intro w_5 HP
  refine An.pure H (.inr (HP)) 0 21 (.pointer (some ⟨b_1, 0, none⟩)) rfl (by kernel_rfl) (by kernel_rfl) (fun _ _ _ h => h) (fun _ => by kernel_rfl) ?_
  intro a H
  refine An.val H (HP) 1 22 (.int .i64 ch) rfl (by kernel_rfl) (by kernel_rfl) (fun _ _ _ h => h) (fun _ hS => ex_load1 (by kernel_rfl) (by kernel_rfl) (hS.cell 1 rfl 0 rfl)) ?_
  intro a H
  refine An.pure H (.inr (HP)) 2 23 (.pointer (some ⟨b, 0, none⟩)) rfl (by kernel_rfl) (by kernel_rfl) (fun _ _ _ h => h) (fun _ => by kernel_rfl) ?_
  intro a H
  refine An.pure H (.inr (HP)) 3 24 (.pointer (some ⟨b, 0, none⟩)) rfl (by kernel_rfl) (by kernel_rfl) (fun _ _ _ h => h) (fun _ => by kernel_rfl) ?_
  intro a H
  refine An.pure H (.inr (HP)) 4 25 (.pointer (some ⟨b, 7, none⟩)) rfl (by kernel_rfl) (by kernel_rfl) (fun _ _ _ h => h) (fun _ => by kernel_rfl) ?_
  intro a H
  refine An.val H (HP) 5 26 (.int .i64 k.channel) rfl (by kernel_rfl) (by kernel_rfl) (fun _ _ _ h => h) (fun _ hS => ex_load1 (by kernel_rfl) (by kernel_rfl) (hS.cell 2 rfl 7 rfl)) ?_
  intro a H
  refine An.pure H (.inr (HP)) 6 27 (.bool (ch != k.channel)) rfl (by kernel_rfl) (by kernel_rfl) (fun _ _ _ h => h) (fun _ => by kernel_rfl) ?_
  intro a H
  refine An.done (by kernel_rfl) ?_
  have H := H.keep (L' := [(27, (.bool (ch != k.channel))), (19, (.bool false)), (4, (.pointer (some ⟨b_3, 0, none⟩))), (3, (.pointer (some ⟨b_1, 0, none⟩))), (0, (.pointer (some ⟨b, 0, none⟩))), (1, (.agg #[(.int .i64 ch), (.int .i64 fr), (.int .i64 ve), (.int .i64 it), (.int .i64 ix), (.bool ky), (.string da), (.int .i64 re), (.int .i64 ga), (.string ca), (.int .i64 os), (.int .i64 oF), (.slice A al.length c)]))]) (by kernel_rfl)
  refine then_normal ?_
  refine w_if H rfl (fun g27 => ?_) (fun g27 => ?_)
  · have g27p := bne_iff_ne.1 g27
    refine An.start (fun v => Hp w v [bx b_3 36 [(.int .i64 0), (.int .i64 0), (.int .i64 0)] true, bx b_1 46 [(.int .i64 ch), (.int .i64 fr), (.int .i64 ve), (.int .i64 it), (.int .i64 ix), (.bool ky), (.string da), (.int .i64 re), (.int .i64 ga), (.string ca), (.int .i64 os), (.int .i64 oF), (.slice A al.length c)] true, bx b 76 [(.int .i64 s.full), (.int .i64 s.last.item), (.int .i64 s.last.index), (.int .i64 s.last.size), (.bool s.last.key), (.bool s.last.alt), (.bool true), (.int .i64 k.channel), (.int .i64 k.region), (.slice k.SA k.store.length k.sc), (.slice NA s.noted.length nc)] false] [(rowK 3 Note.cells NA s.noted.length s.noted), (astsK k.SA k.store.length k.store), ⟨fun j => rowFp al.length A j, fun w => IsAlts w A al.length al⟩]) 7 8 HP wide_follows rfl ?_
    intro w_6 HP
    refine An.pure H (.inr (HP)) 0 28 (.pointer (some ⟨b, 0, none⟩)) rfl (by kernel_rfl) (by kernel_rfl) (fun _ _ _ h => h) (fun _ => by kernel_rfl) ?_
    intro a H
    refine An.pure H (.inr (HP)) 1 29 (.pointer (some ⟨b, 0, none⟩)) rfl (by kernel_rfl) (by kernel_rfl) (fun _ _ _ h => h) (fun _ => by kernel_rfl) ?_
    intro a H
    refine An.pure H (.inr (HP)) 2 30 (.pointer (some ⟨b, 7, none⟩)) rfl (by kernel_rfl) (by kernel_rfl) (fun _ _ _ h => h) (fun _ => by kernel_rfl) ?_
    intro a H
    refine An.val H (HP) 3 31 (.int .i64 k.channel) rfl (by kernel_rfl) (by kernel_rfl) (fun _ _ _ h => h) (fun _ hS => ex_load1 (by kernel_rfl) (by kernel_rfl) (hS.cell 2 rfl 7 rfl)) ?_
    intro a H
    refine An.pure H (.inr (HP)) 4 32 (.pointer (some ⟨b_1, 1, none⟩)) rfl (by kernel_rfl) (by kernel_rfl) (fun _ _ _ h => h) (fun _ => by kernel_rfl) ?_
    intro a H
    refine An.val H (HP) 5 33 (.int .i64 fr) rfl (by kernel_rfl) (by kernel_rfl) (fun _ _ _ h => h) (fun _ hS => ex_load1 (by kernel_rfl) (by kernel_rfl) (hS.cell 1 rfl 1 rfl)) ?_
    intro a H
    refine An.pure H (.inr (HP)) 6 34 (.agg #[(.int .i64 k.channel), (.int .i64 fr), (.int .i64 0), (.int .i64 0), (.int .i64 0), (.bool false), (.string (ByteArray.mk #[])), (.int .i64 0), (.int .i64 0), (.string (ByteArray.mk #[])), (.int .i64 0), (.int .i64 0), (.slice none 0 0)]) rfl (by kernel_rfl) (by kernel_rfl) (fun _ _ _ h => h) (fun _ => by kernel_rfl) ?_
    intro a H
    refine An.one 7 (by kernel_rfl) ?_
    refine Op.store H HP 1 b_1 0 13 46 [(.int .i64 ch), (.int .i64 fr), (.int .i64 ve), (.int .i64 it), (.int .i64 ix), (.bool ky), (.string da), (.int .i64 re), (.int .i64 ga), (.string ca), (.int .i64 os), (.int .i64 oF), (.slice A al.length c)] true (.agg #[(.int .i64 k.channel), (.int .i64 fr), (.int .i64 0), (.int .i64 0), (.int .i64 0), (.bool false), (.string (ByteArray.mk #[])), (.int .i64 0), (.int .i64 0), (.string (ByteArray.mk #[])), (.int .i64 0), (.int .i64 0), (.slice none 0 0)]) [bx b_3 36 [(.int .i64 0), (.int .i64 0), (.int .i64 0)] true, bx b_1 46 [(.int .i64 k.channel), (.int .i64 fr), (.int .i64 0), (.int .i64 0), (.int .i64 0), (.bool false), (.string (ByteArray.mk #[])), (.int .i64 0), (.int .i64 0), (.string (ByteArray.mk #[])), (.int .i64 0), (.int .i64 0), (.slice none 0 0)] true, bx b 76 [(.int .i64 s.full), (.int .i64 s.last.item), (.int .i64 s.last.index), (.int .i64 s.last.size), (.bool s.last.key), (.bool s.last.alt), (.bool true), (.int .i64 k.channel), (.int .i64 k.region), (.slice k.SA k.store.length k.sc), (.slice NA s.noted.length nc)] false] rfl (by kernel_rfl) (by kernel_rfl) (by kernel_rfl) rfl (by kernel_rfl) (by kernel_rfl) (by kernel_rfl) (by kernel_rfl) (by kernel_rfl) ?_
    intro w_7 a H HP
    refine ⟨.inl (by kernel_rfl), ?_⟩
    refine An.done (by kernel_rfl) ?_
    have H := H.keep (L' := [(27, (.bool (ch != k.channel))), (19, (.bool false)), (4, (.pointer (some ⟨b_3, 0, none⟩))), (3, (.pointer (some ⟨b_1, 0, none⟩))), (0, (.pointer (some ⟨b, 0, none⟩))), (1, (.agg #[(.int .i64 ch), (.int .i64 fr), (.int .i64 ve), (.int .i64 it), (.int .i64 ix), (.bool ky), (.string da), (.int .i64 re), (.int .i64 ga), (.string ca), (.int .i64 os), (.int .i64 oF), (.slice A al.length c)]))]) (by kernel_rfl)
    refine then_normal ?_
    refine wp_seq ?_
    refine w_region ?_
    refine H.alloc HP 5 (fun b => (.pointer (some ⟨b, 0, none⟩))) 71 [(.int .i64 0), (.int .i64 0), (.int .i64 0), (.bool false), (.bool false)] (by kernel_rfl) (fun w => by kernel_rfl) ?_
    intro b_8 w_9 a H HP
    refine wpList_nil ?_
    refine then_normal ?_
    refine wp_seq ?_
    refine wp_seq ?_
    refine w_region ?_
    refine H.val 35 (.pointer (some ⟨b_1, 3, none⟩)) (by kernel_rfl) (by kernel_rfl) ?_
    intro a H
    refine H.val 36 (.int .i64 0) (by kernel_rfl) (ex_load1 (by kernel_rfl) (by kernel_rfl) (HP.cell 2 rfl 3 rfl)) ?_
    intro a H
    refine H.val 37 (.bool false) (by kernel_rfl) (by kernel_rfl) ?_
    intro a H
    refine wpList_nil ?_
    refine then_normal ?_
    refine w_iff H rfl ?_
    refine wp_skip ?_
    refine then_normal ?_
    refine wp_seq ?_
    refine An.start (fun v => Hp w v [bx b_8 71 [(.int .i64 0), (.int .i64 0), (.int .i64 0), (.bool false), (.bool false)] true, bx b_3 36 [(.int .i64 0), (.int .i64 0), (.int .i64 0)] true, bx b_1 46 [(.int .i64 k.channel), (.int .i64 fr), (.int .i64 0), (.int .i64 0), (.int .i64 0), (.bool false), (.string (ByteArray.mk #[])), (.int .i64 0), (.int .i64 0), (.string (ByteArray.mk #[])), (.int .i64 0), (.int .i64 0), (.slice none 0 0)] true, bx b 76 [(.int .i64 s.full), (.int .i64 s.last.item), (.int .i64 s.last.index), (.int .i64 s.last.size), (.bool s.last.key), (.bool s.last.alt), (.bool true), (.int .i64 k.channel), (.int .i64 k.region), (.slice k.SA k.store.length k.sc), (.slice NA s.noted.length nc)] false] [(rowK 3 Note.cells NA s.noted.length s.noted), (astsK k.SA k.store.length k.store), ⟨fun j => rowFp al.length A j, fun w => IsAlts w A al.length al⟩]) 4 5 HP wide_follows rfl ?_
    intro w_10 HP
    refine An.pure H (.inr (HP)) 0 58 (.pointer (some ⟨b, 0, none⟩)) rfl (by kernel_rfl) (by kernel_rfl) (fun _ _ _ h => h) (fun _ => by kernel_rfl) ?_
    intro a H
    refine An.pure H (.inr (HP)) 1 59 (.pointer (some ⟨b, 0, none⟩)) rfl (by kernel_rfl) (by kernel_rfl) (fun _ _ _ h => h) (fun _ => by kernel_rfl) ?_
    intro a H
    refine An.pure H (.inr (HP)) 2 60 (.pointer (some ⟨b, 0, none⟩)) rfl (by kernel_rfl) (by kernel_rfl) (fun _ _ _ h => h) (fun _ => by kernel_rfl) ?_
    intro a H
    refine An.val H (HP) 3 61 (.agg #[(.int .i64 0), (.int .i64 0), (.int .i64 0), (.bool false), (.bool false)]) rfl (by kernel_rfl) (by kernel_rfl) (fun _ _ _ h => h) (fun _ hS => ex_loadN (vs := [(.int .i64 0), (.int .i64 0), (.int .i64 0), (.bool false), (.bool false)]) (by kernel_rfl) (by kernel_rfl) (by kernel_rfl) rfl (hS.cells 0 rfl 0 5 (by kernel_rfl))) ?_
    intro a H
    refine An.one 4 (by kernel_rfl) ?_
    refine Op.call H 62 rfl (by kernel_rfl) (Eq.trans (by kernel_rfl : _ = (callFunc 32 #[(.pointer (some ⟨b, 0, none⟩)), (.agg #[(.int .i64 0), (.int .i64 0), (.int .i64 0), (.bool false), (.bool false)])]).run Try.prog w_10) (Try.call32 _ _)) (show2 b k ⟨s.full, s.last, s.noted⟩ ⟨0, 0, 0, false, false⟩ w_10 NA nc (HP.at_ 3 rfl)) ?_
    rintro e w_11 ⟨rfl, hbx, hg⟩
    refine ⟨_, rfl, ?_⟩
    intro a H
    have HP := HP.changed 3 rfl [(.int .i64 ((vstep s.full 0).getD 0)), (.int .i64 0), (.int .i64 0), (.int .i64 0), (.bool false), (.bool false), (.bool true), (.int .i64 k.channel), (.int .i64 k.region), (.slice k.SA k.store.length k.sc), (.slice NA s.noted.length nc)] [bx b_8 71 [(.int .i64 0), (.int .i64 0), (.int .i64 0), (.bool false), (.bool false)] true, bx b_3 36 [(.int .i64 0), (.int .i64 0), (.int .i64 0)] true, bx b_1 46 [(.int .i64 k.channel), (.int .i64 fr), (.int .i64 0), (.int .i64 0), (.int .i64 0), (.bool false), (.string (ByteArray.mk #[])), (.int .i64 0), (.int .i64 0), (.string (ByteArray.mk #[])), (.int .i64 0), (.int .i64 0), (.slice none 0 0)] true, bx b 76 [(.int .i64 ((vstep s.full 0).getD 0)), (.int .i64 0), (.int .i64 0), (.int .i64 0), (.bool false), (.bool false), (.bool true), (.int .i64 k.channel), (.int .i64 k.region), (.slice k.SA k.store.length k.sc), (.slice NA s.noted.length nc)] false] (by kernel_rfl) hg hbx
    refine ⟨.inl (by kernel_rfl), ?_⟩
    refine An.done (by kernel_rfl) ?_
    refine then_normal ?_
    refine wp_seq ?_
    refine w_region ?_
    refine H.val 63 (.pointer (some ⟨b_8, 0, none⟩)) (by kernel_rfl) (by kernel_rfl) ?_
    intro a H
    refine H.val 64 (.int .i64 0) (by kernel_rfl) (ex_load1 (by kernel_rfl) (by kernel_rfl) (HP.cell 0 rfl 0 rfl)) ?_
    intro a H
    refine H.val 65 (.pointer (some ⟨b_8, 1, none⟩)) (by kernel_rfl) (by kernel_rfl) ?_
    intro a H
    refine H.val 66 (.int .i64 0) (by kernel_rfl) (ex_load1 (by kernel_rfl) (by kernel_rfl) (HP.cell 0 rfl 1 rfl)) ?_
    intro a H
    refine H.val 67 (.pointer (some ⟨b_1, 2, none⟩)) (by kernel_rfl) (by kernel_rfl) ?_
    intro a H
    refine H.val 68 (.int .i64 0) (by kernel_rfl) (ex_load1 (by kernel_rfl) (by kernel_rfl) (HP.cell 2 rfl 2 rfl)) ?_
    intro a H
    refine H.val 69 (.agg #[(.int .i64 0), (.int .i64 0), (.int .i64 0)]) (by kernel_rfl) (by kernel_rfl) ?_
    intro a H
    refine H.store HP 1 b_3 0 3 36 [(.int .i64 0), (.int .i64 0), (.int .i64 0)] true (.agg #[(.int .i64 0), (.int .i64 0), (.int .i64 0)]) [bx b_8 71 [(.int .i64 0), (.int .i64 0), (.int .i64 0), (.bool false), (.bool false)] true, bx b_3 36 [(.int .i64 0), (.int .i64 0), (.int .i64 0)] true, bx b_1 46 [(.int .i64 k.channel), (.int .i64 fr), (.int .i64 0), (.int .i64 0), (.int .i64 0), (.bool false), (.string (ByteArray.mk #[])), (.int .i64 0), (.int .i64 0), (.string (ByteArray.mk #[])), (.int .i64 0), (.int .i64 0), (.slice none 0 0)] true, bx b 76 [(.int .i64 ((vstep s.full 0).getD 0)), (.int .i64 0), (.int .i64 0), (.int .i64 0), (.bool false), (.bool false), (.bool true), (.int .i64 k.channel), (.int .i64 k.region), (.slice k.SA k.store.length k.sc), (.slice NA s.noted.length nc)] false] (by kernel_rfl) (by kernel_rfl) (by kernel_rfl) rfl (by kernel_rfl) (by kernel_rfl) (by kernel_rfl) (by kernel_rfl) (by kernel_rfl) ?_
    intro w_12 a H HP
    refine wpList_nil ?_
    have H := H.keep (L' := [(62, (.tuple #[])), (61, (.agg #[(.int .i64 0), (.int .i64 0), (.int .i64 0), (.bool false), (.bool false)])), (60, (.pointer (some ⟨b, 0, none⟩))), (59, (.pointer (some ⟨b, 0, none⟩))), (58, (.pointer (some ⟨b, 0, none⟩))), (37, (.bool false)), (36, (.int .i64 0)), (35, (.pointer (some ⟨b_1, 3, none⟩))), (5, (.pointer (some ⟨b_8, 0, none⟩))), (27, (.bool (ch != k.channel))), (19, (.bool false)), (4, (.pointer (some ⟨b_3, 0, none⟩))), (3, (.pointer (some ⟨b_1, 0, none⟩))), (0, (.pointer (some ⟨b, 0, none⟩))), (1, (.agg #[(.int .i64 ch), (.int .i64 fr), (.int .i64 ve), (.int .i64 it), (.int .i64 ix), (.bool ky), (.string da), (.int .i64 re), (.int .i64 ga), (.string ca), (.int .i64 os), (.int .i64 oF), (.slice A al.length c)]))]) (by kernel_rfl)
    refine then_normal ?_
    refine wp_ret ?_
    refine H.ret1 (fn := Try.f14) Try.results14 (RV.cellN (vs := [(.int .i64 0), (.int .i64 0), (.int .i64 0)]) (b := b_3) (off := 0) (k := 3) (by kernel_rfl) (by kernel_rfl) (by kernel_rfl) rfl (HP.cells 1 rfl 0 3 (by kernel_rfl))) ?_
    rw [stepS_other k s ⟨ch, fr, ve, it, ix, ky, da, re, ga, ca, os, oF, A, c, al⟩ g27p]
    exact ⟨rfl, NA, nc, ⟨HP.at_ 3 rfl, HP.fact 0 rfl, hoff, HP.fact 1 rfl, hSA, hSo, hm, hp, hn1⟩, (fun _ _ _ => .inl ⟨rfl, rfl⟩), HP.only b (by intro x hx; simp only [List.mem_cons, List.not_mem_nil, or_false] at hx; rcases hx with rfl | rfl | rfl | rfl <;> simp [bx])⟩
  · have g27p := eq_of_bne_false g27
    refine wp_skip ?_
    refine then_normal ?_
    refine wp_seq ?_
    refine w_region ?_
    refine H.alloc HP 5 (fun b => (.pointer (some ⟨b, 0, none⟩))) 71 [(.int .i64 0), (.int .i64 0), (.int .i64 0), (.bool false), (.bool false)] (by kernel_rfl) (fun w => by kernel_rfl) ?_
    intro b_13 w_14 a H HP
    refine wpList_nil ?_
    refine then_normal ?_
    refine wp_seq ?_
    refine wp_seq ?_
    refine w_region ?_
    refine H.val 35 (.pointer (some ⟨b_1, 3, none⟩)) (by kernel_rfl) (by kernel_rfl) ?_
    intro a H
    refine H.val 36 (.int .i64 it) (by kernel_rfl) (ex_load1 (by kernel_rfl) (by kernel_rfl) (HP.cell 2 rfl 3 rfl)) ?_
    intro a H
    refine H.val 37 (.bool (it != 0)) (by kernel_rfl) (by kernel_rfl) ?_
    intro a H
    refine wpList_nil ?_
    refine then_normal ?_
    refine w_if H rfl (fun g37 => ?_) (fun g37 => ?_)
    · have g37p := bne_iff_ne.1 g37
      refine wp_scope_straight ?_
      refine wp_seq ?_
      refine w_region ?_
      refine H.val 38 (.pointer (some ⟨b, 0, none⟩)) (by kernel_rfl) (by kernel_rfl) ?_
      intro a H
      refine H.val 39 (.agg #[(.int .i64 ch), (.int .i64 fr), (.int .i64 ve), (.int .i64 it), (.int .i64 ix), (.bool ky), (.string da), (.int .i64 re), (.int .i64 ga), (.string ca), (.int .i64 os), (.int .i64 oF), (.slice A al.length c)]) (by kernel_rfl) (ex_loadN (vs := [(.int .i64 ch), (.int .i64 fr), (.int .i64 ve), (.int .i64 it), (.int .i64 ix), (.bool ky), (.string da), (.int .i64 re), (.int .i64 ga), (.string ca), (.int .i64 os), (.int .i64 oF), (.slice A al.length c)]) (by kernel_rfl) (by kernel_rfl) (by kernel_rfl) rfl (HP.cells 2 rfl 0 13 (by kernel_rfl))) ?_
      intro a H
      refine H.call 40 (by kernel_rfl) (Eq.trans (by kernel_rfl : _ = (callFunc 29 #[(.pointer (some ⟨b, 0, none⟩)), (.agg #[(.int .i64 ch), (.int .i64 fr), (.int .i64 ve), (.int .i64 it), (.int .i64 ix), (.bool ky), (.string da), (.int .i64 re), (.int .i64 ga), (.string ca), (.int .i64 os), (.int .i64 oF), (.slice A al.length c)])]).run Try.prog w_14) (Try.call29 _ _)) (CN w_14 (HP.at_ 3 rfl) (HP.fact 0 rfl) (HP.fact 2 rfl)) ?_
      rintro e w_15 ⟨rfl, NB, cB, hbx, hnoB, hoffB, hqB, hn1B, hg⟩
      refine ⟨_, rfl, ?_⟩
      intro a H
      have HP0 := HP
      have HP1 := HP.changed 3 rfl [(.int .i64 s.full), (.int .i64 s.last.item), (.int .i64 s.last.index), (.int .i64 s.last.size), (.bool s.last.key), (.bool s.last.alt), (.bool true), (.int .i64 k.channel), (.int .i64 k.region), (.slice k.SA k.store.length k.sc), (.slice NB NL.length cB)] [bx b_13 71 [(.int .i64 0), (.int .i64 0), (.int .i64 0), (.bool false), (.bool false)] true, bx b_3 36 [(.int .i64 0), (.int .i64 0), (.int .i64 0)] true, bx b_1 46 [(.int .i64 ch), (.int .i64 fr), (.int .i64 ve), (.int .i64 it), (.int .i64 ix), (.bool ky), (.string da), (.int .i64 re), (.int .i64 ga), (.string ca), (.int .i64 os), (.int .i64 oF), (.slice A al.length c)] true, bx b 76 [(.int .i64 s.full), (.int .i64 s.last.item), (.int .i64 s.last.index), (.int .i64 s.last.size), (.bool s.last.key), (.bool s.last.alt), (.bool true), (.int .i64 k.channel), (.int .i64 k.region), (.slice k.SA k.store.length k.sc), (.slice NB NL.length cB)] false] (by kernel_rfl) hg hbx
      have hsz := HP0.size
      have HP := HP1.keepF (rowK 3 Note.cells NB NL.length NL) hnoB (rowK_ok _ _ _ _ _) (fun j hj => note_sep HP0 (i := 3) (vs' := [(.int .i64 s.full), (.int .i64 s.last.item), (.int .i64 s.last.index), (.int .i64 s.last.size), (.bool s.last.key), (.bool s.last.alt), (.bool true), (.int .i64 k.channel), (.int .i64 k.region), (.slice k.SA k.store.length k.sc), (.slice NB NL.length cB)]) rfl rfl (by kernel_rfl) HP1 hqB hnoB hj)
      refine wpList_nil ?_
      refine then_normal ?_
      refine wp_seq ?_
      refine w_region ?_
      refine H.alloc HP 41 (fun b => (.slice (some ⟨b, 0, none⟩) 2 2)) 84 [(.func (.func 30) #[] #[]), (.func (.func 31) #[] #[])] (by kernel_rfl) (fun w => by kernel_rfl) ?_
      intro b_16 w_17 a H HP
      refine H.val 6 (.slice (some ⟨b_16, 0, none⟩) 2 2) (by kernel_rfl) (by kernel_rfl) ?_
      intro a H
      refine wpList_nil ?_
      refine then_normal ?_
      refine wp_seq ?_
      refine wp_label ?_
      refine then_normal ?_
      refine wp_seq ?_
      refine w_region ?_
      refine H.val 42 (.slice (some ⟨b_16, 0, none⟩) 2 2) (by kernel_rfl) (by kernel_rfl) ?_
      intro a H
      refine H.val 43 (.int .i64 2) (by kernel_rfl) (by kernel_rfl) ?_
      intro a H
      refine H.val 44 (.int .i64 0) (by kernel_rfl) (by kernel_rfl) ?_
      intro a H
      refine wpList_nil ?_
      refine then_normal ?_
      refine wp_block ?_
      refine w_loop (fun m a v => (m = 2 ∧ Sl 70 [(44, (.int .i64 0)), (43, (.int .i64 2)), (42, (.slice (some ⟨b_16, 0, none⟩) 2 2)), (5, (.pointer (some ⟨b_13, 0, none⟩))), (4, (.pointer (some ⟨b_3, 0, none⟩))), (3, (.pointer (some ⟨b_1, 0, none⟩))), (0, (.pointer (some ⟨b, 0, none⟩)))] a ∧ Hp w v [bx b_16 84 [(.func (.func 30) #[] #[]), (.func (.func 31) #[] #[])] true, bx b_13 71 [(.int .i64 0), (.int .i64 0), (.int .i64 0), (.bool false), (.bool false)] true, bx b_3 36 [(.int .i64 0), (.int .i64 0), (.int .i64 0)] true, bx b_1 46 [(.int .i64 ch), (.int .i64 fr), (.int .i64 ve), (.int .i64 it), (.int .i64 ix), (.bool ky), (.string da), (.int .i64 re), (.int .i64 ga), (.string ca), (.int .i64 os), (.int .i64 oF), (.slice A al.length c)] true, bx b 76 [(.int .i64 s.full), (.int .i64 s.last.item), (.int .i64 s.last.index), (.int .i64 s.last.size), (.bool s.last.key), (.bool s.last.alt), (.bool true), (.int .i64 k.channel), (.int .i64 k.region), (.slice k.SA k.store.length k.sc), (.slice NB NL.length cB)] false] [(rowK 3 Note.cells NB NL.length NL), (rowK 3 Note.cells NA s.noted.length s.noted), (astsK k.SA k.store.length k.store), ⟨fun j => rowFp al.length A j, fun w => IsAlts w A al.length al⟩]) ∨ (m = 1 ∧ Sl 70 [(44, (.int .i64 1)), (43, (.int .i64 2)), (42, (.slice (some ⟨b_16, 0, none⟩) 2 2)), (5, (.pointer (some ⟨b_13, 0, none⟩))), (4, (.pointer (some ⟨b_3, 0, none⟩))), (3, (.pointer (some ⟨b_1, 0, none⟩))), (0, (.pointer (some ⟨b, 0, none⟩)))] a ∧ Hp w v [bx b_16 84 [(.func (.func 30) #[] #[]), (.func (.func 31) #[] #[])] true, bx b_13 71 [(.int .i64 0), (.int .i64 0), (.int .i64 0), (.bool false), (.bool false)] true, bx b_3 36 [(.int .i64 0), (.int .i64 0), (.int .i64 0)] true, bx b_1 46 [(.int .i64 ch), (.int .i64 fr), (.int .i64 ve), (.int .i64 it), (.int .i64 ix), (.bool ky), (.string da), (.int .i64 re), (.int .i64 ga), (.string ca), (.int .i64 os), (.int .i64 oF), (.slice A al.length c)] true, bx b 76 [(.int .i64 s.full), (.int .i64 s.last.item), (.int .i64 s.last.index), (.int .i64 s.last.size), (.bool s.last.key), (.bool s.last.alt), (.bool true), (.int .i64 k.channel), (.int .i64 k.region), (.slice k.SA k.store.length k.sc), (.slice NB NL.length cB)] false] [(rowK 3 Note.cells NB NL.length NL), (rowK 3 Note.cells NA s.noted.length s.noted), (astsK k.SA k.store.length k.store), ⟨fun j => rowFp al.length A j, fun w => IsAlts w A al.length al⟩] ∧ X = none) ∨ (m = 0 ∧ Sl 70 [(44, (.int .i64 2)), (43, (.int .i64 2)), (42, (.slice (some ⟨b_16, 0, none⟩) 2 2)), (5, (.pointer (some ⟨b_13, 0, none⟩))), (4, (.pointer (some ⟨b_3, 0, none⟩))), (3, (.pointer (some ⟨b_1, 0, none⟩))), (0, (.pointer (some ⟨b, 0, none⟩)))] a ∧ Hp w v [bx b_16 84 [(.func (.func 30) #[] #[]), (.func (.func 31) #[] #[])] true, bx b_13 71 [(.int .i64 0), (.int .i64 0), (.int .i64 0), (.bool false), (.bool false)] true, bx b_3 36 [(.int .i64 0), (.int .i64 0), (.int .i64 0)] true, bx b_1 46 [(.int .i64 ch), (.int .i64 fr), (.int .i64 ve), (.int .i64 it), (.int .i64 ix), (.bool ky), (.string da), (.int .i64 re), (.int .i64 ga), (.string ca), (.int .i64 os), (.int .i64 oF), (.slice A al.length c)] true, bx b 76 [(.int .i64 s.full), (.int .i64 s.last.item), (.int .i64 s.last.index), (.int .i64 s.last.size), (.bool s.last.key), (.bool s.last.alt), (.bool true), (.int .i64 k.channel), (.int .i64 k.region), (.slice k.SA k.store.length k.sc), (.slice NB NL.length cB)] false] [(rowK 3 Note.cells NB NL.length NL), (rowK 3 Note.cells NA s.noted.length s.noted), (astsK k.SA k.store.length k.store), ⟨fun j => rowFp al.length A j, fun w => IsAlts w A al.length al⟩] ∧ X = none ∧ nb = false)) 2 (.inl ⟨rfl, H.keep (by kernel_rfl), HP⟩) ?_
      rintro m a w_18 (⟨rfl, H, HP⟩ | ⟨rfl, H, HP, hA⟩ | ⟨rfl, H, HP, hA, hN⟩)
      · refine wp_seq ?_
        refine w_region ?_
        refine H.val 45 (.bool true) (by kernel_rfl) (by kernel_rfl) ?_
        intro a H
        refine wpList_nil ?_
        refine then_normal ?_
        refine wp_seq ?_
        refine w_ift H rfl ?_
        refine wp_skip ?_
        refine then_normal ?_
        refine wp_seq ?_
        refine wp_block ?_
        refine wp_seq ?_
        refine w_region ?_
        refine H.val 46 (.pointer (some ⟨b_16, 0, none⟩)) (by kernel_rfl) (ex_index0 (b := b_16) (len := 2) (cap := 2) (e := 84) (ik := .i64) (m := 0) (by kernel_rfl) (by kernel_rfl) (by omega) (by kernel_rfl) (by kernel_rfl)) ?_
        intro a H
        refine H.val 47 (.func (.func 30) #[] #[]) (by kernel_rfl) (ex_load1 (by kernel_rfl) (by kernel_rfl) (HP.cell 0 rfl 0 rfl)) ?_
        intro a H
        refine H.val 8 (.func (.func 30) #[] #[]) (by kernel_rfl) (by kernel_rfl) ?_
        intro a H
        refine wpList_nil ?_
        refine then_normal ?_
        refine wp_seq ?_
        refine w_region ?_
        refine H.val 49 (.func (.func 30) #[] #[]) (by kernel_rfl) (by kernel_rfl) ?_
        intro a H
        refine H.val 50 (.pointer (some ⟨b, 0, none⟩)) (by kernel_rfl) (by kernel_rfl) ?_
        intro a H
        refine H.val 51 (.agg #[(.int .i64 ch), (.int .i64 fr), (.int .i64 ve), (.int .i64 it), (.int .i64 ix), (.bool ky), (.string da), (.int .i64 re), (.int .i64 ga), (.string ca), (.int .i64 os), (.int .i64 oF), (.slice A al.length c)]) (by kernel_rfl) (ex_loadN (vs := [(.int .i64 ch), (.int .i64 fr), (.int .i64 ve), (.int .i64 it), (.int .i64 ix), (.bool ky), (.string da), (.int .i64 re), (.int .i64 ga), (.string ca), (.int .i64 os), (.int .i64 oF), (.slice A al.length c)]) (by kernel_rfl) (by kernel_rfl) (by kernel_rfl) rfl (HP.cells 3 rfl 0 13 (by kernel_rfl))) ?_
        intro a H
        refine H.call 52 (by kernel_rfl) (Eq.trans (by kernel_rfl : _ = (callFunc 30 #[(.pointer (some ⟨b, 0, none⟩)), (.agg #[(.int .i64 ch), (.int .i64 fr), (.int .i64 ve), (.int .i64 it), (.int .i64 ix), (.bool ky), (.string da), (.int .i64 re), (.int .i64 ga), (.string ca), (.int .i64 os), (.int .i64 oF), (.slice A al.length c)])]).run Try.prog w_18) (Try.call30 _ _)) (CA w_18 (spok_of (HP.at_ 4 rfl) (HP.fact 0 rfl) hoffB (HP.fact 2 rfl) hSA hSo hm hp hn1B) ⟨HP.fact 3 rfl, hall, ⟨u1, u2⟩, ⟨u7, u8⟩, ⟨u3, u4⟩, u5, u6⟩) ?_
        rintro e w_19 ⟨rfl, hb⟩
        refine ⟨_, rfl, ?_⟩
        intro a H
        have HP := HP.next hb
        refine H.val 48 (.tuple #[(.agg #[(.int .i64 px.item), (.int .i64 px.index), (.int .i64 px.size), (.bool px.key), (.bool px.alt)]), (.bool X.isSome)]) (by kernel_rfl) (by kernel_rfl) ?_
        intro a H
        refine H.val 53 (.agg #[(.int .i64 px.item), (.int .i64 px.index), (.int .i64 px.size), (.bool px.key), (.bool px.alt)]) (by kernel_rfl) (by kernel_rfl) ?_
        intro a H
        refine H.val 54 (.bool X.isSome) (by kernel_rfl) (by kernel_rfl) ?_
        intro a H
        refine H.alloc HP 9 (fun b => (.pointer (some ⟨b, 0, none⟩))) 71 [(.int .i64 0), (.int .i64 0), (.int .i64 0), (.bool false), (.bool false)] (by kernel_rfl) (fun w => by kernel_rfl) ?_
        intro b_20 w_21 a H HP
        refine H.store HP 0 b_20 0 5 71 [(.int .i64 0), (.int .i64 0), (.int .i64 0), (.bool false), (.bool false)] true (.agg #[(.int .i64 px.item), (.int .i64 px.index), (.int .i64 px.size), (.bool px.key), (.bool px.alt)]) [bx b_20 71 [(.int .i64 px.item), (.int .i64 px.index), (.int .i64 px.size), (.bool px.key), (.bool px.alt)] true, bx b_16 84 [(.func (.func 30) #[] #[]), (.func (.func 31) #[] #[])] true, bx b_13 71 [(.int .i64 0), (.int .i64 0), (.int .i64 0), (.bool false), (.bool false)] true, bx b_3 36 [(.int .i64 0), (.int .i64 0), (.int .i64 0)] true, bx b_1 46 [(.int .i64 ch), (.int .i64 fr), (.int .i64 ve), (.int .i64 it), (.int .i64 ix), (.bool ky), (.string da), (.int .i64 re), (.int .i64 ga), (.string ca), (.int .i64 os), (.int .i64 oF), (.slice A al.length c)] true, bx b 76 [(.int .i64 s.full), (.int .i64 s.last.item), (.int .i64 s.last.index), (.int .i64 s.last.size), (.bool s.last.key), (.bool s.last.alt), (.bool true), (.int .i64 k.channel), (.int .i64 k.region), (.slice k.SA k.store.length k.sc), (.slice NB NL.length cB)] false] (by kernel_rfl) (by kernel_rfl) (by kernel_rfl) rfl (by kernel_rfl) (by kernel_rfl) (by kernel_rfl) (by kernel_rfl) (by kernel_rfl) ?_
        intro w_22 a H HP
        refine H.val 10 (.bool X.isSome) (by kernel_rfl) (by kernel_rfl) ?_
        intro a H
        refine wpList_nil ?_
        have H := H.keep (L' := [(10, (.bool X.isSome)), (9, (.pointer (some ⟨b_20, 0, none⟩))), (8, (.func (.func 30) #[] #[])), (47, (.func (.func 30) #[] #[])), (46, (.pointer (some ⟨b_16, 0, none⟩))), (45, (.bool true)), (44, (.int .i64 0)), (43, (.int .i64 2)), (42, (.slice (some ⟨b_16, 0, none⟩) 2 2)), (5, (.pointer (some ⟨b_13, 0, none⟩))), (4, (.pointer (some ⟨b_3, 0, none⟩))), (3, (.pointer (some ⟨b_1, 0, none⟩))), (0, (.pointer (some ⟨b, 0, none⟩)))]) (by kernel_rfl)
        refine then_normal ?_
        refine wp_seq ?_
        refine w_region ?_
        refine H.val 55 (.bool X.isSome) (by kernel_rfl) (by kernel_rfl) ?_
        intro a H
        refine wpList_nil ?_
        refine then_normal ?_
        refine w_if H rfl (fun g55 => ?_) (fun g55 => ?_)
        · have g55p := g55
          refine wp_seq ?_
          refine w_region ?_
          refine H.val 56 (.agg #[(.int .i64 px.item), (.int .i64 px.index), (.int .i64 px.size), (.bool px.key), (.bool px.alt)]) (by kernel_rfl) (ex_loadN (vs := [(.int .i64 px.item), (.int .i64 px.index), (.int .i64 px.size), (.bool px.key), (.bool px.alt)]) (by kernel_rfl) (by kernel_rfl) (by kernel_rfl) rfl (HP.cells 0 rfl 0 5 (by kernel_rfl))) ?_
          intro a H
          refine H.store HP 2 b_13 0 5 71 [(.int .i64 0), (.int .i64 0), (.int .i64 0), (.bool false), (.bool false)] true (.agg #[(.int .i64 px.item), (.int .i64 px.index), (.int .i64 px.size), (.bool px.key), (.bool px.alt)]) [bx b_20 71 [(.int .i64 px.item), (.int .i64 px.index), (.int .i64 px.size), (.bool px.key), (.bool px.alt)] true, bx b_16 84 [(.func (.func 30) #[] #[]), (.func (.func 31) #[] #[])] true, bx b_13 71 [(.int .i64 px.item), (.int .i64 px.index), (.int .i64 px.size), (.bool px.key), (.bool px.alt)] true, bx b_3 36 [(.int .i64 0), (.int .i64 0), (.int .i64 0)] true, bx b_1 46 [(.int .i64 ch), (.int .i64 fr), (.int .i64 ve), (.int .i64 it), (.int .i64 ix), (.bool ky), (.string da), (.int .i64 re), (.int .i64 ga), (.string ca), (.int .i64 os), (.int .i64 oF), (.slice A al.length c)] true, bx b 76 [(.int .i64 s.full), (.int .i64 s.last.item), (.int .i64 s.last.index), (.int .i64 s.last.size), (.bool s.last.key), (.bool s.last.alt), (.bool true), (.int .i64 k.channel), (.int .i64 k.region), (.slice k.SA k.store.length k.sc), (.slice NB NL.length cB)] false] (by kernel_rfl) (by kernel_rfl) (by kernel_rfl) rfl (by kernel_rfl) (by kernel_rfl) (by kernel_rfl) (by kernel_rfl) (by kernel_rfl) ?_
          intro w_23 a H HP
          refine wpList_nil ?_
          refine then_normal ?_
          refine wp_exit ?_
          refine w_exit_far (by kernel_rfl) ?_
          refine then_exit ?_
          refine then_exit ?_
          refine w_exit_here ?_
          refine ng_normal ?_
          refine then_normal ?_
          refine wp_seq ?_
          refine An.start (fun v => Hp w v [bx b_20 71 [(.int .i64 px.item), (.int .i64 px.index), (.int .i64 px.size), (.bool px.key), (.bool px.alt)] true, bx b_16 84 [(.func (.func 30) #[] #[]), (.func (.func 31) #[] #[])] true, bx b_13 71 [(.int .i64 px.item), (.int .i64 px.index), (.int .i64 px.size), (.bool px.key), (.bool px.alt)] true, bx b_3 36 [(.int .i64 0), (.int .i64 0), (.int .i64 0)] true, bx b_1 46 [(.int .i64 ch), (.int .i64 fr), (.int .i64 ve), (.int .i64 it), (.int .i64 ix), (.bool ky), (.string da), (.int .i64 re), (.int .i64 ga), (.string ca), (.int .i64 os), (.int .i64 oF), (.slice A al.length c)] true, bx b 76 [(.int .i64 s.full), (.int .i64 s.last.item), (.int .i64 s.last.index), (.int .i64 s.last.size), (.bool s.last.key), (.bool s.last.alt), (.bool true), (.int .i64 k.channel), (.int .i64 k.region), (.slice k.SA k.store.length k.sc), (.slice NB NL.length cB)] false] [(rowK 3 Note.cells NB NL.length NL), (rowK 3 Note.cells NA s.noted.length s.noted), (astsK k.SA k.store.length k.store), ⟨fun j => rowFp al.length A j, fun w => IsAlts w A al.length al⟩]) 4 5 HP wide_follows rfl ?_
          intro w_24 HP
          refine An.pure H (.inr (HP)) 0 58 (.pointer (some ⟨b, 0, none⟩)) rfl (by kernel_rfl) (by kernel_rfl) (fun _ _ _ h => h) (fun _ => by kernel_rfl) ?_
          intro a H
          refine An.pure H (.inr (HP)) 1 59 (.pointer (some ⟨b, 0, none⟩)) rfl (by kernel_rfl) (by kernel_rfl) (fun _ _ _ h => h) (fun _ => by kernel_rfl) ?_
          intro a H
          refine An.pure H (.inr (HP)) 2 60 (.pointer (some ⟨b, 0, none⟩)) rfl (by kernel_rfl) (by kernel_rfl) (fun _ _ _ h => h) (fun _ => by kernel_rfl) ?_
          intro a H
          refine An.val H (HP) 3 61 (.agg #[(.int .i64 px.item), (.int .i64 px.index), (.int .i64 px.size), (.bool px.key), (.bool px.alt)]) rfl (by kernel_rfl) (by kernel_rfl) (fun _ _ _ h => h) (fun _ hS => ex_loadN (vs := [(.int .i64 px.item), (.int .i64 px.index), (.int .i64 px.size), (.bool px.key), (.bool px.alt)]) (by kernel_rfl) (by kernel_rfl) (by kernel_rfl) rfl (hS.cells 2 rfl 0 5 (by kernel_rfl))) ?_
          intro a H
          refine An.one 4 (by kernel_rfl) ?_
          refine Op.call H 62 rfl (by kernel_rfl) (Eq.trans (by kernel_rfl : _ = (callFunc 32 #[(.pointer (some ⟨b, 0, none⟩)), (.agg #[(.int .i64 px.item), (.int .i64 px.index), (.int .i64 px.size), (.bool px.key), (.bool px.alt)])]).run Try.prog w_24) (Try.call32 _ _)) (show2 b k ⟨s.full, s.last, NL⟩ ⟨px.item, px.index, px.size, px.key, px.alt⟩ w_24 NB cB (HP.at_ 5 rfl)) ?_
          rintro e w_25 ⟨rfl, hbx, hg⟩
          refine ⟨_, rfl, ?_⟩
          intro a H
          have HP := HP.changed 5 rfl [(.int .i64 ((vstep s.full px.size).getD 0)), (.int .i64 px.item), (.int .i64 px.index), (.int .i64 px.size), (.bool px.key), (.bool px.alt), (.bool true), (.int .i64 k.channel), (.int .i64 k.region), (.slice k.SA k.store.length k.sc), (.slice NB NL.length cB)] [bx b_20 71 [(.int .i64 px.item), (.int .i64 px.index), (.int .i64 px.size), (.bool px.key), (.bool px.alt)] true, bx b_16 84 [(.func (.func 30) #[] #[]), (.func (.func 31) #[] #[])] true, bx b_13 71 [(.int .i64 px.item), (.int .i64 px.index), (.int .i64 px.size), (.bool px.key), (.bool px.alt)] true, bx b_3 36 [(.int .i64 0), (.int .i64 0), (.int .i64 0)] true, bx b_1 46 [(.int .i64 ch), (.int .i64 fr), (.int .i64 ve), (.int .i64 it), (.int .i64 ix), (.bool ky), (.string da), (.int .i64 re), (.int .i64 ga), (.string ca), (.int .i64 os), (.int .i64 oF), (.slice A al.length c)] true, bx b 76 [(.int .i64 ((vstep s.full px.size).getD 0)), (.int .i64 px.item), (.int .i64 px.index), (.int .i64 px.size), (.bool px.key), (.bool px.alt), (.bool true), (.int .i64 k.channel), (.int .i64 k.region), (.slice k.SA k.store.length k.sc), (.slice NB NL.length cB)] false] (by kernel_rfl) hg hbx
          refine ⟨.inl (by kernel_rfl), ?_⟩
          refine An.done (by kernel_rfl) ?_
          refine then_normal ?_
          refine wp_seq ?_
          refine w_region ?_
          refine H.val 63 (.pointer (some ⟨b_13, 0, none⟩)) (by kernel_rfl) (by kernel_rfl) ?_
          intro a H
          refine H.val 64 (.int .i64 px.item) (by kernel_rfl) (ex_load1 (by kernel_rfl) (by kernel_rfl) (HP.cell 2 rfl 0 rfl)) ?_
          intro a H
          refine H.val 65 (.pointer (some ⟨b_13, 1, none⟩)) (by kernel_rfl) (by kernel_rfl) ?_
          intro a H
          refine H.val 66 (.int .i64 px.index) (by kernel_rfl) (ex_load1 (by kernel_rfl) (by kernel_rfl) (HP.cell 2 rfl 1 rfl)) ?_
          intro a H
          refine H.val 67 (.pointer (some ⟨b_1, 2, none⟩)) (by kernel_rfl) (by kernel_rfl) ?_
          intro a H
          refine H.val 68 (.int .i64 ve) (by kernel_rfl) (ex_load1 (by kernel_rfl) (by kernel_rfl) (HP.cell 4 rfl 2 rfl)) ?_
          intro a H
          refine H.val 69 (.agg #[(.int .i64 px.item), (.int .i64 px.index), (.int .i64 ve)]) (by kernel_rfl) (by kernel_rfl) ?_
          intro a H
          refine H.store HP 3 b_3 0 3 36 [(.int .i64 0), (.int .i64 0), (.int .i64 0)] true (.agg #[(.int .i64 px.item), (.int .i64 px.index), (.int .i64 ve)]) [bx b_20 71 [(.int .i64 px.item), (.int .i64 px.index), (.int .i64 px.size), (.bool px.key), (.bool px.alt)] true, bx b_16 84 [(.func (.func 30) #[] #[]), (.func (.func 31) #[] #[])] true, bx b_13 71 [(.int .i64 px.item), (.int .i64 px.index), (.int .i64 px.size), (.bool px.key), (.bool px.alt)] true, bx b_3 36 [(.int .i64 px.item), (.int .i64 px.index), (.int .i64 ve)] true, bx b_1 46 [(.int .i64 ch), (.int .i64 fr), (.int .i64 ve), (.int .i64 it), (.int .i64 ix), (.bool ky), (.string da), (.int .i64 re), (.int .i64 ga), (.string ca), (.int .i64 os), (.int .i64 oF), (.slice A al.length c)] true, bx b 76 [(.int .i64 ((vstep s.full px.size).getD 0)), (.int .i64 px.item), (.int .i64 px.index), (.int .i64 px.size), (.bool px.key), (.bool px.alt), (.bool true), (.int .i64 k.channel), (.int .i64 k.region), (.slice k.SA k.store.length k.sc), (.slice NB NL.length cB)] false] (by kernel_rfl) (by kernel_rfl) (by kernel_rfl) rfl (by kernel_rfl) (by kernel_rfl) (by kernel_rfl) (by kernel_rfl) (by kernel_rfl) ?_
          intro w_26 a H HP
          refine wpList_nil ?_
          have H := H.keep (L' := [(62, (.tuple #[])), (61, (.agg #[(.int .i64 px.item), (.int .i64 px.index), (.int .i64 px.size), (.bool px.key), (.bool px.alt)])), (60, (.pointer (some ⟨b, 0, none⟩))), (59, (.pointer (some ⟨b, 0, none⟩))), (58, (.pointer (some ⟨b, 0, none⟩))), (56, (.agg #[(.int .i64 px.item), (.int .i64 px.index), (.int .i64 px.size), (.bool px.key), (.bool px.alt)])), (55, (.bool X.isSome)), (10, (.bool X.isSome)), (9, (.pointer (some ⟨b_20, 0, none⟩))), (8, (.func (.func 30) #[] #[])), (47, (.func (.func 30) #[] #[])), (46, (.pointer (some ⟨b_16, 0, none⟩))), (45, (.bool true)), (44, (.int .i64 0)), (43, (.int .i64 2)), (42, (.slice (some ⟨b_16, 0, none⟩) 2 2)), (5, (.pointer (some ⟨b_13, 0, none⟩))), (4, (.pointer (some ⟨b_3, 0, none⟩))), (3, (.pointer (some ⟨b_1, 0, none⟩))), (0, (.pointer (some ⟨b, 0, none⟩)))]) (by kernel_rfl)
          refine then_normal ?_
          refine wp_ret ?_
          refine H.ret1 (fn := Try.f14) Try.results14 (RV.cellN (vs := [(.int .i64 px.item), (.int .i64 px.index), (.int .i64 ve)]) (b := b_3) (off := 0) (k := 3) (by kernel_rfl) (by kernel_rfl) (by kernel_rfl) rfl (HP.cells 3 rfl 0 3 (by kernel_rfl))) ?_
          rw [stepS_alt k s ⟨ch, fr, ve, it, ix, ky, da, re, ga, ca, os, oF, A, c, al⟩ g27p g37p hNL hX hpx g55p]
          exact ⟨rfl, NB, cB, ⟨HP.at_ 5 rfl, HP.fact 0 rfl, hoffB, HP.fact 2 rfl, hSA, hSo, hm, hp, hn1B⟩, (fun bk o e => (hqB bk o e).imp id (fun h => Nat.le_trans hsz h)), HP.only b (by intro x hx; simp only [List.mem_cons, List.not_mem_nil, or_false] at hx; rcases hx with rfl | rfl | rfl | rfl | rfl | rfl <;> simp [bx])⟩
        · have g55p := g55
          refine wp_skip ?_
          refine inb_normal ?_
          refine then_normal ?_
          refine w_region ?_
          refine H.valE 57 (.int .i64 (IntKind.i64.wrap (0 + 1))) (.int .i64 1) (by kernel_rfl) (by kernel_rfl) (by kernel_rfl) ?_
          intro a H
          refine H.val 44 (.int .i64 1) (by kernel_rfl) (by kernel_rfl) ?_
          intro a H
          refine wpList_nil ?_
          refine then_normal ?_
          exact ⟨1, by omega, .inr (.inl ⟨rfl, H.keep (by kernel_rfl), HP.tail rfl, (none_of_not g55p)⟩)⟩
      · refine wp_seq ?_
        refine w_region ?_
        refine H.val 45 (.bool true) (by kernel_rfl) (by kernel_rfl) ?_
        intro a H
        refine wpList_nil ?_
        refine then_normal ?_
        refine wp_seq ?_
        refine w_ift H rfl ?_
        refine wp_skip ?_
        refine then_normal ?_
        refine wp_seq ?_
        refine wp_block ?_
        refine wp_seq ?_
        refine w_region ?_
        refine H.val 46 (.pointer (some ⟨b_16, 1, none⟩)) (by kernel_rfl) (ex_index0 (b := b_16) (len := 2) (cap := 2) (e := 84) (ik := .i64) (m := 1) (by kernel_rfl) (by kernel_rfl) (by omega) (by kernel_rfl) (by kernel_rfl)) ?_
        intro a H
        refine H.val 47 (.func (.func 31) #[] #[]) (by kernel_rfl) (ex_load1 (by kernel_rfl) (by kernel_rfl) (HP.cell 0 rfl 1 rfl)) ?_
        intro a H
        refine H.val 8 (.func (.func 31) #[] #[]) (by kernel_rfl) (by kernel_rfl) ?_
        intro a H
        refine wpList_nil ?_
        refine then_normal ?_
        refine wp_seq ?_
        refine w_region ?_
        refine H.val 49 (.func (.func 31) #[] #[]) (by kernel_rfl) (by kernel_rfl) ?_
        intro a H
        refine H.val 50 (.pointer (some ⟨b, 0, none⟩)) (by kernel_rfl) (by kernel_rfl) ?_
        intro a H
        refine H.val 51 (.agg #[(.int .i64 ch), (.int .i64 fr), (.int .i64 ve), (.int .i64 it), (.int .i64 ix), (.bool ky), (.string da), (.int .i64 re), (.int .i64 ga), (.string ca), (.int .i64 os), (.int .i64 oF), (.slice A al.length c)]) (by kernel_rfl) (ex_loadN (vs := [(.int .i64 ch), (.int .i64 fr), (.int .i64 ve), (.int .i64 it), (.int .i64 ix), (.bool ky), (.string da), (.int .i64 re), (.int .i64 ga), (.string ca), (.int .i64 os), (.int .i64 oF), (.slice A al.length c)]) (by kernel_rfl) (by kernel_rfl) (by kernel_rfl) rfl (HP.cells 3 rfl 0 13 (by kernel_rfl))) ?_
        intro a H
        refine H.call 52 (by kernel_rfl) (Eq.trans (by kernel_rfl : _ = (callFunc 31 #[(.pointer (some ⟨b, 0, none⟩)), (.agg #[(.int .i64 ch), (.int .i64 fr), (.int .i64 ve), (.int .i64 it), (.int .i64 ix), (.bool ky), (.string da), (.int .i64 re), (.int .i64 ga), (.string ca), (.int .i64 os), (.int .i64 oF), (.slice A al.length c)])]).run Try.prog w_18) (Try.call31 _ _)) (CW w_18 (spok_of (HP.at_ 4 rfl) (HP.fact 0 rfl) hoffB (HP.fact 2 rfl) hSA hSo hm hp hn1B) ⟨HP.fact 3 rfl, hall, ⟨u1, u2⟩, ⟨u7, u8⟩, ⟨u3, u4⟩, u5, u6⟩) ?_
        rintro e w_27 ⟨rfl, hb⟩
        refine ⟨_, rfl, ?_⟩
        intro a H
        have HP := HP.next hb
        refine H.val 48 (.tuple #[(.agg #[(.int .i64 it), (.int .i64 ix), (.int .i64 ((da.size : Nat) : Int)), (.bool ky), (.bool false)]), (.bool nb)]) (by kernel_rfl) (by kernel_rfl) ?_
        intro a H
        refine H.val 53 (.agg #[(.int .i64 it), (.int .i64 ix), (.int .i64 ((da.size : Nat) : Int)), (.bool ky), (.bool false)]) (by kernel_rfl) (by kernel_rfl) ?_
        intro a H
        refine H.val 54 (.bool nb) (by kernel_rfl) (by kernel_rfl) ?_
        intro a H
        refine H.alloc HP 9 (fun b => (.pointer (some ⟨b, 0, none⟩))) 71 [(.int .i64 0), (.int .i64 0), (.int .i64 0), (.bool false), (.bool false)] (by kernel_rfl) (fun w => by kernel_rfl) ?_
        intro b_28 w_29 a H HP
        refine H.store HP 0 b_28 0 5 71 [(.int .i64 0), (.int .i64 0), (.int .i64 0), (.bool false), (.bool false)] true (.agg #[(.int .i64 it), (.int .i64 ix), (.int .i64 ((da.size : Nat) : Int)), (.bool ky), (.bool false)]) [bx b_28 71 [(.int .i64 it), (.int .i64 ix), (.int .i64 ((da.size : Nat) : Int)), (.bool ky), (.bool false)] true, bx b_16 84 [(.func (.func 30) #[] #[]), (.func (.func 31) #[] #[])] true, bx b_13 71 [(.int .i64 0), (.int .i64 0), (.int .i64 0), (.bool false), (.bool false)] true, bx b_3 36 [(.int .i64 0), (.int .i64 0), (.int .i64 0)] true, bx b_1 46 [(.int .i64 ch), (.int .i64 fr), (.int .i64 ve), (.int .i64 it), (.int .i64 ix), (.bool ky), (.string da), (.int .i64 re), (.int .i64 ga), (.string ca), (.int .i64 os), (.int .i64 oF), (.slice A al.length c)] true, bx b 76 [(.int .i64 s.full), (.int .i64 s.last.item), (.int .i64 s.last.index), (.int .i64 s.last.size), (.bool s.last.key), (.bool s.last.alt), (.bool true), (.int .i64 k.channel), (.int .i64 k.region), (.slice k.SA k.store.length k.sc), (.slice NB NL.length cB)] false] (by kernel_rfl) (by kernel_rfl) (by kernel_rfl) rfl (by kernel_rfl) (by kernel_rfl) (by kernel_rfl) (by kernel_rfl) (by kernel_rfl) ?_
        intro w_30 a H HP
        refine H.val 10 (.bool nb) (by kernel_rfl) (by kernel_rfl) ?_
        intro a H
        refine wpList_nil ?_
        have H := H.keep (L' := [(10, (.bool nb)), (9, (.pointer (some ⟨b_28, 0, none⟩))), (8, (.func (.func 31) #[] #[])), (47, (.func (.func 31) #[] #[])), (46, (.pointer (some ⟨b_16, 1, none⟩))), (45, (.bool true)), (44, (.int .i64 1)), (43, (.int .i64 2)), (42, (.slice (some ⟨b_16, 0, none⟩) 2 2)), (5, (.pointer (some ⟨b_13, 0, none⟩))), (4, (.pointer (some ⟨b_3, 0, none⟩))), (3, (.pointer (some ⟨b_1, 0, none⟩))), (0, (.pointer (some ⟨b, 0, none⟩)))]) (by kernel_rfl)
        refine then_normal ?_
        refine wp_seq ?_
        refine w_region ?_
        refine H.val 55 (.bool nb) (by kernel_rfl) (by kernel_rfl) ?_
        intro a H
        refine wpList_nil ?_
        refine then_normal ?_
        refine w_if H rfl (fun g55 => ?_) (fun g55 => ?_)
        · have g55p := g55
          refine wp_seq ?_
          refine w_region ?_
          refine H.val 56 (.agg #[(.int .i64 it), (.int .i64 ix), (.int .i64 ((da.size : Nat) : Int)), (.bool ky), (.bool false)]) (by kernel_rfl) (ex_loadN (vs := [(.int .i64 it), (.int .i64 ix), (.int .i64 ((da.size : Nat) : Int)), (.bool ky), (.bool false)]) (by kernel_rfl) (by kernel_rfl) (by kernel_rfl) rfl (HP.cells 0 rfl 0 5 (by kernel_rfl))) ?_
          intro a H
          refine H.store HP 2 b_13 0 5 71 [(.int .i64 0), (.int .i64 0), (.int .i64 0), (.bool false), (.bool false)] true (.agg #[(.int .i64 it), (.int .i64 ix), (.int .i64 ((da.size : Nat) : Int)), (.bool ky), (.bool false)]) [bx b_28 71 [(.int .i64 it), (.int .i64 ix), (.int .i64 ((da.size : Nat) : Int)), (.bool ky), (.bool false)] true, bx b_16 84 [(.func (.func 30) #[] #[]), (.func (.func 31) #[] #[])] true, bx b_13 71 [(.int .i64 it), (.int .i64 ix), (.int .i64 ((da.size : Nat) : Int)), (.bool ky), (.bool false)] true, bx b_3 36 [(.int .i64 0), (.int .i64 0), (.int .i64 0)] true, bx b_1 46 [(.int .i64 ch), (.int .i64 fr), (.int .i64 ve), (.int .i64 it), (.int .i64 ix), (.bool ky), (.string da), (.int .i64 re), (.int .i64 ga), (.string ca), (.int .i64 os), (.int .i64 oF), (.slice A al.length c)] true, bx b 76 [(.int .i64 s.full), (.int .i64 s.last.item), (.int .i64 s.last.index), (.int .i64 s.last.size), (.bool s.last.key), (.bool s.last.alt), (.bool true), (.int .i64 k.channel), (.int .i64 k.region), (.slice k.SA k.store.length k.sc), (.slice NB NL.length cB)] false] (by kernel_rfl) (by kernel_rfl) (by kernel_rfl) rfl (by kernel_rfl) (by kernel_rfl) (by kernel_rfl) (by kernel_rfl) (by kernel_rfl) ?_
          intro w_31 a H HP
          refine wpList_nil ?_
          refine then_normal ?_
          refine wp_exit ?_
          refine w_exit_far (by kernel_rfl) ?_
          refine then_exit ?_
          refine then_exit ?_
          refine w_exit_here ?_
          refine ng_normal ?_
          refine then_normal ?_
          refine wp_seq ?_
          refine An.start (fun v => Hp w v [bx b_28 71 [(.int .i64 it), (.int .i64 ix), (.int .i64 ((da.size : Nat) : Int)), (.bool ky), (.bool false)] true, bx b_16 84 [(.func (.func 30) #[] #[]), (.func (.func 31) #[] #[])] true, bx b_13 71 [(.int .i64 it), (.int .i64 ix), (.int .i64 ((da.size : Nat) : Int)), (.bool ky), (.bool false)] true, bx b_3 36 [(.int .i64 0), (.int .i64 0), (.int .i64 0)] true, bx b_1 46 [(.int .i64 ch), (.int .i64 fr), (.int .i64 ve), (.int .i64 it), (.int .i64 ix), (.bool ky), (.string da), (.int .i64 re), (.int .i64 ga), (.string ca), (.int .i64 os), (.int .i64 oF), (.slice A al.length c)] true, bx b 76 [(.int .i64 s.full), (.int .i64 s.last.item), (.int .i64 s.last.index), (.int .i64 s.last.size), (.bool s.last.key), (.bool s.last.alt), (.bool true), (.int .i64 k.channel), (.int .i64 k.region), (.slice k.SA k.store.length k.sc), (.slice NB NL.length cB)] false] [(rowK 3 Note.cells NB NL.length NL), (rowK 3 Note.cells NA s.noted.length s.noted), (astsK k.SA k.store.length k.store), ⟨fun j => rowFp al.length A j, fun w => IsAlts w A al.length al⟩]) 4 5 HP wide_follows rfl ?_
          intro w_32 HP
          refine An.pure H (.inr (HP)) 0 58 (.pointer (some ⟨b, 0, none⟩)) rfl (by kernel_rfl) (by kernel_rfl) (fun _ _ _ h => h) (fun _ => by kernel_rfl) ?_
          intro a H
          refine An.pure H (.inr (HP)) 1 59 (.pointer (some ⟨b, 0, none⟩)) rfl (by kernel_rfl) (by kernel_rfl) (fun _ _ _ h => h) (fun _ => by kernel_rfl) ?_
          intro a H
          refine An.pure H (.inr (HP)) 2 60 (.pointer (some ⟨b, 0, none⟩)) rfl (by kernel_rfl) (by kernel_rfl) (fun _ _ _ h => h) (fun _ => by kernel_rfl) ?_
          intro a H
          refine An.val H (HP) 3 61 (.agg #[(.int .i64 it), (.int .i64 ix), (.int .i64 ((da.size : Nat) : Int)), (.bool ky), (.bool false)]) rfl (by kernel_rfl) (by kernel_rfl) (fun _ _ _ h => h) (fun _ hS => ex_loadN (vs := [(.int .i64 it), (.int .i64 ix), (.int .i64 ((da.size : Nat) : Int)), (.bool ky), (.bool false)]) (by kernel_rfl) (by kernel_rfl) (by kernel_rfl) rfl (hS.cells 2 rfl 0 5 (by kernel_rfl))) ?_
          intro a H
          refine An.one 4 (by kernel_rfl) ?_
          refine Op.call H 62 rfl (by kernel_rfl) (Eq.trans (by kernel_rfl : _ = (callFunc 32 #[(.pointer (some ⟨b, 0, none⟩)), (.agg #[(.int .i64 it), (.int .i64 ix), (.int .i64 ((da.size : Nat) : Int)), (.bool ky), (.bool false)])]).run Try.prog w_32) (Try.call32 _ _)) (show2 b k ⟨s.full, s.last, NL⟩ ⟨it, ix, ((da.size : Nat) : Int), ky, false⟩ w_32 NB cB (HP.at_ 5 rfl)) ?_
          rintro e w_33 ⟨rfl, hbx, hg⟩
          refine ⟨_, rfl, ?_⟩
          intro a H
          have HP := HP.changed 5 rfl [(.int .i64 ((vstep s.full ((da.size : Nat) : Int)).getD 0)), (.int .i64 it), (.int .i64 ix), (.int .i64 ((da.size : Nat) : Int)), (.bool ky), (.bool false), (.bool true), (.int .i64 k.channel), (.int .i64 k.region), (.slice k.SA k.store.length k.sc), (.slice NB NL.length cB)] [bx b_28 71 [(.int .i64 it), (.int .i64 ix), (.int .i64 ((da.size : Nat) : Int)), (.bool ky), (.bool false)] true, bx b_16 84 [(.func (.func 30) #[] #[]), (.func (.func 31) #[] #[])] true, bx b_13 71 [(.int .i64 it), (.int .i64 ix), (.int .i64 ((da.size : Nat) : Int)), (.bool ky), (.bool false)] true, bx b_3 36 [(.int .i64 0), (.int .i64 0), (.int .i64 0)] true, bx b_1 46 [(.int .i64 ch), (.int .i64 fr), (.int .i64 ve), (.int .i64 it), (.int .i64 ix), (.bool ky), (.string da), (.int .i64 re), (.int .i64 ga), (.string ca), (.int .i64 os), (.int .i64 oF), (.slice A al.length c)] true, bx b 76 [(.int .i64 ((vstep s.full ((da.size : Nat) : Int)).getD 0)), (.int .i64 it), (.int .i64 ix), (.int .i64 ((da.size : Nat) : Int)), (.bool ky), (.bool false), (.bool true), (.int .i64 k.channel), (.int .i64 k.region), (.slice k.SA k.store.length k.sc), (.slice NB NL.length cB)] false] (by kernel_rfl) hg hbx
          refine ⟨.inl (by kernel_rfl), ?_⟩
          refine An.done (by kernel_rfl) ?_
          refine then_normal ?_
          refine wp_seq ?_
          refine w_region ?_
          refine H.val 63 (.pointer (some ⟨b_13, 0, none⟩)) (by kernel_rfl) (by kernel_rfl) ?_
          intro a H
          refine H.val 64 (.int .i64 it) (by kernel_rfl) (ex_load1 (by kernel_rfl) (by kernel_rfl) (HP.cell 2 rfl 0 rfl)) ?_
          intro a H
          refine H.val 65 (.pointer (some ⟨b_13, 1, none⟩)) (by kernel_rfl) (by kernel_rfl) ?_
          intro a H
          refine H.val 66 (.int .i64 ix) (by kernel_rfl) (ex_load1 (by kernel_rfl) (by kernel_rfl) (HP.cell 2 rfl 1 rfl)) ?_
          intro a H
          refine H.val 67 (.pointer (some ⟨b_1, 2, none⟩)) (by kernel_rfl) (by kernel_rfl) ?_
          intro a H
          refine H.val 68 (.int .i64 ve) (by kernel_rfl) (ex_load1 (by kernel_rfl) (by kernel_rfl) (HP.cell 4 rfl 2 rfl)) ?_
          intro a H
          refine H.val 69 (.agg #[(.int .i64 it), (.int .i64 ix), (.int .i64 ve)]) (by kernel_rfl) (by kernel_rfl) ?_
          intro a H
          refine H.store HP 3 b_3 0 3 36 [(.int .i64 0), (.int .i64 0), (.int .i64 0)] true (.agg #[(.int .i64 it), (.int .i64 ix), (.int .i64 ve)]) [bx b_28 71 [(.int .i64 it), (.int .i64 ix), (.int .i64 ((da.size : Nat) : Int)), (.bool ky), (.bool false)] true, bx b_16 84 [(.func (.func 30) #[] #[]), (.func (.func 31) #[] #[])] true, bx b_13 71 [(.int .i64 it), (.int .i64 ix), (.int .i64 ((da.size : Nat) : Int)), (.bool ky), (.bool false)] true, bx b_3 36 [(.int .i64 it), (.int .i64 ix), (.int .i64 ve)] true, bx b_1 46 [(.int .i64 ch), (.int .i64 fr), (.int .i64 ve), (.int .i64 it), (.int .i64 ix), (.bool ky), (.string da), (.int .i64 re), (.int .i64 ga), (.string ca), (.int .i64 os), (.int .i64 oF), (.slice A al.length c)] true, bx b 76 [(.int .i64 ((vstep s.full ((da.size : Nat) : Int)).getD 0)), (.int .i64 it), (.int .i64 ix), (.int .i64 ((da.size : Nat) : Int)), (.bool ky), (.bool false), (.bool true), (.int .i64 k.channel), (.int .i64 k.region), (.slice k.SA k.store.length k.sc), (.slice NB NL.length cB)] false] (by kernel_rfl) (by kernel_rfl) (by kernel_rfl) rfl (by kernel_rfl) (by kernel_rfl) (by kernel_rfl) (by kernel_rfl) (by kernel_rfl) ?_
          intro w_34 a H HP
          refine wpList_nil ?_
          have H := H.keep (L' := [(62, (.tuple #[])), (61, (.agg #[(.int .i64 it), (.int .i64 ix), (.int .i64 ((da.size : Nat) : Int)), (.bool ky), (.bool false)])), (60, (.pointer (some ⟨b, 0, none⟩))), (59, (.pointer (some ⟨b, 0, none⟩))), (58, (.pointer (some ⟨b, 0, none⟩))), (56, (.agg #[(.int .i64 it), (.int .i64 ix), (.int .i64 ((da.size : Nat) : Int)), (.bool ky), (.bool false)])), (55, (.bool nb)), (10, (.bool nb)), (9, (.pointer (some ⟨b_28, 0, none⟩))), (8, (.func (.func 31) #[] #[])), (47, (.func (.func 31) #[] #[])), (46, (.pointer (some ⟨b_16, 1, none⟩))), (45, (.bool true)), (44, (.int .i64 1)), (43, (.int .i64 2)), (42, (.slice (some ⟨b_16, 0, none⟩) 2 2)), (5, (.pointer (some ⟨b_13, 0, none⟩))), (4, (.pointer (some ⟨b_3, 0, none⟩))), (3, (.pointer (some ⟨b_1, 0, none⟩))), (0, (.pointer (some ⟨b, 0, none⟩)))]) (by kernel_rfl)
          refine then_normal ?_
          refine wp_ret ?_
          refine H.ret1 (fn := Try.f14) Try.results14 (RV.cellN (vs := [(.int .i64 it), (.int .i64 ix), (.int .i64 ve)]) (b := b_3) (off := 0) (k := 3) (by kernel_rfl) (by kernel_rfl) (by kernel_rfl) rfl (HP.cells 3 rfl 0 3 (by kernel_rfl))) ?_
          rw [stepS_net k s ⟨ch, fr, ve, it, ix, ky, da, re, ga, ca, os, oF, A, c, al⟩ g27p g37p hNL hX hA hnb g55p]
          exact ⟨rfl, NB, cB, ⟨HP.at_ 5 rfl, HP.fact 0 rfl, hoffB, HP.fact 2 rfl, hSA, hSo, hm, hp, hn1B⟩, (fun bk o e => (hqB bk o e).imp id (fun h => Nat.le_trans hsz h)), HP.only b (by intro x hx; simp only [List.mem_cons, List.not_mem_nil, or_false] at hx; rcases hx with rfl | rfl | rfl | rfl | rfl | rfl <;> simp [bx])⟩
        · have g55p := g55
          refine wp_skip ?_
          refine inb_normal ?_
          refine then_normal ?_
          refine w_region ?_
          refine H.valE 57 (.int .i64 (IntKind.i64.wrap (1 + 1))) (.int .i64 2) (by kernel_rfl) (by kernel_rfl) (by kernel_rfl) ?_
          intro a H
          refine H.val 44 (.int .i64 2) (by kernel_rfl) (by kernel_rfl) ?_
          intro a H
          refine wpList_nil ?_
          refine then_normal ?_
          exact ⟨0, by omega, .inr (.inr ⟨rfl, H.keep (by kernel_rfl), HP.tail rfl, hA, g55p⟩)⟩
      · refine wp_seq ?_
        refine w_region ?_
        refine H.val 45 (.bool false) (by kernel_rfl) (by kernel_rfl) ?_
        intro a H
        refine wpList_nil ?_
        refine then_normal ?_
        refine wp_seq ?_
        refine w_iff H rfl ?_
        refine wp_exit ?_
        refine then_exit ?_
        refine then_exit ?_
        refine w_exit_here ?_
        refine ng_normal ?_
        refine then_normal ?_
        refine wp_seq ?_
        refine An.start (fun v => Hp w v [bx b_16 84 [(.func (.func 30) #[] #[]), (.func (.func 31) #[] #[])] true, bx b_13 71 [(.int .i64 0), (.int .i64 0), (.int .i64 0), (.bool false), (.bool false)] true, bx b_3 36 [(.int .i64 0), (.int .i64 0), (.int .i64 0)] true, bx b_1 46 [(.int .i64 ch), (.int .i64 fr), (.int .i64 ve), (.int .i64 it), (.int .i64 ix), (.bool ky), (.string da), (.int .i64 re), (.int .i64 ga), (.string ca), (.int .i64 os), (.int .i64 oF), (.slice A al.length c)] true, bx b 76 [(.int .i64 s.full), (.int .i64 s.last.item), (.int .i64 s.last.index), (.int .i64 s.last.size), (.bool s.last.key), (.bool s.last.alt), (.bool true), (.int .i64 k.channel), (.int .i64 k.region), (.slice k.SA k.store.length k.sc), (.slice NB NL.length cB)] false] [(rowK 3 Note.cells NB NL.length NL), (rowK 3 Note.cells NA s.noted.length s.noted), (astsK k.SA k.store.length k.store), ⟨fun j => rowFp al.length A j, fun w => IsAlts w A al.length al⟩]) 4 5 HP wide_follows rfl ?_
        intro w_35 HP
        refine An.pure H (.inr (HP)) 0 58 (.pointer (some ⟨b, 0, none⟩)) rfl (by kernel_rfl) (by kernel_rfl) (fun _ _ _ h => h) (fun _ => by kernel_rfl) ?_
        intro a H
        refine An.pure H (.inr (HP)) 1 59 (.pointer (some ⟨b, 0, none⟩)) rfl (by kernel_rfl) (by kernel_rfl) (fun _ _ _ h => h) (fun _ => by kernel_rfl) ?_
        intro a H
        refine An.pure H (.inr (HP)) 2 60 (.pointer (some ⟨b, 0, none⟩)) rfl (by kernel_rfl) (by kernel_rfl) (fun _ _ _ h => h) (fun _ => by kernel_rfl) ?_
        intro a H
        refine An.val H (HP) 3 61 (.agg #[(.int .i64 0), (.int .i64 0), (.int .i64 0), (.bool false), (.bool false)]) rfl (by kernel_rfl) (by kernel_rfl) (fun _ _ _ h => h) (fun _ hS => ex_loadN (vs := [(.int .i64 0), (.int .i64 0), (.int .i64 0), (.bool false), (.bool false)]) (by kernel_rfl) (by kernel_rfl) (by kernel_rfl) rfl (hS.cells 1 rfl 0 5 (by kernel_rfl))) ?_
        intro a H
        refine An.one 4 (by kernel_rfl) ?_
        refine Op.call H 62 rfl (by kernel_rfl) (Eq.trans (by kernel_rfl : _ = (callFunc 32 #[(.pointer (some ⟨b, 0, none⟩)), (.agg #[(.int .i64 0), (.int .i64 0), (.int .i64 0), (.bool false), (.bool false)])]).run Try.prog w_35) (Try.call32 _ _)) (show2 b k ⟨s.full, s.last, NL⟩ ⟨0, 0, 0, false, false⟩ w_35 NB cB (HP.at_ 4 rfl)) ?_
        rintro e w_36 ⟨rfl, hbx, hg⟩
        refine ⟨_, rfl, ?_⟩
        intro a H
        have HP := HP.changed 4 rfl [(.int .i64 ((vstep s.full 0).getD 0)), (.int .i64 0), (.int .i64 0), (.int .i64 0), (.bool false), (.bool false), (.bool true), (.int .i64 k.channel), (.int .i64 k.region), (.slice k.SA k.store.length k.sc), (.slice NB NL.length cB)] [bx b_16 84 [(.func (.func 30) #[] #[]), (.func (.func 31) #[] #[])] true, bx b_13 71 [(.int .i64 0), (.int .i64 0), (.int .i64 0), (.bool false), (.bool false)] true, bx b_3 36 [(.int .i64 0), (.int .i64 0), (.int .i64 0)] true, bx b_1 46 [(.int .i64 ch), (.int .i64 fr), (.int .i64 ve), (.int .i64 it), (.int .i64 ix), (.bool ky), (.string da), (.int .i64 re), (.int .i64 ga), (.string ca), (.int .i64 os), (.int .i64 oF), (.slice A al.length c)] true, bx b 76 [(.int .i64 ((vstep s.full 0).getD 0)), (.int .i64 0), (.int .i64 0), (.int .i64 0), (.bool false), (.bool false), (.bool true), (.int .i64 k.channel), (.int .i64 k.region), (.slice k.SA k.store.length k.sc), (.slice NB NL.length cB)] false] (by kernel_rfl) hg hbx
        refine ⟨.inl (by kernel_rfl), ?_⟩
        refine An.done (by kernel_rfl) ?_
        refine then_normal ?_
        refine wp_seq ?_
        refine w_region ?_
        refine H.val 63 (.pointer (some ⟨b_13, 0, none⟩)) (by kernel_rfl) (by kernel_rfl) ?_
        intro a H
        refine H.val 64 (.int .i64 0) (by kernel_rfl) (ex_load1 (by kernel_rfl) (by kernel_rfl) (HP.cell 1 rfl 0 rfl)) ?_
        intro a H
        refine H.val 65 (.pointer (some ⟨b_13, 1, none⟩)) (by kernel_rfl) (by kernel_rfl) ?_
        intro a H
        refine H.val 66 (.int .i64 0) (by kernel_rfl) (ex_load1 (by kernel_rfl) (by kernel_rfl) (HP.cell 1 rfl 1 rfl)) ?_
        intro a H
        refine H.val 67 (.pointer (some ⟨b_1, 2, none⟩)) (by kernel_rfl) (by kernel_rfl) ?_
        intro a H
        refine H.val 68 (.int .i64 ve) (by kernel_rfl) (ex_load1 (by kernel_rfl) (by kernel_rfl) (HP.cell 3 rfl 2 rfl)) ?_
        intro a H
        refine H.val 69 (.agg #[(.int .i64 0), (.int .i64 0), (.int .i64 ve)]) (by kernel_rfl) (by kernel_rfl) ?_
        intro a H
        refine H.store HP 2 b_3 0 3 36 [(.int .i64 0), (.int .i64 0), (.int .i64 0)] true (.agg #[(.int .i64 0), (.int .i64 0), (.int .i64 ve)]) [bx b_16 84 [(.func (.func 30) #[] #[]), (.func (.func 31) #[] #[])] true, bx b_13 71 [(.int .i64 0), (.int .i64 0), (.int .i64 0), (.bool false), (.bool false)] true, bx b_3 36 [(.int .i64 0), (.int .i64 0), (.int .i64 ve)] true, bx b_1 46 [(.int .i64 ch), (.int .i64 fr), (.int .i64 ve), (.int .i64 it), (.int .i64 ix), (.bool ky), (.string da), (.int .i64 re), (.int .i64 ga), (.string ca), (.int .i64 os), (.int .i64 oF), (.slice A al.length c)] true, bx b 76 [(.int .i64 ((vstep s.full 0).getD 0)), (.int .i64 0), (.int .i64 0), (.int .i64 0), (.bool false), (.bool false), (.bool true), (.int .i64 k.channel), (.int .i64 k.region), (.slice k.SA k.store.length k.sc), (.slice NB NL.length cB)] false] (by kernel_rfl) (by kernel_rfl) (by kernel_rfl) rfl (by kernel_rfl) (by kernel_rfl) (by kernel_rfl) (by kernel_rfl) (by kernel_rfl) ?_
        intro w_37 a H HP
        refine wpList_nil ?_
        have H := H.keep (L' := [(62, (.tuple #[])), (61, (.agg #[(.int .i64 0), (.int .i64 0), (.int .i64 0), (.bool false), (.bool false)])), (60, (.pointer (some ⟨b, 0, none⟩))), (59, (.pointer (some ⟨b, 0, none⟩))), (58, (.pointer (some ⟨b, 0, none⟩))), (45, (.bool false)), (44, (.int .i64 2)), (43, (.int .i64 2)), (42, (.slice (some ⟨b_16, 0, none⟩) 2 2)), (5, (.pointer (some ⟨b_13, 0, none⟩))), (4, (.pointer (some ⟨b_3, 0, none⟩))), (3, (.pointer (some ⟨b_1, 0, none⟩))), (0, (.pointer (some ⟨b, 0, none⟩)))]) (by kernel_rfl)
        refine then_normal ?_
        refine wp_ret ?_
        refine H.ret1 (fn := Try.f14) Try.results14 (RV.cellN (vs := [(.int .i64 0), (.int .i64 0), (.int .i64 ve)]) (b := b_3) (off := 0) (k := 3) (by kernel_rfl) (by kernel_rfl) (by kernel_rfl) rfl (HP.cells 2 rfl 0 3 (by kernel_rfl))) ?_
        rw [stepS_none k s ⟨ch, fr, ve, it, ix, ky, da, re, ga, ca, os, oF, A, c, al⟩ g27p g37p hNL hX hA hnb hN]
        exact ⟨rfl, NB, cB, ⟨HP.at_ 4 rfl, HP.fact 0 rfl, hoffB, HP.fact 2 rfl, hSA, hSo, hm, hp, hn1B⟩, (fun bk o e => (hqB bk o e).imp id (fun h => Nat.le_trans hsz h)), HP.only b (by intro x hx; simp only [List.mem_cons, List.not_mem_nil, or_false] at hx; rcases hx with rfl | rfl | rfl | rfl | rfl <;> simp [bx])⟩
    · have g37p := eq_of_bne_false g37
      refine wp_skip ?_
      refine then_normal ?_
      refine wp_seq ?_
      refine An.start (fun v => Hp w v [bx b_13 71 [(.int .i64 0), (.int .i64 0), (.int .i64 0), (.bool false), (.bool false)] true, bx b_3 36 [(.int .i64 0), (.int .i64 0), (.int .i64 0)] true, bx b_1 46 [(.int .i64 ch), (.int .i64 fr), (.int .i64 ve), (.int .i64 it), (.int .i64 ix), (.bool ky), (.string da), (.int .i64 re), (.int .i64 ga), (.string ca), (.int .i64 os), (.int .i64 oF), (.slice A al.length c)] true, bx b 76 [(.int .i64 s.full), (.int .i64 s.last.item), (.int .i64 s.last.index), (.int .i64 s.last.size), (.bool s.last.key), (.bool s.last.alt), (.bool true), (.int .i64 k.channel), (.int .i64 k.region), (.slice k.SA k.store.length k.sc), (.slice NA s.noted.length nc)] false] [(rowK 3 Note.cells NA s.noted.length s.noted), (astsK k.SA k.store.length k.store), ⟨fun j => rowFp al.length A j, fun w => IsAlts w A al.length al⟩]) 4 5 HP wide_follows rfl ?_
      intro w_38 HP
      refine An.pure H (.inr (HP)) 0 58 (.pointer (some ⟨b, 0, none⟩)) rfl (by kernel_rfl) (by kernel_rfl) (fun _ _ _ h => h) (fun _ => by kernel_rfl) ?_
      intro a H
      refine An.pure H (.inr (HP)) 1 59 (.pointer (some ⟨b, 0, none⟩)) rfl (by kernel_rfl) (by kernel_rfl) (fun _ _ _ h => h) (fun _ => by kernel_rfl) ?_
      intro a H
      refine An.pure H (.inr (HP)) 2 60 (.pointer (some ⟨b, 0, none⟩)) rfl (by kernel_rfl) (by kernel_rfl) (fun _ _ _ h => h) (fun _ => by kernel_rfl) ?_
      intro a H
      refine An.val H (HP) 3 61 (.agg #[(.int .i64 0), (.int .i64 0), (.int .i64 0), (.bool false), (.bool false)]) rfl (by kernel_rfl) (by kernel_rfl) (fun _ _ _ h => h) (fun _ hS => ex_loadN (vs := [(.int .i64 0), (.int .i64 0), (.int .i64 0), (.bool false), (.bool false)]) (by kernel_rfl) (by kernel_rfl) (by kernel_rfl) rfl (hS.cells 0 rfl 0 5 (by kernel_rfl))) ?_
      intro a H
      refine An.one 4 (by kernel_rfl) ?_
      refine Op.call H 62 rfl (by kernel_rfl) (Eq.trans (by kernel_rfl : _ = (callFunc 32 #[(.pointer (some ⟨b, 0, none⟩)), (.agg #[(.int .i64 0), (.int .i64 0), (.int .i64 0), (.bool false), (.bool false)])]).run Try.prog w_38) (Try.call32 _ _)) (show2 b k ⟨s.full, s.last, s.noted⟩ ⟨0, 0, 0, false, false⟩ w_38 NA nc (HP.at_ 3 rfl)) ?_
      rintro e w_39 ⟨rfl, hbx, hg⟩
      refine ⟨_, rfl, ?_⟩
      intro a H
      have HP := HP.changed 3 rfl [(.int .i64 ((vstep s.full 0).getD 0)), (.int .i64 0), (.int .i64 0), (.int .i64 0), (.bool false), (.bool false), (.bool true), (.int .i64 k.channel), (.int .i64 k.region), (.slice k.SA k.store.length k.sc), (.slice NA s.noted.length nc)] [bx b_13 71 [(.int .i64 0), (.int .i64 0), (.int .i64 0), (.bool false), (.bool false)] true, bx b_3 36 [(.int .i64 0), (.int .i64 0), (.int .i64 0)] true, bx b_1 46 [(.int .i64 ch), (.int .i64 fr), (.int .i64 ve), (.int .i64 it), (.int .i64 ix), (.bool ky), (.string da), (.int .i64 re), (.int .i64 ga), (.string ca), (.int .i64 os), (.int .i64 oF), (.slice A al.length c)] true, bx b 76 [(.int .i64 ((vstep s.full 0).getD 0)), (.int .i64 0), (.int .i64 0), (.int .i64 0), (.bool false), (.bool false), (.bool true), (.int .i64 k.channel), (.int .i64 k.region), (.slice k.SA k.store.length k.sc), (.slice NA s.noted.length nc)] false] (by kernel_rfl) hg hbx
      refine ⟨.inl (by kernel_rfl), ?_⟩
      refine An.done (by kernel_rfl) ?_
      refine then_normal ?_
      refine wp_seq ?_
      refine w_region ?_
      refine H.val 63 (.pointer (some ⟨b_13, 0, none⟩)) (by kernel_rfl) (by kernel_rfl) ?_
      intro a H
      refine H.val 64 (.int .i64 0) (by kernel_rfl) (ex_load1 (by kernel_rfl) (by kernel_rfl) (HP.cell 0 rfl 0 rfl)) ?_
      intro a H
      refine H.val 65 (.pointer (some ⟨b_13, 1, none⟩)) (by kernel_rfl) (by kernel_rfl) ?_
      intro a H
      refine H.val 66 (.int .i64 0) (by kernel_rfl) (ex_load1 (by kernel_rfl) (by kernel_rfl) (HP.cell 0 rfl 1 rfl)) ?_
      intro a H
      refine H.val 67 (.pointer (some ⟨b_1, 2, none⟩)) (by kernel_rfl) (by kernel_rfl) ?_
      intro a H
      refine H.val 68 (.int .i64 ve) (by kernel_rfl) (ex_load1 (by kernel_rfl) (by kernel_rfl) (HP.cell 2 rfl 2 rfl)) ?_
      intro a H
      refine H.val 69 (.agg #[(.int .i64 0), (.int .i64 0), (.int .i64 ve)]) (by kernel_rfl) (by kernel_rfl) ?_
      intro a H
      refine H.store HP 1 b_3 0 3 36 [(.int .i64 0), (.int .i64 0), (.int .i64 0)] true (.agg #[(.int .i64 0), (.int .i64 0), (.int .i64 ve)]) [bx b_13 71 [(.int .i64 0), (.int .i64 0), (.int .i64 0), (.bool false), (.bool false)] true, bx b_3 36 [(.int .i64 0), (.int .i64 0), (.int .i64 ve)] true, bx b_1 46 [(.int .i64 ch), (.int .i64 fr), (.int .i64 ve), (.int .i64 it), (.int .i64 ix), (.bool ky), (.string da), (.int .i64 re), (.int .i64 ga), (.string ca), (.int .i64 os), (.int .i64 oF), (.slice A al.length c)] true, bx b 76 [(.int .i64 ((vstep s.full 0).getD 0)), (.int .i64 0), (.int .i64 0), (.int .i64 0), (.bool false), (.bool false), (.bool true), (.int .i64 k.channel), (.int .i64 k.region), (.slice k.SA k.store.length k.sc), (.slice NA s.noted.length nc)] false] (by kernel_rfl) (by kernel_rfl) (by kernel_rfl) rfl (by kernel_rfl) (by kernel_rfl) (by kernel_rfl) (by kernel_rfl) (by kernel_rfl) ?_
      intro w_40 a H HP
      refine wpList_nil ?_
      have H := H.keep (L' := [(62, (.tuple #[])), (61, (.agg #[(.int .i64 0), (.int .i64 0), (.int .i64 0), (.bool false), (.bool false)])), (60, (.pointer (some ⟨b, 0, none⟩))), (59, (.pointer (some ⟨b, 0, none⟩))), (58, (.pointer (some ⟨b, 0, none⟩))), (37, (.bool (it != 0))), (36, (.int .i64 it)), (35, (.pointer (some ⟨b_1, 3, none⟩))), (5, (.pointer (some ⟨b_13, 0, none⟩))), (27, (.bool (ch != k.channel))), (19, (.bool false)), (4, (.pointer (some ⟨b_3, 0, none⟩))), (3, (.pointer (some ⟨b_1, 0, none⟩))), (0, (.pointer (some ⟨b, 0, none⟩))), (1, (.agg #[(.int .i64 ch), (.int .i64 fr), (.int .i64 ve), (.int .i64 it), (.int .i64 ix), (.bool ky), (.string da), (.int .i64 re), (.int .i64 ga), (.string ca), (.int .i64 os), (.int .i64 oF), (.slice A al.length c)]))]) (by kernel_rfl)
      refine then_normal ?_
      refine wp_ret ?_
      refine H.ret1 (fn := Try.f14) Try.results14 (RV.cellN (vs := [(.int .i64 0), (.int .i64 0), (.int .i64 ve)]) (b := b_3) (off := 0) (k := 3) (by kernel_rfl) (by kernel_rfl) (by kernel_rfl) rfl (HP.cells 1 rfl 0 3 (by kernel_rfl))) ?_
      rw [stepS_slate k s ⟨ch, fr, ve, it, ix, ky, da, re, ga, ca, os, oF, A, c, al⟩ g27p g37p]
      exact ⟨rfl, NA, nc, ⟨HP.at_ 3 rfl, HP.fact 0 rfl, hoff, HP.fact 1 rfl, hSA, hSo, hm, hp, hn1⟩, (fun _ _ _ => .inl ⟨rfl, rfl⟩), HP.only b (by intro x hx; simp only [List.mem_cons, List.not_mem_nil, or_false] at hx; rcases hx with rfl | rfl | rfl | rfl <;> simp [bx])⟩
set_option maxRecDepth 100000 in
set_option maxHeartbeats 4000000 in
theorem step_nil (u : UnitA) (w : World) :
    Calls Try.prog 14 #[.pointer none, u.val] w fun e w' => e = .returned (shownV p5Z 0) ∧ Below w.heap.size w w' := by
  obtain ⟨ch, fr, ve, it, ix, ky, da, re, ga, ca, os, oF, A, c, al⟩ := u
  have HP := Hp.start w
  refine w_enter 70 [(0, (.pointer none)), (1, (.agg #[(.int .i64 ch), (.int .i64 fr), (.int .i64 ve), (.int .i64 it), (.int .i64 ix), (.bool ky), (.string da), (.int .i64 re), (.int .i64 ga), (.string ca), (.int .i64 os), (.int .i64 oF), (.slice A al.length c)]))] Try.func14 rfl Try.ntmps14 (by kernel_rfl) (by kernel_rfl) ?_
  intro a H
  refine wp_seq ?_
  refine w_region ?_
  refine H.alloc HP 3 (fun b => (.pointer (some ⟨b, 0, none⟩))) 46 [(.int .i64 ch), (.int .i64 fr), (.int .i64 ve), (.int .i64 it), (.int .i64 ix), (.bool ky), (.string da), (.int .i64 re), (.int .i64 ga), (.string ca), (.int .i64 os), (.int .i64 oF), (.slice A al.length c)] (by kernel_rfl) (fun w => by kernel_rfl) ?_
  intro b_1 w_2 a H HP
  refine H.alloc HP 4 (fun b => (.pointer (some ⟨b, 0, none⟩))) 36 [(.int .i64 0), (.int .i64 0), (.int .i64 0)] (by kernel_rfl) (fun w => by kernel_rfl) ?_
  intro b_3 w_4 a H HP
  refine wpList_nil ?_
  refine then_normal ?_
  refine wp_seq ?_
  refine wp_seq ?_
  refine w_region ?_
  refine H.val 11 (.pointer none) (by kernel_rfl) (by kernel_rfl) ?_
  intro a H
  refine H.val 12 (.bool true) (by kernel_rfl) (by kernel_rfl) ?_
  intro a H
  refine H.val 13 (.bool true) (by kernel_rfl) (by kernel_rfl) ?_
  intro a H
  refine H.skip 14 (by kernel_rfl) ?_
  intro a H
  refine H.skip 15 (by kernel_rfl) ?_
  intro a H
  refine H.skip 16 (by kernel_rfl) ?_
  intro a H
  refine H.skip 17 (by kernel_rfl) ?_
  intro a H
  refine H.skip 18 (by kernel_rfl) ?_
  intro a H
  refine H.val 19 (.bool true) (by kernel_rfl) (by kernel_rfl) ?_
  intro a H
  refine wpList_nil ?_
  have H := H.keep (L' := [(19, (.bool true)), (4, (.pointer (some ⟨b_3, 0, none⟩))), (3, (.pointer (some ⟨b_1, 0, none⟩))), (0, (.pointer none)), (1, (.agg #[(.int .i64 ch), (.int .i64 fr), (.int .i64 ve), (.int .i64 it), (.int .i64 ix), (.bool ky), (.string da), (.int .i64 re), (.int .i64 ga), (.string ca), (.int .i64 os), (.int .i64 oF), (.slice A al.length c)]))]) (by kernel_rfl)
  refine then_normal ?_
  refine w_ift H rfl ?_
  refine wp_seq ?_
  refine w_region ?_
  refine H.val 20 (.agg #[(.int .i64 0), (.int .i64 0), (.int .i64 0)]) (by kernel_rfl) (by kernel_rfl) ?_
  intro a H
  refine H.store HP 0 b_3 0 3 36 [(.int .i64 0), (.int .i64 0), (.int .i64 0)] true (.agg #[(.int .i64 0), (.int .i64 0), (.int .i64 0)]) [bx b_3 36 [(.int .i64 0), (.int .i64 0), (.int .i64 0)] true, bx b_1 46 [(.int .i64 ch), (.int .i64 fr), (.int .i64 ve), (.int .i64 it), (.int .i64 ix), (.bool ky), (.string da), (.int .i64 re), (.int .i64 ga), (.string ca), (.int .i64 os), (.int .i64 oF), (.slice A al.length c)] true] (by kernel_rfl) (by kernel_rfl) (by kernel_rfl) rfl (by kernel_rfl) (by kernel_rfl) (by kernel_rfl) (by kernel_rfl) (by kernel_rfl) ?_
  intro w_5 a H HP
  refine wpList_nil ?_
  refine then_normal ?_
  refine wp_ret ?_
  refine then_ret ?_
  refine H.ret1 (fn := Try.f14) Try.results14 (RV.cellN (vs := [(.int .i64 0), (.int .i64 0), (.int .i64 0)]) (b := b_3) (off := 0) (k := 3) (by kernel_rfl) (by kernel_rfl) (by kernel_rfl) rfl (HP.cells 0 rfl 0 3 (by kernel_rfl))) ?_
  exact ⟨rfl, HP.below (by kernel_rfl)⟩
end Go.Proofs.Ytpaepefpfaoacaa
