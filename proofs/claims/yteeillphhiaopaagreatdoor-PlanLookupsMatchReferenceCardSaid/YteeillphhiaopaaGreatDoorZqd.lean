/- Part 4 of the proofs: PlH, PlI, DeB, DeC, DeD. -/
import Derived.Test.YteeillphhiaopaaGreatDoorZqc
namespace Go.Proofs.YteeillphhiaopaaGreatDoor
set_option maxRecDepth 100000
set_option maxHeartbeats 4000000
open Go.ChangeShapes Go.WideShapes Go.ChangeAt Go.RowKit
set_option linter.unusedVariables false
set_option linter.unusedSimpArgs false
theorem take_eq_snoc {α : Type} {l m : List α} {i : Nat} {x y : α} (h : l.take i = m.take i) (hx : l[i]? = some x) (hy : m[i]? = some y) (e : x = y) : l.take (i + 1) = m.take (i + 1) := by
 rw [List.take_add_one, List.take_add_one, hx, hy, h, e]
theorem take_all {α : Type} {l m : List α} {i : Nat} (h : l.take i = m.take i) (hi : l.length ≤ i) (hl : l.length = m.length) : l = m := by
 rw [← List.take_of_length_le hi, h, List.take_of_length_le (by omega)]
theorem ne_at {α : Type} {l m : List α} {i : Nat} {x y : α} (hx : l[i]? = some x) (hy : m[i]? = some y) (e : x ≠ y) : l ≠ m := fun h => by
 subst h
 rw [hx] at hy
 exact e (Option.some.inj hy)
theorem ent_eqb (x y : Ent) : decide (x.nv = y.nv) = (x.id == y.id && x.item == y.item && x.frames == y.frames && x.earliest == y.earliest && x.latest == y.latest && x.booking == y.booking && decide (x.al = y.al)) := by
 rw [Bool.eq_iff_iff]
 simp [Ent.nv, and_assoc]
theorem pln_eqb (p q : Pln) : decide (p.nv = q.nv) = (p.channel == q.channel && (([p.num, p.den] : List Int) == [q.num, q.den]) && p.offset == q.offset && p.epoch == q.epoch && p.regions == q.regions && p.length == q.length && p.fill == q.fill && decide (p.sh = q.sh) && decide (p.its = q.its) && decide (p.es.map Ent.nv = q.es.map Ent.nv) && decide (p.bs = q.bs) && decide (p.cs = q.cs)) := by
 rw [Bool.eq_iff_iff]
 simp only [Pln.nv, PlN.mk.injEq, decide_eq_true_eq, Bool.and_eq_true, beq_iff_eq, List.cons.injEq, and_true]
 constructor
 ·rintro ⟨h1, h2, h3, h4, h5, h6, h7, h8, h9, h10, h11, h12, h13⟩; exact ⟨⟨⟨⟨⟨⟨⟨⟨⟨⟨⟨h1, h2, h3⟩, h4⟩, h6⟩, h7⟩, h8⟩, h9⟩, h5⟩, h10⟩, h11⟩, h12⟩, h13⟩
 ·rintro ⟨⟨⟨⟨⟨⟨⟨⟨⟨⟨⟨h1, h2, h3⟩, h4⟩, h6⟩, h7⟩, h8⟩, h9⟩, h5⟩, h10⟩, h11⟩, h12⟩, h13⟩; exact ⟨h1, h2, h3, h4, h5, h6, h7, h8, h9, h10, h11, h12, h13⟩
theorem map_at {α β : Type} {f : α → β} {l : List α} {i : Nat} {x : α} (hx : l[i]? = some x) : (l.map f)[i]? = some (f x) := by
 rw [List.getElem?_map, hx]; rfl
theorem findI_any (A : Option Addr) (c : Nat) (l : List Itm) (k : Int) (w : World) (hr : IsIt w A l) (hl : l.length ≤ maxLen) : Calls Tryz.prog 48 #[.slice A l.length c, .int .i64 k, .func (.func 49) #[] #[]] w fun e w' => e = .returned (.tuple #[(itV (gI l k)), .bool (hI l k)]) ∧ Below w.heap.size w w' := by
 unfold maxLen at hl
 have HP := Hp.start w
 refine w_enter 25 [(0, (.slice A l.length c)), (1, (ii k)), (2, (.func (.func 49) #[] #[]))] Tryz.func48 rfl Tryz.ntmps48 (by kernel_rfl) (by kernel_rfl) fun a H => ?_
 refine sq (rg ?_)
 refine H.al HP 6 38 [(ii 0), (ii 0), (ii 0), (ii 0), (ii 0)] fun b_1 w_2 a H HP => H.v 7 (.bool false) fun a H => ?_
 refine nl (tn (sq (sq (rg ?_))))
 refine H.v 11 (.slice A l.length c) fun a H => H.v 12 (ii l.length) fun a H => H.v 13 (ii 0) fun a H => ?_
 refine nl (tn (bk ?_))
 refine w_loop (fun mm a wv => ∃ (i : Nat), l.length - i = mm ∧ Sl 25 [(13, (ii i)), (12, (ii l.length)), (11, (.slice A l.length c)), (6, (pt b_1 0)), (0, (.slice A l.length c)), (1, (ii k)), (2, (.func (.func 49) #[] #[]))] a ∧ Hp w wv [bx b_1 38 [(ii 0), (ii 0), (ii 0), (ii 0), (ii 0)] true] [] ∧ (i ≤ l.length) ∧ (fI l k = fI (l.drop i) k)) (l.length - 0) ?_ ?_
 ·exact ⟨0, (by omega), H.keep (by kernel_rfl), HP, (Nat.zero_le _), rfl⟩
 rintro mm a w_3 ⟨i, hmeas, H, HP, hib, hrel⟩
 refine sq (rg ?_)
 refine H.v 14 (.bool (decide ((i : Int) < (l.length : Int)))) fun a H => ?_
 refine nl (tn (sq ?_))
 refine w_if H rfl (fun g14 => ?_) (fun g14 => ?_)
 ·have g14p := of_decide_eq_true g14
  refine sk (tn (sq (bk (sq ?_))))
  obtain ⟨bu_5, ou_6, x_4, hA_7, _, hd_9, hx_8, hm_10, _⟩ := IsRow.get itC_size (hr.below HP.bl) (i := i) (by omega)
  refine rg ?_
  refine H.u 15 (.pointer (some ⟨bu_5, ou_6 + i * 5, none⟩)) (ex_indexA (b := bu_5) (off := ou_6) (len := l.length) (cap := c) (e := 38) (k := 5) (ik := .i64) (i := (i : Int)) (m := i) hA_7 (by kernel_rfl) (by kernel_rfl) (by omega) (by omega) (by kernel_rfl) (by kernel_rfl)) fun a H => H.u 16 (itV x_4) (ex_lN (itL x_4) (IsRow.cells itC_size (hr.below HP.bl) hA_7 hx_8)) fun a H => H.al HP 9 38 [(ii 0), (ii 0), (ii 0), (ii 0), (ii 0)] fun b_11 w_12 a H HP => H.st HP 0 b_11 0 5 38 true (itV x_4) [bx b_11 38 (itL x_4) true, bx b_1 38 [(ii 0), (ii 0), (ii 0), (ii 0), (ii 0)] true] rfl fun w_13 a H HP => ?_
  refine nl (tn (sq (rg ?_)))
  refine H.v 17 (.func (.func 49) #[] #[]) fun a H => H.u 18 (itV x_4) (ex_lN (itL x_4) (HP.cells 0 rfl 0 5 (by kernel_rfl))) fun a H => H.cb HP 19 (Tryz.call49 _ _) (itemID_any x_4 w_13) fun w_14 hb a H HP => H.v 20 (ii k) fun a H => H.v 21 (.bool (x_4.id == k)) fun a H => ?_
  refine nl (tn ?_)
  refine w_if H rfl (fun g21 => ?_) (fun g21 => ?_)
  ·have g21p := eq_of_beq g21
   refine sq (rg ?_)
   refine H.u 22 (itV x_4) (ex_lN (itL x_4) (HP.cells 0 rfl 0 5 (by kernel_rfl))) fun a H => H.st HP 1 b_1 0 5 38 true (itV x_4) [bx b_11 38 (itL x_4) true, bx b_1 38 (itL x_4) true] rfl fun w_15 a H HP => H.v 7 (.bool true) fun a H => ?_
   refine nl (tn (rt (ibr (tr (tr (ibr (tr ?_)))))))
   refine H.ret2 (fn := Tryz.f48) Tryz.results48 (RV.cellN (vs := (itL x_4)) (b := b_1) (off := 0) (k := 5) (by kernel_rfl) (by kernel_rfl) (by kernel_rfl) rfl (HP.cells 1 rfl 0 5 (by kernel_rfl))) (RV.tmp_ (v := (.bool true)) (by kernel_rfl)) ?_
   have hv : fI l k = some x_4 := by rw [hrel, hd_9]; unfold fI; rw [List.find?_cons, g21]
   exact ⟨by rw [show gI l k = x_4 from by unfold gI; rw [hv]; rfl, show hI l k = true from by unfold hI; rw [hv]; rfl], HP.bl⟩
  have g21p := ne_of_beq_false g21
  refine sk (ibn (tn (rg ?_)))
  refine H.valE 23 (ii (IntKind.i64.wrap ((i : Int) + 1))) (ii ((i : Int) + 1)) (by kernel_rfl) (by kernel_rfl) ((by rw [wrap_ini64 _ (by omega)])) fun a H => H.v 13 (ii ((i : Int) + 1)) fun a H => ?_
  refine nl (tn ?_)
  have H := H.as 13 (ii ((i + 1 : Nat) : Int)) rfl rfl
  refine ⟨_, ?_, i + 1, rfl, H.keep (by kernel_rfl), (HP.tail rfl), (by omega), (by rw [hrel, hd_9]; unfold fI; rw [List.find?_cons, g21])⟩
  omega
 have g14p := of_decide_eq_false g14
 refine wp_exit (then_exit (then_exit ?_))
 refine w_exit_here ?_
 refine tn (sq (rg ?_))
 refine H.al HP 10 38 [(ii 0), (ii 0), (ii 0), (ii 0), (ii 0)] fun b_16 w_17 a H HP => ?_
 refine nl (tn (sq (rg ?_)))
 refine H.u 24 (.agg #[(ii 0), (ii 0), (ii 0), (ii 0), (ii 0)]) (ex_lN [(ii 0), (ii 0), (ii 0), (ii 0), (ii 0)] (HP.cells 0 rfl 0 5 (by kernel_rfl))) fun a H => H.st HP 1 b_1 0 5 38 true (.agg #[(ii 0), (ii 0), (ii 0), (ii 0), (ii 0)]) [bx b_16 38 [(ii 0), (ii 0), (ii 0), (ii 0), (ii 0)] true, bx b_1 38 [(ii 0), (ii 0), (ii 0), (ii 0), (ii 0)] true] rfl fun w_18 a H HP => H.v 7 (.bool false) fun a H => ?_
 refine nl (tn (rt ?_))
 refine H.ret2 (fn := Tryz.f48) Tryz.results48 (RV.cellN (vs := [(ii 0), (ii 0), (ii 0), (ii 0), (ii 0)]) (b := b_1) (off := 0) (k := 5) (by kernel_rfl) (by kernel_rfl) (by kernel_rfl) rfl (HP.cells 1 rfl 0 5 (by kernel_rfl))) (RV.tmp_ (v := (.bool false)) (by kernel_rfl)) ?_
 have hv : fI l k = none := by rw [hrel, List.drop_eq_nil_of_le (by omega)]; rfl
 exact ⟨by rw [show gI l k = itZ from by unfold gI; rw [hv]; rfl, show hI l k = false from by unfold hI; rw [hv]; rfl]; rfl, HP.bl⟩
theorem findB_any (A : Option Addr) (c : Nat) (l : List Bkg) (k : Int) (w : World) (hr : IsBk w A l) (hl : l.length ≤ maxLen) : Calls Tryz.prog 53 #[.slice A l.length c, .int .i64 k, .func (.func 54) #[] #[]] w fun e w' => e = .returned (.tuple #[(bkV (gB l k)), .bool (hB l k)]) ∧ Below w.heap.size w w' := by
 unfold maxLen at hl
 have HP := Hp.start w
 refine w_enter 25 [(0, (.slice A l.length c)), (1, (ii k)), (2, (.func (.func 54) #[] #[]))] Tryz.func53 rfl Tryz.ntmps53 (by kernel_rfl) (by kernel_rfl) fun a H => ?_
 refine sq (rg ?_)
 refine H.al HP 6 47 [(ii 0), (ii 0), (ii 0), (ii 0), (ii 0), (ii 0), (ii 0)] fun b_1 w_2 a H HP => H.v 7 (.bool false) fun a H => ?_
 refine nl (tn (sq (sq (rg ?_))))
 refine H.v 11 (.slice A l.length c) fun a H => H.v 12 (ii l.length) fun a H => H.v 13 (ii 0) fun a H => ?_
 refine nl (tn (bk ?_))
 refine w_loop (fun mm a wv => ∃ (i : Nat), l.length - i = mm ∧ Sl 25 [(13, (ii i)), (12, (ii l.length)), (11, (.slice A l.length c)), (6, (pt b_1 0)), (0, (.slice A l.length c)), (1, (ii k)), (2, (.func (.func 54) #[] #[]))] a ∧ Hp w wv [bx b_1 47 [(ii 0), (ii 0), (ii 0), (ii 0), (ii 0), (ii 0), (ii 0)] true] [] ∧ (i ≤ l.length) ∧ (fB l k = fB (l.drop i) k)) (l.length - 0) ?_ ?_
 ·exact ⟨0, (by omega), H.keep (by kernel_rfl), HP, (Nat.zero_le _), rfl⟩
 rintro mm a w_3 ⟨i, hmeas, H, HP, hib, hrel⟩
 refine sq (rg ?_)
 refine H.v 14 (.bool (decide ((i : Int) < (l.length : Int)))) fun a H => ?_
 refine nl (tn (sq ?_))
 refine w_if H rfl (fun g14 => ?_) (fun g14 => ?_)
 ·have g14p := of_decide_eq_true g14
  refine sk (tn (sq (bk (sq ?_))))
  obtain ⟨bu_5, ou_6, x_4, hA_7, _, hd_9, hx_8, hm_10, _⟩ := IsRow.get bkC_size (hr.below HP.bl) (i := i) (by omega)
  refine rg ?_
  refine H.u 15 (.pointer (some ⟨bu_5, ou_6 + i * 7, none⟩)) (ex_indexA (b := bu_5) (off := ou_6) (len := l.length) (cap := c) (e := 47) (k := 7) (ik := .i64) (i := (i : Int)) (m := i) hA_7 (by kernel_rfl) (by kernel_rfl) (by omega) (by omega) (by kernel_rfl) (by kernel_rfl)) fun a H => H.u 16 (bkV x_4) (ex_lN (bkL x_4) (IsRow.cells bkC_size (hr.below HP.bl) hA_7 hx_8)) fun a H => H.al HP 9 47 [(ii 0), (ii 0), (ii 0), (ii 0), (ii 0), (ii 0), (ii 0)] fun b_11 w_12 a H HP => H.st HP 0 b_11 0 7 47 true (bkV x_4) [bx b_11 47 (bkL x_4) true, bx b_1 47 [(ii 0), (ii 0), (ii 0), (ii 0), (ii 0), (ii 0), (ii 0)] true] rfl fun w_13 a H HP => ?_
  refine nl (tn (sq (rg ?_)))
  refine H.v 17 (.func (.func 54) #[] #[]) fun a H => H.u 18 (bkV x_4) (ex_lN (bkL x_4) (HP.cells 0 rfl 0 7 (by kernel_rfl))) fun a H => H.cb HP 19 (Tryz.call54 _ _) (bookingID_any x_4 w_13) fun w_14 hb a H HP => H.v 20 (ii k) fun a H => H.v 21 (.bool (x_4.id == k)) fun a H => ?_
  refine nl (tn ?_)
  refine w_if H rfl (fun g21 => ?_) (fun g21 => ?_)
  ·have g21p := eq_of_beq g21
   refine sq (rg ?_)
   refine H.u 22 (bkV x_4) (ex_lN (bkL x_4) (HP.cells 0 rfl 0 7 (by kernel_rfl))) fun a H => H.st HP 1 b_1 0 7 47 true (bkV x_4) [bx b_11 47 (bkL x_4) true, bx b_1 47 (bkL x_4) true] rfl fun w_15 a H HP => H.v 7 (.bool true) fun a H => ?_
   refine nl (tn (rt (ibr (tr (tr (ibr (tr ?_)))))))
   refine H.ret2 (fn := Tryz.f53) Tryz.results53 (RV.cellN (vs := (bkL x_4)) (b := b_1) (off := 0) (k := 7) (by kernel_rfl) (by kernel_rfl) (by kernel_rfl) rfl (HP.cells 1 rfl 0 7 (by kernel_rfl))) (RV.tmp_ (v := (.bool true)) (by kernel_rfl)) ?_
   have hv : fB l k = some x_4 := by rw [hrel, hd_9]; unfold fB; rw [List.find?_cons, g21]
   exact ⟨by rw [show gB l k = x_4 from by unfold gB; rw [hv]; rfl, show hB l k = true from by unfold hB; rw [hv]; rfl], HP.bl⟩
  have g21p := ne_of_beq_false g21
  refine sk (ibn (tn (rg ?_)))
  refine H.valE 23 (ii (IntKind.i64.wrap ((i : Int) + 1))) (ii ((i : Int) + 1)) (by kernel_rfl) (by kernel_rfl) ((by rw [wrap_ini64 _ (by omega)])) fun a H => H.v 13 (ii ((i : Int) + 1)) fun a H => ?_
  refine nl (tn ?_)
  have H := H.as 13 (ii ((i + 1 : Nat) : Int)) rfl rfl
  refine ⟨_, ?_, i + 1, rfl, H.keep (by kernel_rfl), (HP.tail rfl), (by omega), (by rw [hrel, hd_9]; unfold fB; rw [List.find?_cons, g21])⟩
  omega
 have g14p := of_decide_eq_false g14
 refine wp_exit (then_exit (then_exit ?_))
 refine w_exit_here ?_
 refine tn (sq (rg ?_))
 refine H.al HP 10 47 [(ii 0), (ii 0), (ii 0), (ii 0), (ii 0), (ii 0), (ii 0)] fun b_16 w_17 a H HP => ?_
 refine nl (tn (sq (rg ?_)))
 refine H.u 24 (.agg #[(ii 0), (ii 0), (ii 0), (ii 0), (ii 0), (ii 0), (ii 0)]) (ex_lN [(ii 0), (ii 0), (ii 0), (ii 0), (ii 0), (ii 0), (ii 0)] (HP.cells 0 rfl 0 7 (by kernel_rfl))) fun a H => H.st HP 1 b_1 0 7 47 true (.agg #[(ii 0), (ii 0), (ii 0), (ii 0), (ii 0), (ii 0), (ii 0)]) [bx b_16 47 [(ii 0), (ii 0), (ii 0), (ii 0), (ii 0), (ii 0), (ii 0)] true, bx b_1 47 [(ii 0), (ii 0), (ii 0), (ii 0), (ii 0), (ii 0), (ii 0)] true] rfl fun w_18 a H HP => H.v 7 (.bool false) fun a H => ?_
 refine nl (tn (rt ?_))
 refine H.ret2 (fn := Tryz.f53) Tryz.results53 (RV.cellN (vs := [(ii 0), (ii 0), (ii 0), (ii 0), (ii 0), (ii 0), (ii 0)]) (b := b_1) (off := 0) (k := 7) (by kernel_rfl) (by kernel_rfl) (by kernel_rfl) rfl (HP.cells 1 rfl 0 7 (by kernel_rfl))) (RV.tmp_ (v := (.bool false)) (by kernel_rfl)) ?_
 have hv : fB l k = none := by rw [hrel, List.drop_eq_nil_of_le (by omega)]; rfl
 exact ⟨by rw [show gB l k = bkZ from by unfold gB; rw [hv]; rfl, show hB l k = false from by unfold hB; rw [hv]; rfl]; rfl, HP.bl⟩
theorem findE_any (A : Option Addr) (c : Nat) (l : List Ent) (k : Int) (w : World) (hr : IsRow 7 enC w A l) (hl : l.length ≤ maxLen) : Calls Tryz.prog 50 #[.slice A l.length c, .int .i64 k, .func (.func 51) #[] #[]] w fun e w' => e = .returned (.tuple #[(.agg #[(ii ((gE l k).id)), (ii ((gE l k).item)), (ii ((gE l k).frames)), (ii ((gE l k).earliest)), (ii ((gE l k).latest)), (ii ((gE l k).booking)), (.slice ((gE l k).A) ((gE l k).al.length) ((gE l k).c))]), .bool (hE l k)]) ∧ Below w.heap.size w w' := by
 unfold maxLen at hl
 have HP := Hp.start w
 refine w_enter 25 [(0, (.slice A l.length c)), (1, (ii k)), (2, (.func (.func 51) #[] #[]))] Tryz.func50 rfl Tryz.ntmps50 (by kernel_rfl) (by kernel_rfl) fun a H => ?_
 refine sq (rg ?_)
 refine H.al HP 6 43 [(ii 0), (ii 0), (ii 0), (ii 0), (ii 0), (ii 0), (.slice none 0 0)] fun b_1 w_2 a H HP => H.v 7 (.bool false) fun a H => ?_
 refine nl (tn (sq (sq (rg ?_))))
 refine H.v 11 (.slice A l.length c) fun a H => H.v 12 (ii l.length) fun a H => H.v 13 (ii 0) fun a H => ?_
 refine nl (tn (bk ?_))
 refine w_loop (fun mm a wv => ∃ (i : Nat), l.length - i = mm ∧ Sl 25 [(13, (ii i)), (12, (ii l.length)), (11, (.slice A l.length c)), (6, (pt b_1 0)), (0, (.slice A l.length c)), (1, (ii k)), (2, (.func (.func 51) #[] #[]))] a ∧ Hp w wv [bx b_1 43 [(ii 0), (ii 0), (ii 0), (ii 0), (ii 0), (ii 0), (.slice none 0 0)] true] [] ∧ (i ≤ l.length) ∧ (fE l k = fE (l.drop i) k)) (l.length - 0) ?_ ?_
 ·exact ⟨0, (by omega), H.keep (by kernel_rfl), HP, (Nat.zero_le _), rfl⟩
 rintro mm a w_3 ⟨i, hmeas, H, HP, hib, hrel⟩
 refine sq (rg ?_)
 refine H.v 14 (.bool (decide ((i : Int) < (l.length : Int)))) fun a H => ?_
 refine nl (tn (sq ?_))
 refine w_if H rfl (fun g14 => ?_) (fun g14 => ?_)
 ·have g14p := of_decide_eq_true g14
  refine sk (tn (sq (bk (sq ?_))))
  obtain ⟨bu_5, ou_6, x_4, hA_7, _, hd_9, hx_8, hm_10, _⟩ := IsRow.get enC_size (hr.below HP.bl) (i := i) (by omega)
  refine rg ?_
  refine H.u 15 (.pointer (some ⟨bu_5, ou_6 + i * 7, none⟩)) (ex_indexA (b := bu_5) (off := ou_6) (len := l.length) (cap := c) (e := 43) (k := 7) (ik := .i64) (i := (i : Int)) (m := i) hA_7 (by kernel_rfl) (by kernel_rfl) (by omega) (by omega) (by kernel_rfl) (by kernel_rfl)) fun a H => H.u 16 (enV x_4) (ex_lN (enL x_4) (IsRow.cells enC_size (hr.below HP.bl) hA_7 hx_8)) fun a H => H.al HP 9 43 [(ii 0), (ii 0), (ii 0), (ii 0), (ii 0), (ii 0), (.slice none 0 0)] fun b_11 w_12 a H HP => H.st HP 0 b_11 0 7 43 true (enV x_4) [bx b_11 43 (enL x_4) true, bx b_1 43 [(ii 0), (ii 0), (ii 0), (ii 0), (ii 0), (ii 0), (.slice none 0 0)] true] rfl fun w_13 a H HP => ?_
  refine nl (tn (sq (rg ?_)))
  refine H.v 17 (.func (.func 51) #[] #[]) fun a H => H.u 18 (enV x_4) (ex_lN (enL x_4) (HP.cells 0 rfl 0 7 (by kernel_rfl))) fun a H => H.cb HP 19 (Tryz.call51 _ _) (entryID_any x_4 w_13) fun w_14 hb a H HP => H.v 20 (ii k) fun a H => H.v 21 (.bool (x_4.id == k)) fun a H => ?_
  refine nl (tn ?_)
  refine w_if H rfl (fun g21 => ?_) (fun g21 => ?_)
  ·have g21p := eq_of_beq g21
   refine sq (rg ?_)
   refine H.u 22 (enV x_4) (ex_lN (enL x_4) (HP.cells 0 rfl 0 7 (by kernel_rfl))) fun a H => H.st HP 1 b_1 0 7 43 true (enV x_4) [bx b_11 43 (enL x_4) true, bx b_1 43 (enL x_4) true] rfl fun w_15 a H HP => H.v 7 (.bool true) fun a H => ?_
   refine nl (tn (rt (ibr (tr (tr (ibr (tr ?_)))))))
   refine H.ret2 (fn := Tryz.f50) Tryz.results50 (RV.cellN (vs := (enL x_4)) (b := b_1) (off := 0) (k := 7) (by kernel_rfl) (by kernel_rfl) (by kernel_rfl) rfl (HP.cells 1 rfl 0 7 (by kernel_rfl))) (RV.tmp_ (v := (.bool true)) (by kernel_rfl)) ?_
   have hv : fE l k = some x_4 := by rw [hrel, hd_9]; unfold fE; rw [List.find?_cons, g21]
   exact ⟨by rw [show gE l k = x_4 from by unfold gE; rw [hv]; rfl, show hE l k = true from by unfold hE; rw [hv]; rfl], HP.bl⟩
  have g21p := ne_of_beq_false g21
  refine sk (ibn (tn (rg ?_)))
  refine H.valE 23 (ii (IntKind.i64.wrap ((i : Int) + 1))) (ii ((i : Int) + 1)) (by kernel_rfl) (by kernel_rfl) ((by rw [wrap_ini64 _ (by omega)])) fun a H => H.v 13 (ii ((i : Int) + 1)) fun a H => ?_
  refine nl (tn ?_)
  have H := H.as 13 (ii ((i + 1 : Nat) : Int)) rfl rfl
  refine ⟨_, ?_, i + 1, rfl, H.keep (by kernel_rfl), (HP.tail rfl), (by omega), (by rw [hrel, hd_9]; unfold fE; rw [List.find?_cons, g21])⟩
  omega
 have g14p := of_decide_eq_false g14
 refine wp_exit (then_exit (then_exit ?_))
 refine w_exit_here ?_
 refine tn (sq (rg ?_))
 refine H.al HP 10 43 [(ii 0), (ii 0), (ii 0), (ii 0), (ii 0), (ii 0), (.slice none 0 0)] fun b_16 w_17 a H HP => ?_
 refine nl (tn (sq (rg ?_)))
 refine H.u 24 (.agg #[(ii 0), (ii 0), (ii 0), (ii 0), (ii 0), (ii 0), (.slice none 0 0)]) (ex_lN [(ii 0), (ii 0), (ii 0), (ii 0), (ii 0), (ii 0), (.slice none 0 0)] (HP.cells 0 rfl 0 7 (by kernel_rfl))) fun a H => H.st HP 1 b_1 0 7 43 true (.agg #[(ii 0), (ii 0), (ii 0), (ii 0), (ii 0), (ii 0), (.slice none 0 0)]) [bx b_16 43 [(ii 0), (ii 0), (ii 0), (ii 0), (ii 0), (ii 0), (.slice none 0 0)] true, bx b_1 43 [(ii 0), (ii 0), (ii 0), (ii 0), (ii 0), (ii 0), (.slice none 0 0)] true] rfl fun w_18 a H HP => H.v 7 (.bool false) fun a H => ?_
 refine nl (tn (rt ?_))
 refine H.ret2 (fn := Tryz.f50) Tryz.results50 (RV.cellN (vs := [(ii 0), (ii 0), (ii 0), (ii 0), (ii 0), (ii 0), (.slice none 0 0)]) (b := b_1) (off := 0) (k := 7) (by kernel_rfl) (by kernel_rfl) (by kernel_rfl) rfl (HP.cells 1 rfl 0 7 (by kernel_rfl))) (RV.tmp_ (v := (.bool false)) (by kernel_rfl)) ?_
 have hv : fE l k = none := by rw [hrel, List.drop_eq_nil_of_le (by omega)]; rfl
 exact ⟨by rw [show gE l k = enZ from by unfold gE; rw [hv]; rfl, show hE l k = false from by unfold hE; rw [hv]; rfl]; rfl, HP.bl⟩
theorem item_any (p : Pln) (k : Int) (w : World) (hpl : IsPln w p) : Calls Tryz.prog 18 #[(plV p), .int .i64 k] w fun e w' => e = .returned (.tuple #[(itV (gI p.its k)), .bool (hI p.its k)]) ∧ Below w.heap.size w w' := by
 have HP := Hp.start w
 refine w_enter 12 [(0, (plV p)), (1, (ii k))] Tryz.func18 rfl Tryz.ntmps18 (by kernel_rfl) (by kernel_rfl) fun a H => ?_
 refine sq (rg ?_)
 refine H.al HP 2 32 (plL p) fun b_1 w_2 a H HP => H.al HP 4 38 [(ii 0), (ii 0), (ii 0), (ii 0), (ii 0)] fun b_3 w_4 a H HP => H.v 5 (.bool false) fun a H => ?_
 refine nl (tn (sq (rg ?_)))
 refine H.v 6 (pt b_1 9) fun a H => H.u 7 (.slice p.IA p.its.length p.ic) (ex_l1 (HP.cell 1 rfl 9 rfl)) fun a H => H.v 8 (ii k) fun a H => H.cb HP 9 (Tryz.call48 _ _) (findI_any p.IA p.ic p.its k w_4 (hpl.its.below HP.bl) hpl.lits) fun w_5 hb a H HP => H.v 10 (itV (gI p.its k)) fun a H => H.v 11 (.bool (hI p.its k)) fun a H => H.st HP 0 b_3 0 5 38 true (itV (gI p.its k)) [bx b_3 38 (itL (gI p.its k)) true, bx b_1 32 (plL p) true] rfl fun w_6 a H HP => H.v 5 (.bool (hI p.its k)) fun a H => ?_
 refine nl (tn (rt ?_))
 refine H.ret2 (fn := Tryz.f18) Tryz.results18 (RV.cellN (vs := (itL (gI p.its k))) (b := b_3) (off := 0) (k := 5) (by kernel_rfl) (by kernel_rfl) (by kernel_rfl) rfl (HP.cells 0 rfl 0 5 (by kernel_rfl))) (RV.tmp_ (v := (.bool (hI p.its k))) (by kernel_rfl)) ?_
 exact ⟨rfl, HP.bl⟩
theorem booking_any (p : Pln) (k : Int) (w : World) (hpl : IsPln w p) : Calls Tryz.prog 22 #[(plV p), .int .i64 k] w fun e w' => e = .returned (.tuple #[(bkV (gB p.bs k)), .bool (hB p.bs k)]) ∧ Below w.heap.size w w' := by
 have HP := Hp.start w
 refine w_enter 12 [(0, (plV p)), (1, (ii k))] Tryz.func22 rfl Tryz.ntmps22 (by kernel_rfl) (by kernel_rfl) fun a H => ?_
 refine sq (rg ?_)
 refine H.al HP 2 32 (plL p) fun b_1 w_2 a H HP => H.al HP 4 47 [(ii 0), (ii 0), (ii 0), (ii 0), (ii 0), (ii 0), (ii 0)] fun b_3 w_4 a H HP => H.v 5 (.bool false) fun a H => ?_
 refine nl (tn (sq (rg ?_)))
 refine H.v 6 (pt b_1 11) fun a H => H.u 7 (.slice p.BA p.bs.length p.bc) (ex_l1 (HP.cell 1 rfl 11 rfl)) fun a H => H.v 8 (ii k) fun a H => H.cb HP 9 (Tryz.call53 _ _) (findB_any p.BA p.bc p.bs k w_4 (hpl.bs.below HP.bl) hpl.lbs) fun w_5 hb a H HP => H.v 10 (bkV (gB p.bs k)) fun a H => H.v 11 (.bool (hB p.bs k)) fun a H => H.st HP 0 b_3 0 7 47 true (bkV (gB p.bs k)) [bx b_3 47 (bkL (gB p.bs k)) true, bx b_1 32 (plL p) true] rfl fun w_6 a H HP => H.v 5 (.bool (hB p.bs k)) fun a H => ?_
 refine nl (tn (rt ?_))
 refine H.ret2 (fn := Tryz.f22) Tryz.results22 (RV.cellN (vs := (bkL (gB p.bs k))) (b := b_3) (off := 0) (k := 7) (by kernel_rfl) (by kernel_rfl) (by kernel_rfl) rfl (HP.cells 0 rfl 0 7 (by kernel_rfl))) (RV.tmp_ (v := (.bool (hB p.bs k))) (by kernel_rfl)) ?_
 exact ⟨rfl, HP.bl⟩
theorem ritem_any (p : Pln) (k : Int) (w : World) (hpl : IsPln w p) : Calls Tryz.prog 19 #[(plV p), .int .i64 k] w fun e w' => e = .returned (.tuple #[(itV (gI p.its k)), .bool (hI p.its k)]) ∧ Below w.heap.size w w' := by
 have hl := hpl.lits
 unfold maxLen at hl
 have HP := Hp.start w
 refine w_enter 28 [(0, (plV p)), (1, (ii k))] Tryz.func19 rfl Tryz.ntmps19 (by kernel_rfl) (by kernel_rfl) fun a H => ?_
 refine sq (rg ?_)
 refine H.al HP 2 32 (plL p) fun b_1 w_2 a H HP => H.al HP 4 38 [(ii 0), (ii 0), (ii 0), (ii 0), (ii 0)] fun b_3 w_4 a H HP => H.v 5 (.bool false) fun a H => ?_
 refine nl (tn (sq (sq (rg ?_))))
 refine H.v 6 (ii 0) fun a H => ?_
 refine nl (tn (bk ?_))
 refine w_loop (fun mm a wv => ∃ (i : Nat), p.its.length - i = mm ∧ Sl 28 [(6, (ii i)), (4, (pt b_3 0)), (2, (pt b_1 0)), (0, (plV p)), (1, (ii k))] a ∧ Hp w wv [bx b_3 38 [(ii 0), (ii 0), (ii 0), (ii 0), (ii 0)] true, bx b_1 32 (plL p) true] [] ∧ (i ≤ p.its.length) ∧ (fI p.its k = fI (p.its.drop i) k)) (p.its.length - 0) ?_ ?_
 ·exact ⟨0, (by omega), H.keep (by kernel_rfl), HP, (Nat.zero_le _), rfl⟩
 rintro mm a w_5 ⟨i, hmeas, H, HP, hib, hrel⟩
 refine sq (sq (rg ?_))
 refine H.v 7 (ii i) fun a H => H.v 8 (pt b_1 9) fun a H => H.u 9 (.slice p.IA p.its.length p.ic) (ex_l1 (HP.cell 1 rfl 9 rfl)) fun a H => H.v 10 (ii p.its.length) fun a H => H.v 11 (.bool (decide ((i : Int) < (p.its.length : Int)))) fun a H => ?_
 refine nl (tn ?_)
 refine w_if H rfl (fun g11 => ?_) (fun g11 => ?_)
 ·have g11p := of_decide_eq_true g11
  refine sk (tn (sq (bk (sq ?_))))
  obtain ⟨bu_7, ou_8, x_6, hA_9, _, hd_11, hx_10, hm_12, _⟩ := IsRow.get itC_size (hpl.its.below HP.bl) (i := i) (by omega)
  refine rg ?_
  refine H.v 14 (pt b_1 9) fun a H => H.u 15 (.slice p.IA p.its.length p.ic) (ex_l1 (HP.cell 1 rfl 9 rfl)) fun a H => H.v 16 (ii i) fun a H => H.u 17 (.pointer (some ⟨bu_7, ou_8 + i * 5, none⟩)) (ex_indexA (b := bu_7) (off := ou_8) (len := p.its.length) (cap := p.ic) (e := 38) (k := 5) (ik := .i64) (i := (i : Int)) (m := i) hA_9 (by kernel_rfl) (by kernel_rfl) (by omega) (by omega) (by kernel_rfl) (by kernel_rfl)) fun a H => H.v 18 (.pointer (some ⟨bu_7, ou_8 + i * 5, none⟩)) fun a H => H.u 19 (ii x_6.id) (ex_l1 (IsRow.cells itC_size (hpl.its.below HP.bl) hA_9 hx_10 0 _ rfl)) fun a H => H.v 20 (ii k) fun a H => H.v 21 (.bool (x_6.id == k)) fun a H => ?_
  refine nl (tn ?_)
  refine w_if H rfl (fun g21 => ?_) (fun g21 => ?_)
  ·have g21p := eq_of_beq g21
   refine sq (rg ?_)
   refine H.v 22 (pt b_1 9) fun a H => H.u 23 (.slice p.IA p.its.length p.ic) (ex_l1 (HP.cell 1 rfl 9 rfl)) fun a H => H.v 24 (ii i) fun a H => H.u 25 (.pointer (some ⟨bu_7, ou_8 + i * 5, none⟩)) (ex_indexA (b := bu_7) (off := ou_8) (len := p.its.length) (cap := p.ic) (e := 38) (k := 5) (ik := .i64) (i := (i : Int)) (m := i) hA_9 (by kernel_rfl) (by kernel_rfl) (by omega) (by omega) (by kernel_rfl) (by kernel_rfl)) fun a H => H.u 26 (itV x_6) (ex_lN (itL x_6) (IsRow.cells itC_size (hpl.its.below HP.bl) hA_9 hx_10)) fun a H => H.st HP 0 b_3 0 5 38 true (itV x_6) [bx b_3 38 (itL x_6) true, bx b_1 32 (plL p) true] rfl fun w_13 a H HP => H.v 5 (.bool true) fun a H => ?_
   refine nl (tn (rt (ibr (tr (tr (ibr (tr ?_)))))))
   refine H.ret2 (fn := Tryz.f19) Tryz.results19 (RV.cellN (vs := (itL x_6)) (b := b_3) (off := 0) (k := 5) (by kernel_rfl) (by kernel_rfl) (by kernel_rfl) rfl (HP.cells 0 rfl 0 5 (by kernel_rfl))) (RV.tmp_ (v := (.bool true)) (by kernel_rfl)) ?_
   have hv : fI p.its k = some x_6 := by rw [hrel, hd_11]; unfold fI; rw [List.find?_cons, g21]
   exact ⟨by rw [show gI p.its k = x_6 from by unfold gI; rw [hv]; rfl, show hI p.its k = true from by unfold hI; rw [hv]; rfl], HP.bl⟩
  have g21p := ne_of_beq_false g21
  refine sk (ibn (tn (rg ?_)))
  refine H.v 12 (ii i) fun a H => H.valE 13 (ii (IntKind.i64.wrap ((i : Int) + 1))) (ii ((i : Int) + 1)) (by kernel_rfl) (by kernel_rfl) ((by rw [wrap_ini64 _ (by omega)])) fun a H => H.v 6 (ii ((i : Int) + 1)) fun a H => ?_
  refine nl (tn ?_)
  have H := H.as 6 (ii ((i + 1 : Nat) : Int)) rfl rfl
  refine ⟨_, ?_, i + 1, rfl, H.keep (by kernel_rfl), HP, (by omega), (by rw [hrel, hd_11]; unfold fI; rw [List.find?_cons, g21])⟩
  omega
 have g11p := of_decide_eq_false g11
 refine wp_exit (then_exit (then_exit ?_))
 refine w_exit_here ?_
 refine tn (sq (rg ?_))
 refine H.v 27 (.agg #[(ii 0), (ii 0), (ii 0), (ii 0), (ii 0)]) fun a H => H.st HP 0 b_3 0 5 38 true (.agg #[(ii 0), (ii 0), (ii 0), (ii 0), (ii 0)]) [bx b_3 38 [(ii 0), (ii 0), (ii 0), (ii 0), (ii 0)] true, bx b_1 32 (plL p) true] rfl fun w_14 a H HP => H.v 5 (.bool false) fun a H => ?_
 refine nl (tn (rt ?_))
 refine H.ret2 (fn := Tryz.f19) Tryz.results19 (RV.cellN (vs := [(ii 0), (ii 0), (ii 0), (ii 0), (ii 0)]) (b := b_3) (off := 0) (k := 5) (by kernel_rfl) (by kernel_rfl) (by kernel_rfl) rfl (HP.cells 0 rfl 0 5 (by kernel_rfl))) (RV.tmp_ (v := (.bool false)) (by kernel_rfl)) ?_
 have hv : fI p.its k = none := by rw [hrel, List.drop_eq_nil_of_le (by omega)]; rfl
 exact ⟨by rw [show gI p.its k = itZ from by unfold gI; rw [hv]; rfl, show hI p.its k = false from by unfold hI; rw [hv]; rfl]; rfl, HP.bl⟩
theorem rbooking_any (p : Pln) (k : Int) (w : World) (hpl : IsPln w p) : Calls Tryz.prog 23 #[(plV p), .int .i64 k] w fun e w' => e = .returned (.tuple #[(bkV (gB p.bs k)), .bool (hB p.bs k)]) ∧ Below w.heap.size w w' := by
 have hl := hpl.lbs
 unfold maxLen at hl
 have HP := Hp.start w
 refine w_enter 28 [(0, (plV p)), (1, (ii k))] Tryz.func23 rfl Tryz.ntmps23 (by kernel_rfl) (by kernel_rfl) fun a H => ?_
 refine sq (rg ?_)
 refine H.al HP 2 32 (plL p) fun b_1 w_2 a H HP => H.al HP 4 47 [(ii 0), (ii 0), (ii 0), (ii 0), (ii 0), (ii 0), (ii 0)] fun b_3 w_4 a H HP => H.v 5 (.bool false) fun a H => ?_
 refine nl (tn (sq (sq (rg ?_))))
 refine H.v 6 (ii 0) fun a H => ?_
 refine nl (tn (bk ?_))
 refine w_loop (fun mm a wv => ∃ (i : Nat), p.bs.length - i = mm ∧ Sl 28 [(6, (ii i)), (4, (pt b_3 0)), (2, (pt b_1 0)), (0, (plV p)), (1, (ii k))] a ∧ Hp w wv [bx b_3 47 [(ii 0), (ii 0), (ii 0), (ii 0), (ii 0), (ii 0), (ii 0)] true, bx b_1 32 (plL p) true] [] ∧ (i ≤ p.bs.length) ∧ (fB p.bs k = fB (p.bs.drop i) k)) (p.bs.length - 0) ?_ ?_
 ·exact ⟨0, (by omega), H.keep (by kernel_rfl), HP, (Nat.zero_le _), rfl⟩
 rintro mm a w_5 ⟨i, hmeas, H, HP, hib, hrel⟩
 refine sq (sq (rg ?_))
 refine H.v 7 (ii i) fun a H => H.v 8 (pt b_1 11) fun a H => H.u 9 (.slice p.BA p.bs.length p.bc) (ex_l1 (HP.cell 1 rfl 11 rfl)) fun a H => H.v 10 (ii p.bs.length) fun a H => H.v 11 (.bool (decide ((i : Int) < (p.bs.length : Int)))) fun a H => ?_
 refine nl (tn ?_)
 refine w_if H rfl (fun g11 => ?_) (fun g11 => ?_)
 ·have g11p := of_decide_eq_true g11
  refine sk (tn (sq (bk (sq ?_))))
  obtain ⟨bu_7, ou_8, x_6, hA_9, _, hd_11, hx_10, hm_12, _⟩ := IsRow.get bkC_size (hpl.bs.below HP.bl) (i := i) (by omega)
  refine rg ?_
  refine H.v 14 (pt b_1 11) fun a H => H.u 15 (.slice p.BA p.bs.length p.bc) (ex_l1 (HP.cell 1 rfl 11 rfl)) fun a H => H.v 16 (ii i) fun a H => H.u 17 (.pointer (some ⟨bu_7, ou_8 + i * 7, none⟩)) (ex_indexA (b := bu_7) (off := ou_8) (len := p.bs.length) (cap := p.bc) (e := 47) (k := 7) (ik := .i64) (i := (i : Int)) (m := i) hA_9 (by kernel_rfl) (by kernel_rfl) (by omega) (by omega) (by kernel_rfl) (by kernel_rfl)) fun a H => H.v 18 (.pointer (some ⟨bu_7, ou_8 + i * 7, none⟩)) fun a H => H.u 19 (ii x_6.id) (ex_l1 (IsRow.cells bkC_size (hpl.bs.below HP.bl) hA_9 hx_10 0 _ rfl)) fun a H => H.v 20 (ii k) fun a H => H.v 21 (.bool (x_6.id == k)) fun a H => ?_
  refine nl (tn ?_)
  refine w_if H rfl (fun g21 => ?_) (fun g21 => ?_)
  ·have g21p := eq_of_beq g21
   refine sq (rg ?_)
   refine H.v 22 (pt b_1 11) fun a H => H.u 23 (.slice p.BA p.bs.length p.bc) (ex_l1 (HP.cell 1 rfl 11 rfl)) fun a H => H.v 24 (ii i) fun a H => H.u 25 (.pointer (some ⟨bu_7, ou_8 + i * 7, none⟩)) (ex_indexA (b := bu_7) (off := ou_8) (len := p.bs.length) (cap := p.bc) (e := 47) (k := 7) (ik := .i64) (i := (i : Int)) (m := i) hA_9 (by kernel_rfl) (by kernel_rfl) (by omega) (by omega) (by kernel_rfl) (by kernel_rfl)) fun a H => H.u 26 (bkV x_6) (ex_lN (bkL x_6) (IsRow.cells bkC_size (hpl.bs.below HP.bl) hA_9 hx_10)) fun a H => H.st HP 0 b_3 0 7 47 true (bkV x_6) [bx b_3 47 (bkL x_6) true, bx b_1 32 (plL p) true] rfl fun w_13 a H HP => H.v 5 (.bool true) fun a H => ?_
   refine nl (tn (rt (ibr (tr (tr (ibr (tr ?_)))))))
   refine H.ret2 (fn := Tryz.f23) Tryz.results23 (RV.cellN (vs := (bkL x_6)) (b := b_3) (off := 0) (k := 7) (by kernel_rfl) (by kernel_rfl) (by kernel_rfl) rfl (HP.cells 0 rfl 0 7 (by kernel_rfl))) (RV.tmp_ (v := (.bool true)) (by kernel_rfl)) ?_
   have hv : fB p.bs k = some x_6 := by rw [hrel, hd_11]; unfold fB; rw [List.find?_cons, g21]
   exact ⟨by rw [show gB p.bs k = x_6 from by unfold gB; rw [hv]; rfl, show hB p.bs k = true from by unfold hB; rw [hv]; rfl], HP.bl⟩
  have g21p := ne_of_beq_false g21
  refine sk (ibn (tn (rg ?_)))
  refine H.v 12 (ii i) fun a H => H.valE 13 (ii (IntKind.i64.wrap ((i : Int) + 1))) (ii ((i : Int) + 1)) (by kernel_rfl) (by kernel_rfl) ((by rw [wrap_ini64 _ (by omega)])) fun a H => H.v 6 (ii ((i : Int) + 1)) fun a H => ?_
  refine nl (tn ?_)
  have H := H.as 6 (ii ((i + 1 : Nat) : Int)) rfl rfl
  refine ⟨_, ?_, i + 1, rfl, H.keep (by kernel_rfl), HP, (by omega), (by rw [hrel, hd_11]; unfold fB; rw [List.find?_cons, g21])⟩
  omega
 have g11p := of_decide_eq_false g11
 refine wp_exit (then_exit (then_exit ?_))
 refine w_exit_here ?_
 refine tn (sq (rg ?_))
 refine H.v 27 (.agg #[(ii 0), (ii 0), (ii 0), (ii 0), (ii 0), (ii 0), (ii 0)]) fun a H => H.st HP 0 b_3 0 7 47 true (.agg #[(ii 0), (ii 0), (ii 0), (ii 0), (ii 0), (ii 0), (ii 0)]) [bx b_3 47 [(ii 0), (ii 0), (ii 0), (ii 0), (ii 0), (ii 0), (ii 0)] true, bx b_1 32 (plL p) true] rfl fun w_14 a H HP => H.v 5 (.bool false) fun a H => ?_
 refine nl (tn (rt ?_))
 refine H.ret2 (fn := Tryz.f23) Tryz.results23 (RV.cellN (vs := [(ii 0), (ii 0), (ii 0), (ii 0), (ii 0), (ii 0), (ii 0)]) (b := b_3) (off := 0) (k := 7) (by kernel_rfl) (by kernel_rfl) (by kernel_rfl) rfl (HP.cells 0 rfl 0 7 (by kernel_rfl))) (RV.tmp_ (v := (.bool false)) (by kernel_rfl)) ?_
 have hv : fB p.bs k = none := by rw [hrel, List.drop_eq_nil_of_le (by omega)]; rfl
 exact ⟨by rw [show gB p.bs k = bkZ from by unfold gB; rw [hv]; rfl, show hB p.bs k = false from by unfold hB; rw [hv]; rfl]; rfl, HP.bl⟩
theorem rentry_any (p : Pln) (k : Int) (w : World) (hpl : IsPln w p) : Calls Tryz.prog 21 #[(plV p), .int .i64 k] w fun e w' => e = .returned (.tuple #[(.agg #[(ii ((gE p.es k).id)), (ii ((gE p.es k).item)), (ii ((gE p.es k).frames)), (ii ((gE p.es k).earliest)), (ii ((gE p.es k).latest)), (ii ((gE p.es k).booking)), (.slice ((gE p.es k).A) ((gE p.es k).al.length) ((gE p.es k).c))]), .bool (hE p.es k)]) ∧ Below w.heap.size w w' := by
 have hl := hpl.les
 unfold maxLen at hl
 have HP := Hp.start w
 refine w_enter 28 [(0, (plV p)), (1, (ii k))] Tryz.func21 rfl Tryz.ntmps21 (by kernel_rfl) (by kernel_rfl) fun a H => ?_
 refine sq (rg ?_)
 refine H.al HP 2 32 (plL p) fun b_1 w_2 a H HP => H.al HP 4 43 [(ii 0), (ii 0), (ii 0), (ii 0), (ii 0), (ii 0), (.slice none 0 0)] fun b_3 w_4 a H HP => H.v 5 (.bool false) fun a H => ?_
 refine nl (tn (sq (sq (rg ?_))))
 refine H.v 6 (ii 0) fun a H => ?_
 refine nl (tn (bk ?_))
 refine w_loop (fun mm a wv => ∃ (i : Nat), p.es.length - i = mm ∧ Sl 28 [(6, (ii i)), (4, (pt b_3 0)), (2, (pt b_1 0)), (0, (plV p)), (1, (ii k))] a ∧ Hp w wv [bx b_3 43 [(ii 0), (ii 0), (ii 0), (ii 0), (ii 0), (ii 0), (.slice none 0 0)] true, bx b_1 32 (plL p) true] [] ∧ (i ≤ p.es.length) ∧ (fE p.es k = fE (p.es.drop i) k)) (p.es.length - 0) ?_ ?_
 ·exact ⟨0, (by omega), H.keep (by kernel_rfl), HP, (Nat.zero_le _), rfl⟩
 rintro mm a w_5 ⟨i, hmeas, H, HP, hib, hrel⟩
 refine sq (sq (rg ?_))
 refine H.v 7 (ii i) fun a H => H.v 8 (pt b_1 10) fun a H => H.u 9 (.slice p.EA p.es.length p.ec) (ex_l1 (HP.cell 1 rfl 10 rfl)) fun a H => H.v 10 (ii p.es.length) fun a H => H.v 11 (.bool (decide ((i : Int) < (p.es.length : Int)))) fun a H => ?_
 refine nl (tn ?_)
 refine w_if H rfl (fun g11 => ?_) (fun g11 => ?_)
 ·have g11p := of_decide_eq_true g11
  refine sk (tn (sq (bk (sq ?_))))
  obtain ⟨bu_7, ou_8, x_6, hA_9, _, hd_11, hx_10, hm_12, _⟩ := IsRow.get enC_size (hpl.es.below HP.bl).row (i := i) (by omega)
  refine rg ?_
  refine H.v 14 (pt b_1 10) fun a H => H.u 15 (.slice p.EA p.es.length p.ec) (ex_l1 (HP.cell 1 rfl 10 rfl)) fun a H => H.v 16 (ii i) fun a H => H.u 17 (.pointer (some ⟨bu_7, ou_8 + i * 7, none⟩)) (ex_indexA (b := bu_7) (off := ou_8) (len := p.es.length) (cap := p.ec) (e := 43) (k := 7) (ik := .i64) (i := (i : Int)) (m := i) hA_9 (by kernel_rfl) (by kernel_rfl) (by omega) (by omega) (by kernel_rfl) (by kernel_rfl)) fun a H => H.v 18 (.pointer (some ⟨bu_7, ou_8 + i * 7, none⟩)) fun a H => H.u 19 (ii x_6.id) (ex_l1 (IsRow.cells enC_size (hpl.es.below HP.bl).row hA_9 hx_10 0 _ rfl)) fun a H => H.v 20 (ii k) fun a H => H.v 21 (.bool (x_6.id == k)) fun a H => ?_
  refine nl (tn ?_)
  refine w_if H rfl (fun g21 => ?_) (fun g21 => ?_)
  ·have g21p := eq_of_beq g21
   refine sq (rg ?_)
   refine H.v 22 (pt b_1 10) fun a H => H.u 23 (.slice p.EA p.es.length p.ec) (ex_l1 (HP.cell 1 rfl 10 rfl)) fun a H => H.v 24 (ii i) fun a H => H.u 25 (.pointer (some ⟨bu_7, ou_8 + i * 7, none⟩)) (ex_indexA (b := bu_7) (off := ou_8) (len := p.es.length) (cap := p.ec) (e := 43) (k := 7) (ik := .i64) (i := (i : Int)) (m := i) hA_9 (by kernel_rfl) (by kernel_rfl) (by omega) (by omega) (by kernel_rfl) (by kernel_rfl)) fun a H => H.u 26 (enV x_6) (ex_lN (enL x_6) (IsRow.cells enC_size (hpl.es.below HP.bl).row hA_9 hx_10)) fun a H => H.st HP 0 b_3 0 7 43 true (enV x_6) [bx b_3 43 (enL x_6) true, bx b_1 32 (plL p) true] rfl fun w_13 a H HP => H.v 5 (.bool true) fun a H => ?_
   refine nl (tn (rt (ibr (tr (tr (ibr (tr ?_)))))))
   refine H.ret2 (fn := Tryz.f21) Tryz.results21 (RV.cellN (vs := (enL x_6)) (b := b_3) (off := 0) (k := 7) (by kernel_rfl) (by kernel_rfl) (by kernel_rfl) rfl (HP.cells 0 rfl 0 7 (by kernel_rfl))) (RV.tmp_ (v := (.bool true)) (by kernel_rfl)) ?_
   have hv : fE p.es k = some x_6 := by rw [hrel, hd_11]; unfold fE; rw [List.find?_cons, g21]
   exact ⟨by rw [show gE p.es k = x_6 from by unfold gE; rw [hv]; rfl, show hE p.es k = true from by unfold hE; rw [hv]; rfl], HP.bl⟩
  have g21p := ne_of_beq_false g21
  refine sk (ibn (tn (rg ?_)))
  refine H.v 12 (ii i) fun a H => H.valE 13 (ii (IntKind.i64.wrap ((i : Int) + 1))) (ii ((i : Int) + 1)) (by kernel_rfl) (by kernel_rfl) ((by rw [wrap_ini64 _ (by omega)])) fun a H => H.v 6 (ii ((i : Int) + 1)) fun a H => ?_
  refine nl (tn ?_)
  have H := H.as 6 (ii ((i + 1 : Nat) : Int)) rfl rfl
  refine ⟨_, ?_, i + 1, rfl, H.keep (by kernel_rfl), HP, (by omega), (by rw [hrel, hd_11]; unfold fE; rw [List.find?_cons, g21])⟩
  omega
 have g11p := of_decide_eq_false g11
 refine wp_exit (then_exit (then_exit ?_))
 refine w_exit_here ?_
 refine tn (sq (rg ?_))
 refine H.v 27 (.agg #[(ii 0), (ii 0), (ii 0), (ii 0), (ii 0), (ii 0), (.slice none 0 0)]) fun a H => H.st HP 0 b_3 0 7 43 true (.agg #[(ii 0), (ii 0), (ii 0), (ii 0), (ii 0), (ii 0), (.slice none 0 0)]) [bx b_3 43 [(ii 0), (ii 0), (ii 0), (ii 0), (ii 0), (ii 0), (.slice none 0 0)] true, bx b_1 32 (plL p) true] rfl fun w_14 a H HP => H.v 5 (.bool false) fun a H => ?_
 refine nl (tn (rt ?_))
 refine H.ret2 (fn := Tryz.f21) Tryz.results21 (RV.cellN (vs := [(ii 0), (ii 0), (ii 0), (ii 0), (ii 0), (ii 0), (.slice none 0 0)]) (b := b_3) (off := 0) (k := 7) (by kernel_rfl) (by kernel_rfl) (by kernel_rfl) rfl (HP.cells 0 rfl 0 7 (by kernel_rfl))) (RV.tmp_ (v := (.bool false)) (by kernel_rfl)) ?_
 have hv : fE p.es k = none := by rw [hrel, List.drop_eq_nil_of_le (by omega)]; rfl
 exact ⟨by rw [show gE p.es k = enZ from by unfold gE; rw [hv]; rfl, show hE p.es k = false from by unfold hE; rw [hv]; rfl]; rfl, HP.bl⟩
theorem eqS_any (A B : Option Addr) (c d : Nat) (l m : List (Int × Int)) (w : World) (hr : IsAl w A l) (hs : IsAl w B m) (hl : l.length ≤ maxLen) (hm : m.length ≤ maxLen) : Calls Tryz.prog 42 #[.slice A l.length c, .slice B m.length d] w fun e w' => e = .returned (.bool (decide (l = m))) ∧ Below w.heap.size w w' := by
 unfold maxLen at hl hm
 have HP := Hp.start w
 refine w_enter 26 [(0, (.slice A l.length c)), (1, (.slice B m.length d))] Tryz.func42 rfl Tryz.ntmps42 (by kernel_rfl) (by kernel_rfl) fun a H => ?_
 refine sq (rg ?_)
 refine H.v 4 (.bool false) fun a H => ?_
 refine nl (tn (sq (sq (rg ?_))))
 refine H.v 6 (.slice A l.length c) fun a H => H.v 7 (ii l.length) fun a H => H.v 8 (.slice B m.length d) fun a H => H.v 9 (ii m.length) fun a H => H.v 10 (.bool ((l.length : Int) != (m.length : Int))) fun a H => ?_
 refine nl (tn ?_)
 refine w_if H rfl (fun g10 => ?_) (fun g10 => ?_)
 ·have g10p := bne_iff_ne.1 g10
  refine sq (rg ?_)
  refine H.v 4 (.bool false) fun a H => ?_
  refine nl (tn (rt (tr ?_)))
  refine H.r1 (.bool false) Tryz.results42 ?_
  exact ⟨by rw [decide_eq_false (fun e => by subst e; omega)], HP.bl⟩
 have g10p := eq_of_bne_false g10
 refine sk (tn (sq (sq (rg ?_))))
 refine H.v 11 (.slice A l.length c) fun a H => H.v 12 (ii l.length) fun a H => H.v 13 (ii 0) fun a H => ?_
 refine nl (tn (bk ?_))
 refine w_loop (fun mm a wv => ∃ (i : Nat), l.length - i = mm ∧ Sl 26 [(13, (ii i)), (12, (ii l.length)), (11, (.slice A l.length c)), (10, (.bool ((l.length : Int) != (m.length : Int)))), (9, (ii m.length)), (8, (.slice B m.length d)), (7, (ii l.length)), (6, (.slice A l.length c)), (0, (.slice A l.length c)), (1, (.slice B m.length d))] a ∧ Hp w wv [] [] ∧ (i ≤ l.length) ∧ (l.take i = m.take i)) (l.length - 0) ?_ ?_
 ·exact ⟨0, (by omega), H.keep (by kernel_rfl), HP, (Nat.zero_le _), rfl⟩
 rintro mm a w_1 ⟨i, hmeas, H, HP, hib, hrel⟩
 refine sq (rg ?_)
 refine H.v 14 (.bool (decide ((i : Int) < (l.length : Int)))) fun a H => ?_
 refine nl (tn (sq ?_))
 refine w_if H rfl (fun g14 => ?_) (fun g14 => ?_)
 ·have g14p := of_decide_eq_true g14
  refine sk (tn (sq (bk (sq (rg ?_)))))
  refine H.v 15 (ii i) fun a H => H.v 5 (ii i) fun a H => ?_
  refine nl (tn (sq ?_))
  obtain ⟨bu_3, ou_4, x_2, hA_5, _, hd_7, hx_6, hm_8, _⟩ := IsRow.get altC_size (hr.below HP.bl) (i := i) (by omega)
  obtain ⟨bu_10, ou_11, x_9, hA_12, _, hd_14, hx_13, hm_15, _⟩ := IsRow.get altC_size (hs.below HP.bl) (i := i) (by omega)
  refine An.start (fun v => Hp w v [] []) 9 9 HP wide_follows rfl fun w_16 HP => ?_
  refine An.p H (.inr HP) 0 16 (.slice A l.length c) fun a H => ?_
  refine An.p H (.inr HP) 1 17 (ii i) fun a H => ?_
  refine An.q H (.inr (HP)) 2 18 (.pointer (some ⟨bu_3, ou_4 + i * 2, none⟩)) (fun _ => ex_indexA (b := bu_3) (off := ou_4) (len := l.length) (cap := c) (e := 76) (k := 2) (ik := .i64) (i := (i : Int)) (m := i) hA_5 (by kernel_rfl) (by kernel_rfl) (by omega) (by omega) (by kernel_rfl) (by kernel_rfl)) fun a H => ?_
  refine An.vw H (HP) 3 19 (alV x_2) (fun _ hS => ex_lN (alL x_2) (IsRow.cells altC_size (hr.below (hS.below (by kernel_rfl))) hA_5 hx_6)) fun a H => ?_
  refine An.p H (.inr HP) 4 20 (.slice B m.length d) fun a H => ?_
  refine An.p H (.inr HP) 5 21 (ii i) fun a H => ?_
  refine An.q H (.inr (HP)) 6 22 (.pointer (some ⟨bu_10, ou_11 + i * 2, none⟩)) (fun _ => ex_indexA (b := bu_10) (off := ou_11) (len := m.length) (cap := d) (e := 76) (k := 2) (ik := .i64) (i := (i : Int)) (m := i) hA_12 (by kernel_rfl) (by kernel_rfl) (by omega) (by omega) (by kernel_rfl) (by kernel_rfl)) fun a H => ?_
  refine An.vw H (HP) 7 23 (alV x_9) (fun _ hS => ex_lN (alL x_9) (IsRow.cells altC_size (hs.below (hS.below (by kernel_rfl))) hA_12 hx_13)) fun a H => ?_
  refine An.q H (.inr (HP)) 8 24 (.bool (!(([x_2.1, x_2.2] : List Int) == [x_9.1, x_9.2]))) (fun _ => ex_neL (a := [x_2.1, x_2.2]) (b := [x_9.1, x_9.2]) (by kernel_rfl) (by kernel_rfl) (by kernel_rfl) rfl) fun a H => ?_
  refine An.done (by kernel_rfl) ?_
  refine tn ?_
  refine w_if H rfl (fun g24 => ?_) (fun g24 => ?_)
  ·have g24p := not_is_true g24
   refine sq (rg ?_)
   refine H.v 4 (.bool false) fun a H => ?_
   refine nl (tn (rt (ibr (tr (tr (ibr (tr ?_)))))))
   refine H.r1 (.bool false) Tryz.results42 ?_
   exact ⟨by rw [decide_eq_false (ne_at hx_6 hx_13 (fun e => ne_of_beq_false g24p (alt_eq.2 e)))], HP.bl⟩
  have g24p := not_is_false g24
  refine sk (ibn (tn (rg ?_)))
  refine H.valE 25 (ii (IntKind.i64.wrap ((i : Int) + 1))) (ii ((i : Int) + 1)) (by kernel_rfl) (by kernel_rfl) ((by rw [wrap_ini64 _ (by omega)])) fun a H => H.v 13 (ii ((i : Int) + 1)) fun a H => ?_
  refine nl (tn ?_)
  have H := H.as 13 (ii ((i + 1 : Nat) : Int)) rfl rfl
  refine ⟨_, ?_, i + 1, rfl, H.keep (by kernel_rfl), HP, (by omega), (take_eq_snoc hrel hx_6 hx_13 (alt_eq.1 (eq_of_beq g24p)))⟩
  omega
 have g14p := of_decide_eq_false g14
 refine wp_exit (then_exit (then_exit ?_))
 refine w_exit_here ?_
 refine tn (sq (rg ?_))
 refine H.v 4 (.bool true) fun a H => ?_
 refine nl (tn (rt ?_))
 refine H.r1 (.bool true) Tryz.results42 ?_
 exact ⟨by rw [decide_eq_true (take_all hrel (by omega) (by omega))], HP.bl⟩
theorem eqI_any (A B : Option Addr) (c d : Nat) (l m : List (Itm)) (w : World) (hr : IsIt w A l) (hs : IsIt w B m) (hl : l.length ≤ maxLen) (hm : m.length ≤ maxLen) : Calls Tryz.prog 43 #[.slice A l.length c, .slice B m.length d] w fun e w' => e = .returned (.bool (decide (l = m))) ∧ Below w.heap.size w w' := by
 unfold maxLen at hl hm
 have HP := Hp.start w
 refine w_enter 26 [(0, (.slice A l.length c)), (1, (.slice B m.length d))] Tryz.func43 rfl Tryz.ntmps43 (by kernel_rfl) (by kernel_rfl) fun a H => ?_
 refine sq (rg ?_)
 refine H.v 4 (.bool false) fun a H => ?_
 refine nl (tn (sq (sq (rg ?_))))
 refine H.v 6 (.slice A l.length c) fun a H => H.v 7 (ii l.length) fun a H => H.v 8 (.slice B m.length d) fun a H => H.v 9 (ii m.length) fun a H => H.v 10 (.bool ((l.length : Int) != (m.length : Int))) fun a H => ?_
 refine nl (tn ?_)
 refine w_if H rfl (fun g10 => ?_) (fun g10 => ?_)
 ·have g10p := bne_iff_ne.1 g10
  refine sq (rg ?_)
  refine H.v 4 (.bool false) fun a H => ?_
  refine nl (tn (rt (tr ?_)))
  refine H.r1 (.bool false) Tryz.results43 ?_
  exact ⟨by rw [decide_eq_false (fun e => by subst e; omega)], HP.bl⟩
 have g10p := eq_of_bne_false g10
 refine sk (tn (sq (sq (rg ?_))))
 refine H.v 11 (.slice A l.length c) fun a H => H.v 12 (ii l.length) fun a H => H.v 13 (ii 0) fun a H => ?_
 refine nl (tn (bk ?_))
 refine w_loop (fun mm a wv => ∃ (i : Nat), l.length - i = mm ∧ Sl 26 [(13, (ii i)), (12, (ii l.length)), (11, (.slice A l.length c)), (10, (.bool ((l.length : Int) != (m.length : Int)))), (9, (ii m.length)), (8, (.slice B m.length d)), (7, (ii l.length)), (6, (.slice A l.length c)), (0, (.slice A l.length c)), (1, (.slice B m.length d))] a ∧ Hp w wv [] [] ∧ (i ≤ l.length) ∧ (l.take i = m.take i)) (l.length - 0) ?_ ?_
 ·exact ⟨0, (by omega), H.keep (by kernel_rfl), HP, (Nat.zero_le _), rfl⟩
 rintro mm a w_1 ⟨i, hmeas, H, HP, hib, hrel⟩
 refine sq (rg ?_)
 refine H.v 14 (.bool (decide ((i : Int) < (l.length : Int)))) fun a H => ?_
 refine nl (tn (sq ?_))
 refine w_if H rfl (fun g14 => ?_) (fun g14 => ?_)
 ·have g14p := of_decide_eq_true g14
  refine sk (tn (sq (bk (sq (rg ?_)))))
  refine H.v 15 (ii i) fun a H => H.v 5 (ii i) fun a H => ?_
  refine nl (tn (sq ?_))
  obtain ⟨bu_3, ou_4, x_2, hA_5, _, hd_7, hx_6, hm_8, _⟩ := IsRow.get itC_size (hr.below HP.bl) (i := i) (by omega)
  obtain ⟨bu_10, ou_11, x_9, hA_12, _, hd_14, hx_13, hm_15, _⟩ := IsRow.get itC_size (hs.below HP.bl) (i := i) (by omega)
  refine An.start (fun v => Hp w v [] []) 9 9 HP wide_follows rfl fun w_16 HP => ?_
  refine An.p H (.inr HP) 0 16 (.slice A l.length c) fun a H => ?_
  refine An.p H (.inr HP) 1 17 (ii i) fun a H => ?_
  refine An.q H (.inr (HP)) 2 18 (.pointer (some ⟨bu_3, ou_4 + i * 5, none⟩)) (fun _ => ex_indexA (b := bu_3) (off := ou_4) (len := l.length) (cap := c) (e := 38) (k := 5) (ik := .i64) (i := (i : Int)) (m := i) hA_5 (by kernel_rfl) (by kernel_rfl) (by omega) (by omega) (by kernel_rfl) (by kernel_rfl)) fun a H => ?_
  refine An.vw H (HP) 3 19 (itV x_2) (fun _ hS => ex_lN (itL x_2) (IsRow.cells itC_size (hr.below (hS.below (by kernel_rfl))) hA_5 hx_6)) fun a H => ?_
  refine An.p H (.inr HP) 4 20 (.slice B m.length d) fun a H => ?_
  refine An.p H (.inr HP) 5 21 (ii i) fun a H => ?_
  refine An.q H (.inr (HP)) 6 22 (.pointer (some ⟨bu_10, ou_11 + i * 5, none⟩)) (fun _ => ex_indexA (b := bu_10) (off := ou_11) (len := m.length) (cap := d) (e := 38) (k := 5) (ik := .i64) (i := (i : Int)) (m := i) hA_12 (by kernel_rfl) (by kernel_rfl) (by omega) (by omega) (by kernel_rfl) (by kernel_rfl)) fun a H => ?_
  refine An.vw H (HP) 7 23 (itV x_9) (fun _ hS => ex_lN (itL x_9) (IsRow.cells itC_size (hs.below (hS.below (by kernel_rfl))) hA_12 hx_13)) fun a H => ?_
  refine An.q H (.inr (HP)) 8 24 (.bool (!(([x_2.id, x_2.kind, x_2.frames, x_2.sponsor, x_2.rating] : List Int) == [x_9.id, x_9.kind, x_9.frames, x_9.sponsor, x_9.rating]))) (fun _ => ex_neL (a := [x_2.id, x_2.kind, x_2.frames, x_2.sponsor, x_2.rating]) (b := [x_9.id, x_9.kind, x_9.frames, x_9.sponsor, x_9.rating]) (by kernel_rfl) (by kernel_rfl) (by kernel_rfl) rfl) fun a H => ?_
  refine An.done (by kernel_rfl) ?_
  refine tn ?_
  refine w_if H rfl (fun g24 => ?_) (fun g24 => ?_)
  ·have g24p := not_is_true g24
   refine sq (rg ?_)
   refine H.v 4 (.bool false) fun a H => ?_
   refine nl (tn (rt (ibr (tr (tr (ibr (tr ?_)))))))
   refine H.r1 (.bool false) Tryz.results43 ?_
   exact ⟨by rw [decide_eq_false (ne_at hx_6 hx_13 (fun e => ne_of_beq_false g24p (itm_eq.2 e)))], HP.bl⟩
  have g24p := not_is_false g24
  refine sk (ibn (tn (rg ?_)))
  refine H.valE 25 (ii (IntKind.i64.wrap ((i : Int) + 1))) (ii ((i : Int) + 1)) (by kernel_rfl) (by kernel_rfl) ((by rw [wrap_ini64 _ (by omega)])) fun a H => H.v 13 (ii ((i : Int) + 1)) fun a H => ?_
  refine nl (tn ?_)
  have H := H.as 13 (ii ((i + 1 : Nat) : Int)) rfl rfl
  refine ⟨_, ?_, i + 1, rfl, H.keep (by kernel_rfl), HP, (by omega), (take_eq_snoc hrel hx_6 hx_13 (itm_eq.1 (eq_of_beq g24p)))⟩
  omega
 have g14p := of_decide_eq_false g14
 refine wp_exit (then_exit (then_exit ?_))
 refine w_exit_here ?_
 refine tn (sq (rg ?_))
 refine H.v 4 (.bool true) fun a H => ?_
 refine nl (tn (rt ?_))
 refine H.r1 (.bool true) Tryz.results43 ?_
 exact ⟨by rw [decide_eq_true (take_all hrel (by omega) (by omega))], HP.bl⟩
theorem eqB_any (A B : Option Addr) (c d : Nat) (l m : List (Bkg)) (w : World) (hr : IsBk w A l) (hs : IsBk w B m) (hl : l.length ≤ maxLen) (hm : m.length ≤ maxLen) : Calls Tryz.prog 46 #[.slice A l.length c, .slice B m.length d] w fun e w' => e = .returned (.bool (decide (l = m))) ∧ Below w.heap.size w w' := by
 unfold maxLen at hl hm
 have HP := Hp.start w
 refine w_enter 26 [(0, (.slice A l.length c)), (1, (.slice B m.length d))] Tryz.func46 rfl Tryz.ntmps46 (by kernel_rfl) (by kernel_rfl) fun a H => ?_
 refine sq (rg ?_)
 refine H.v 4 (.bool false) fun a H => ?_
 refine nl (tn (sq (sq (rg ?_))))
 refine H.v 6 (.slice A l.length c) fun a H => H.v 7 (ii l.length) fun a H => H.v 8 (.slice B m.length d) fun a H => H.v 9 (ii m.length) fun a H => H.v 10 (.bool ((l.length : Int) != (m.length : Int))) fun a H => ?_
 refine nl (tn ?_)
 refine w_if H rfl (fun g10 => ?_) (fun g10 => ?_)
 ·have g10p := bne_iff_ne.1 g10
  refine sq (rg ?_)
  refine H.v 4 (.bool false) fun a H => ?_
  refine nl (tn (rt (tr ?_)))
  refine H.r1 (.bool false) Tryz.results46 ?_
  exact ⟨by rw [decide_eq_false (fun e => by subst e; omega)], HP.bl⟩
 have g10p := eq_of_bne_false g10
 refine sk (tn (sq (sq (rg ?_))))
 refine H.v 11 (.slice A l.length c) fun a H => H.v 12 (ii l.length) fun a H => H.v 13 (ii 0) fun a H => ?_
 refine nl (tn (bk ?_))
 refine w_loop (fun mm a wv => ∃ (i : Nat), l.length - i = mm ∧ Sl 26 [(13, (ii i)), (12, (ii l.length)), (11, (.slice A l.length c)), (10, (.bool ((l.length : Int) != (m.length : Int)))), (9, (ii m.length)), (8, (.slice B m.length d)), (7, (ii l.length)), (6, (.slice A l.length c)), (0, (.slice A l.length c)), (1, (.slice B m.length d))] a ∧ Hp w wv [] [] ∧ (i ≤ l.length) ∧ (l.take i = m.take i)) (l.length - 0) ?_ ?_
 ·exact ⟨0, (by omega), H.keep (by kernel_rfl), HP, (Nat.zero_le _), rfl⟩
 rintro mm a w_1 ⟨i, hmeas, H, HP, hib, hrel⟩
 refine sq (rg ?_)
 refine H.v 14 (.bool (decide ((i : Int) < (l.length : Int)))) fun a H => ?_
 refine nl (tn (sq ?_))
 refine w_if H rfl (fun g14 => ?_) (fun g14 => ?_)
 ·have g14p := of_decide_eq_true g14
  refine sk (tn (sq (bk (sq (rg ?_)))))
  refine H.v 15 (ii i) fun a H => H.v 5 (ii i) fun a H => ?_
  refine nl (tn (sq ?_))
  obtain ⟨bu_3, ou_4, x_2, hA_5, _, hd_7, hx_6, hm_8, _⟩ := IsRow.get bkC_size (hr.below HP.bl) (i := i) (by omega)
  obtain ⟨bu_10, ou_11, x_9, hA_12, _, hd_14, hx_13, hm_15, _⟩ := IsRow.get bkC_size (hs.below HP.bl) (i := i) (by omega)
  refine An.start (fun v => Hp w v [] []) 9 9 HP wide_follows rfl fun w_16 HP => ?_
  refine An.p H (.inr HP) 0 16 (.slice A l.length c) fun a H => ?_
  refine An.p H (.inr HP) 1 17 (ii i) fun a H => ?_
  refine An.q H (.inr (HP)) 2 18 (.pointer (some ⟨bu_3, ou_4 + i * 7, none⟩)) (fun _ => ex_indexA (b := bu_3) (off := ou_4) (len := l.length) (cap := c) (e := 47) (k := 7) (ik := .i64) (i := (i : Int)) (m := i) hA_5 (by kernel_rfl) (by kernel_rfl) (by omega) (by omega) (by kernel_rfl) (by kernel_rfl)) fun a H => ?_
  refine An.vw H (HP) 3 19 (bkV x_2) (fun _ hS => ex_lN (bkL x_2) (IsRow.cells bkC_size (hr.below (hS.below (by kernel_rfl))) hA_5 hx_6)) fun a H => ?_
  refine An.p H (.inr HP) 4 20 (.slice B m.length d) fun a H => ?_
  refine An.p H (.inr HP) 5 21 (ii i) fun a H => ?_
  refine An.q H (.inr (HP)) 6 22 (.pointer (some ⟨bu_10, ou_11 + i * 7, none⟩)) (fun _ => ex_indexA (b := bu_10) (off := ou_11) (len := m.length) (cap := d) (e := 47) (k := 7) (ik := .i64) (i := (i : Int)) (m := i) hA_12 (by kernel_rfl) (by kernel_rfl) (by omega) (by omega) (by kernel_rfl) (by kernel_rfl)) fun a H => ?_
  refine An.vw H (HP) 7 23 (bkV x_9) (fun _ hS => ex_lN (bkL x_9) (IsRow.cells bkC_size (hs.below (hS.below (by kernel_rfl))) hA_12 hx_13)) fun a H => ?_
  refine An.q H (.inr (HP)) 8 24 (.bool (!(([x_2.id, x_2.item, x_2.region, x_2.from_, x_2.to_, x_2.until_, x_2.price] : List Int) == [x_9.id, x_9.item, x_9.region, x_9.from_, x_9.to_, x_9.until_, x_9.price]))) (fun _ => ex_neL (a := [x_2.id, x_2.item, x_2.region, x_2.from_, x_2.to_, x_2.until_, x_2.price]) (b := [x_9.id, x_9.item, x_9.region, x_9.from_, x_9.to_, x_9.until_, x_9.price]) (by kernel_rfl) (by kernel_rfl) (by kernel_rfl) rfl) fun a H => ?_
  refine An.done (by kernel_rfl) ?_
  refine tn ?_
  refine w_if H rfl (fun g24 => ?_) (fun g24 => ?_)
  ·have g24p := not_is_true g24
   refine sq (rg ?_)
   refine H.v 4 (.bool false) fun a H => ?_
   refine nl (tn (rt (ibr (tr (tr (ibr (tr ?_)))))))
   refine H.r1 (.bool false) Tryz.results46 ?_
   exact ⟨by rw [decide_eq_false (ne_at hx_6 hx_13 (fun e => ne_of_beq_false g24p (bkg_eq.2 e)))], HP.bl⟩
  have g24p := not_is_false g24
  refine sk (ibn (tn (rg ?_)))
  refine H.valE 25 (ii (IntKind.i64.wrap ((i : Int) + 1))) (ii ((i : Int) + 1)) (by kernel_rfl) (by kernel_rfl) ((by rw [wrap_ini64 _ (by omega)])) fun a H => H.v 13 (ii ((i : Int) + 1)) fun a H => ?_
  refine nl (tn ?_)
  have H := H.as 13 (ii ((i + 1 : Nat) : Int)) rfl rfl
  refine ⟨_, ?_, i + 1, rfl, H.keep (by kernel_rfl), HP, (by omega), (take_eq_snoc hrel hx_6 hx_13 (bkg_eq.1 (eq_of_beq g24p)))⟩
  omega
 have g14p := of_decide_eq_false g14
 refine wp_exit (then_exit (then_exit ?_))
 refine w_exit_here ?_
 refine tn (sq (rg ?_))
 refine H.v 4 (.bool true) fun a H => ?_
 refine nl (tn (rt ?_))
 refine H.r1 (.bool true) Tryz.results46 ?_
 exact ⟨by rw [decide_eq_true (take_all hrel (by omega) (by omega))], HP.bl⟩
theorem eqC_any (A B : Option Addr) (c d : Nat) (l m : List (Cls)) (w : World) (hr : IsCl w A l) (hs : IsCl w B m) (hl : l.length ≤ maxLen) (hm : m.length ≤ maxLen) : Calls Tryz.prog 47 #[.slice A l.length c, .slice B m.length d] w fun e w' => e = .returned (.bool (decide (l = m))) ∧ Below w.heap.size w w' := by
 unfold maxLen at hl hm
 have HP := Hp.start w
 refine w_enter 26 [(0, (.slice A l.length c)), (1, (.slice B m.length d))] Tryz.func47 rfl Tryz.ntmps47 (by kernel_rfl) (by kernel_rfl) fun a H => ?_
 refine sq (rg ?_)
 refine H.v 4 (.bool false) fun a H => ?_
 refine nl (tn (sq (sq (rg ?_))))
 refine H.v 6 (.slice A l.length c) fun a H => H.v 7 (ii l.length) fun a H => H.v 8 (.slice B m.length d) fun a H => H.v 9 (ii m.length) fun a H => H.v 10 (.bool ((l.length : Int) != (m.length : Int))) fun a H => ?_
 refine nl (tn ?_)
 refine w_if H rfl (fun g10 => ?_) (fun g10 => ?_)
 ·have g10p := bne_iff_ne.1 g10
  refine sq (rg ?_)
  refine H.v 4 (.bool false) fun a H => ?_
  refine nl (tn (rt (tr ?_)))
  refine H.r1 (.bool false) Tryz.results47 ?_
  exact ⟨by rw [decide_eq_false (fun e => by subst e; omega)], HP.bl⟩
 have g10p := eq_of_bne_false g10
 refine sk (tn (sq (sq (rg ?_))))
 refine H.v 11 (.slice A l.length c) fun a H => H.v 12 (ii l.length) fun a H => H.v 13 (ii 0) fun a H => ?_
 refine nl (tn (bk ?_))
 refine w_loop (fun mm a wv => ∃ (i : Nat), l.length - i = mm ∧ Sl 26 [(13, (ii i)), (12, (ii l.length)), (11, (.slice A l.length c)), (10, (.bool ((l.length : Int) != (m.length : Int)))), (9, (ii m.length)), (8, (.slice B m.length d)), (7, (ii l.length)), (6, (.slice A l.length c)), (0, (.slice A l.length c)), (1, (.slice B m.length d))] a ∧ Hp w wv [] [] ∧ (i ≤ l.length) ∧ (l.take i = m.take i)) (l.length - 0) ?_ ?_
 ·exact ⟨0, (by omega), H.keep (by kernel_rfl), HP, (Nat.zero_le _), rfl⟩
 rintro mm a w_1 ⟨i, hmeas, H, HP, hib, hrel⟩
 refine sq (rg ?_)
 refine H.v 14 (.bool (decide ((i : Int) < (l.length : Int)))) fun a H => ?_
 refine nl (tn (sq ?_))
 refine w_if H rfl (fun g14 => ?_) (fun g14 => ?_)
 ·have g14p := of_decide_eq_true g14
  refine sk (tn (sq (bk (sq (rg ?_)))))
  refine H.v 15 (ii i) fun a H => H.v 5 (ii i) fun a H => ?_
  refine nl (tn (sq ?_))
  obtain ⟨bu_3, ou_4, x_2, hA_5, _, hd_7, hx_6, hm_8, _⟩ := IsRow.get clC_size (hr.below HP.bl) (i := i) (by omega)
  obtain ⟨bu_10, ou_11, x_9, hA_12, _, hd_14, hx_13, hm_15, _⟩ := IsRow.get clC_size (hs.below HP.bl) (i := i) (by omega)
  refine An.start (fun v => Hp w v [] []) 9 9 HP wide_follows rfl fun w_16 HP => ?_
  refine An.p H (.inr HP) 0 16 (.slice A l.length c) fun a H => ?_
  refine An.p H (.inr HP) 1 17 (ii i) fun a H => ?_
  refine An.q H (.inr (HP)) 2 18 (.pointer (some ⟨bu_3, ou_4 + i * 8, none⟩)) (fun _ => ex_indexA (b := bu_3) (off := ou_4) (len := l.length) (cap := c) (e := 73) (k := 8) (ik := .i64) (i := (i : Int)) (m := i) hA_5 (by kernel_rfl) (by kernel_rfl) (by omega) (by omega) (by kernel_rfl) (by kernel_rfl)) fun a H => ?_
  refine An.vw H (HP) 3 19 (clV x_2) (fun _ hS => ex_lN (clL x_2) (IsRow.cells clC_size (hr.below (hS.below (by kernel_rfl))) hA_5 hx_6)) fun a H => ?_
  refine An.p H (.inr HP) 4 20 (.slice B m.length d) fun a H => ?_
  refine An.p H (.inr HP) 5 21 (ii i) fun a H => ?_
  refine An.q H (.inr (HP)) 6 22 (.pointer (some ⟨bu_10, ou_11 + i * 8, none⟩)) (fun _ => ex_indexA (b := bu_10) (off := ou_11) (len := m.length) (cap := d) (e := 73) (k := 8) (ik := .i64) (i := (i : Int)) (m := i) hA_12 (by kernel_rfl) (by kernel_rfl) (by omega) (by omega) (by kernel_rfl) (by kernel_rfl)) fun a H => ?_
  refine An.vw H (HP) 7 23 (clV x_9) (fun _ hS => ex_lN (clL x_9) (IsRow.cells clC_size (hs.below (hS.below (by kernel_rfl))) hA_12 hx_13)) fun a H => ?_
  refine An.q H (.inr (HP)) 8 24 (.bool (!(([x_2.kind, x_2.item, x_2.from_, x_2.to_, x_2.regions, x_2.n, x_2.a, x_2.b] : List Int) == [x_9.kind, x_9.item, x_9.from_, x_9.to_, x_9.regions, x_9.n, x_9.a, x_9.b]))) (fun _ => ex_neL (a := [x_2.kind, x_2.item, x_2.from_, x_2.to_, x_2.regions, x_2.n, x_2.a, x_2.b]) (b := [x_9.kind, x_9.item, x_9.from_, x_9.to_, x_9.regions, x_9.n, x_9.a, x_9.b]) (by kernel_rfl) (by kernel_rfl) (by kernel_rfl) rfl) fun a H => ?_
  refine An.done (by kernel_rfl) ?_
  refine tn ?_
  refine w_if H rfl (fun g24 => ?_) (fun g24 => ?_)
  ·have g24p := not_is_true g24
   refine sq (rg ?_)
   refine H.v 4 (.bool false) fun a H => ?_
   refine nl (tn (rt (ibr (tr (tr (ibr (tr ?_)))))))
   refine H.r1 (.bool false) Tryz.results47 ?_
   exact ⟨by rw [decide_eq_false (ne_at hx_6 hx_13 (fun e => ne_of_beq_false g24p (cls_eq.2 e)))], HP.bl⟩
  have g24p := not_is_false g24
  refine sk (ibn (tn (rg ?_)))
  refine H.valE 25 (ii (IntKind.i64.wrap ((i : Int) + 1))) (ii ((i : Int) + 1)) (by kernel_rfl) (by kernel_rfl) ((by rw [wrap_ini64 _ (by omega)])) fun a H => H.v 13 (ii ((i : Int) + 1)) fun a H => ?_
  refine nl (tn ?_)
  have H := H.as 13 (ii ((i + 1 : Nat) : Int)) rfl rfl
  refine ⟨_, ?_, i + 1, rfl, H.keep (by kernel_rfl), HP, (by omega), (take_eq_snoc hrel hx_6 hx_13 (cls_eq.1 (eq_of_beq g24p)))⟩
  omega
 have g14p := of_decide_eq_false g14
 refine wp_exit (then_exit (then_exit ?_))
 refine w_exit_here ?_
 refine tn (sq (rg ?_))
 refine H.v 4 (.bool true) fun a H => ?_
 refine nl (tn (rt ?_))
 refine H.r1 (.bool true) Tryz.results47 ?_
 exact ⟨by rw [decide_eq_true (take_all hrel (by omega) (by omega))], HP.bl⟩
theorem eqA_any (A B : Option Addr) (c d : Nat) (l m : List (Int × Int)) (w : World) (hr : IsAl w A l) (hs : IsAl w B m) (hl : l.length ≤ maxLen) (hm : m.length ≤ maxLen) : Calls Tryz.prog 80 #[.slice A l.length c, .slice B m.length d] w fun e w' => e = .returned (.bool (decide (l = m))) ∧ Below w.heap.size w w' := by
 unfold maxLen at hl hm
 have HP := Hp.start w
 refine w_enter 26 [(0, (.slice A l.length c)), (1, (.slice B m.length d))] Tryz.func80 rfl Tryz.ntmps80 (by kernel_rfl) (by kernel_rfl) fun a H => ?_
 refine sq (rg ?_)
 refine H.v 4 (.bool false) fun a H => ?_
 refine nl (tn (sq (sq (rg ?_))))
 refine H.v 6 (.slice A l.length c) fun a H => H.v 7 (ii l.length) fun a H => H.v 8 (.slice B m.length d) fun a H => H.v 9 (ii m.length) fun a H => H.v 10 (.bool ((l.length : Int) != (m.length : Int))) fun a H => ?_
 refine nl (tn ?_)
 refine w_if H rfl (fun g10 => ?_) (fun g10 => ?_)
 ·have g10p := bne_iff_ne.1 g10
  refine sq (rg ?_)
  refine H.v 4 (.bool false) fun a H => ?_
  refine nl (tn (rt (tr ?_)))
  refine H.r1 (.bool false) Tryz.results80 ?_
  exact ⟨by rw [decide_eq_false (fun e => by subst e; omega)], HP.bl⟩
 have g10p := eq_of_bne_false g10
 refine sk (tn (sq (sq (rg ?_))))
 refine H.v 11 (.slice A l.length c) fun a H => H.v 12 (ii l.length) fun a H => H.v 13 (ii 0) fun a H => ?_
 refine nl (tn (bk ?_))
 refine w_loop (fun mm a wv => ∃ (i : Nat), l.length - i = mm ∧ Sl 26 [(13, (ii i)), (12, (ii l.length)), (11, (.slice A l.length c)), (10, (.bool ((l.length : Int) != (m.length : Int)))), (9, (ii m.length)), (8, (.slice B m.length d)), (7, (ii l.length)), (6, (.slice A l.length c)), (0, (.slice A l.length c)), (1, (.slice B m.length d))] a ∧ Hp w wv [] [] ∧ (i ≤ l.length) ∧ (l.take i = m.take i)) (l.length - 0) ?_ ?_
 ·exact ⟨0, (by omega), H.keep (by kernel_rfl), HP, (Nat.zero_le _), rfl⟩
 rintro mm a w_1 ⟨i, hmeas, H, HP, hib, hrel⟩
 refine sq (rg ?_)
 refine H.v 14 (.bool (decide ((i : Int) < (l.length : Int)))) fun a H => ?_
 refine nl (tn (sq ?_))
 refine w_if H rfl (fun g14 => ?_) (fun g14 => ?_)
 ·have g14p := of_decide_eq_true g14
  refine sk (tn (sq (bk (sq (rg ?_)))))
  refine H.v 15 (ii i) fun a H => H.v 5 (ii i) fun a H => ?_
  refine nl (tn (sq ?_))
  obtain ⟨bu_3, ou_4, x_2, hA_5, _, hd_7, hx_6, hm_8, _⟩ := IsRow.get altC_size (hr.below HP.bl) (i := i) (by omega)
  obtain ⟨bu_10, ou_11, x_9, hA_12, _, hd_14, hx_13, hm_15, _⟩ := IsRow.get altC_size (hs.below HP.bl) (i := i) (by omega)
  refine An.start (fun v => Hp w v [] []) 9 9 HP wide_follows rfl fun w_16 HP => ?_
  refine An.p H (.inr HP) 0 16 (.slice A l.length c) fun a H => ?_
  refine An.p H (.inr HP) 1 17 (ii i) fun a H => ?_
  refine An.q H (.inr (HP)) 2 18 (.pointer (some ⟨bu_3, ou_4 + i * 2, none⟩)) (fun _ => ex_indexA (b := bu_3) (off := ou_4) (len := l.length) (cap := c) (e := 62) (k := 2) (ik := .i64) (i := (i : Int)) (m := i) hA_5 (by kernel_rfl) (by kernel_rfl) (by omega) (by omega) (by kernel_rfl) (by kernel_rfl)) fun a H => ?_
  refine An.vw H (HP) 3 19 (alV x_2) (fun _ hS => ex_lN (alL x_2) (IsRow.cells altC_size (hr.below (hS.below (by kernel_rfl))) hA_5 hx_6)) fun a H => ?_
  refine An.p H (.inr HP) 4 20 (.slice B m.length d) fun a H => ?_
  refine An.p H (.inr HP) 5 21 (ii i) fun a H => ?_
  refine An.q H (.inr (HP)) 6 22 (.pointer (some ⟨bu_10, ou_11 + i * 2, none⟩)) (fun _ => ex_indexA (b := bu_10) (off := ou_11) (len := m.length) (cap := d) (e := 62) (k := 2) (ik := .i64) (i := (i : Int)) (m := i) hA_12 (by kernel_rfl) (by kernel_rfl) (by omega) (by omega) (by kernel_rfl) (by kernel_rfl)) fun a H => ?_
  refine An.vw H (HP) 7 23 (alV x_9) (fun _ hS => ex_lN (alL x_9) (IsRow.cells altC_size (hs.below (hS.below (by kernel_rfl))) hA_12 hx_13)) fun a H => ?_
  refine An.q H (.inr (HP)) 8 24 (.bool (!(([x_2.1, x_2.2] : List Int) == [x_9.1, x_9.2]))) (fun _ => ex_neL (a := [x_2.1, x_2.2]) (b := [x_9.1, x_9.2]) (by kernel_rfl) (by kernel_rfl) (by kernel_rfl) rfl) fun a H => ?_
  refine An.done (by kernel_rfl) ?_
  refine tn ?_
  refine w_if H rfl (fun g24 => ?_) (fun g24 => ?_)
  ·have g24p := not_is_true g24
   refine sq (rg ?_)
   refine H.v 4 (.bool false) fun a H => ?_
   refine nl (tn (rt (ibr (tr (tr (ibr (tr ?_)))))))
   refine H.r1 (.bool false) Tryz.results80 ?_
   exact ⟨by rw [decide_eq_false (ne_at hx_6 hx_13 (fun e => ne_of_beq_false g24p (alt_eq.2 e)))], HP.bl⟩
  have g24p := not_is_false g24
  refine sk (ibn (tn (rg ?_)))
  refine H.valE 25 (ii (IntKind.i64.wrap ((i : Int) + 1))) (ii ((i : Int) + 1)) (by kernel_rfl) (by kernel_rfl) ((by rw [wrap_ini64 _ (by omega)])) fun a H => H.v 13 (ii ((i : Int) + 1)) fun a H => ?_
  refine nl (tn ?_)
  have H := H.as 13 (ii ((i + 1 : Nat) : Int)) rfl rfl
  refine ⟨_, ?_, i + 1, rfl, H.keep (by kernel_rfl), HP, (by omega), (take_eq_snoc hrel hx_6 hx_13 (alt_eq.1 (eq_of_beq g24p)))⟩
  omega
 have g14p := of_decide_eq_false g14
 refine wp_exit (then_exit (then_exit ?_))
 refine w_exit_here ?_
 refine tn (sq (rg ?_))
 refine H.v 4 (.bool true) fun a H => ?_
 refine nl (tn (rt ?_))
 refine H.r1 (.bool true) Tryz.results80 ?_
 exact ⟨by rw [decide_eq_true (take_all hrel (by omega) (by omega))], HP.bl⟩
theorem rsameA_any (A B : Option Addr) (c d : Nat) (l m : List (Int × Int)) (w : World) (hr : IsAl w A l) (hs : IsAl w B m) (hl : l.length ≤ maxLen) (hm : m.length ≤ maxLen) : Calls Tryz.prog 55 #[.slice A l.length c, .slice B m.length d] w fun e w' => e = .returned (.bool (decide (l = m))) ∧ Below w.heap.size w w' := by
 unfold maxLen at hl hm
 have HP := Hp.start w
 refine w_enter 26 [(0, (.slice A l.length c)), (1, (.slice B m.length d))] Tryz.func55 rfl Tryz.ntmps55 (by kernel_rfl) (by kernel_rfl) fun a H => ?_
 refine sq (rg ?_)
 refine H.v 4 (.bool false) fun a H => ?_
 refine nl (tn (sq (sq (rg ?_))))
 refine H.v 6 (.slice A l.length c) fun a H => H.v 7 (ii l.length) fun a H => H.v 8 (.slice B m.length d) fun a H => H.v 9 (ii m.length) fun a H => H.v 10 (.bool ((l.length : Int) != (m.length : Int))) fun a H => ?_
 refine nl (tn ?_)
 refine w_if H rfl (fun g10 => ?_) (fun g10 => ?_)
 ·have g10p := bne_iff_ne.1 g10
  refine sq (rg ?_)
  refine H.v 4 (.bool false) fun a H => ?_
  refine nl (tn (rt (tr ?_)))
  refine H.r1 (.bool false) Tryz.results55 ?_
  exact ⟨by rw [decide_eq_false (fun e => by subst e; omega)], HP.bl⟩
 have g10p := eq_of_bne_false g10
 refine sk (tn (sq (sq (rg ?_))))
 refine H.v 5 (ii 0) fun a H => ?_
 refine nl (tn (bk ?_))
 refine w_loop (fun mm a wv => ∃ (i : Nat), l.length - i = mm ∧ Sl 26 [(5, (ii i)), (10, (.bool ((l.length : Int) != (m.length : Int)))), (9, (ii m.length)), (8, (.slice B m.length d)), (7, (ii l.length)), (6, (.slice A l.length c)), (0, (.slice A l.length c)), (1, (.slice B m.length d))] a ∧ Hp w wv [] [] ∧ (i ≤ l.length) ∧ (l.take i = m.take i)) (l.length - 0) ?_ ?_
 ·exact ⟨0, (by omega), H.keep (by kernel_rfl), HP, (Nat.zero_le _), rfl⟩
 rintro mm a w_1 ⟨i, hmeas, H, HP, hib, hrel⟩
 refine sq (sq (rg ?_))
 refine H.v 11 (ii i) fun a H => H.v 12 (.slice A l.length c) fun a H => H.v 13 (ii l.length) fun a H => H.v 14 (.bool (decide ((i : Int) < (l.length : Int)))) fun a H => ?_
 refine nl (tn ?_)
 refine w_if H rfl (fun g14 => ?_) (fun g14 => ?_)
 ·have g14p := of_decide_eq_true g14
  refine sk (tn (sq (bk (sq ?_))))
  obtain ⟨bu_3, ou_4, x_2, hA_5, _, hd_7, hx_6, hm_8, _⟩ := IsRow.get altC_size (hr.below HP.bl) (i := i) (by omega)
  obtain ⟨bu_10, ou_11, x_9, hA_12, _, hd_14, hx_13, hm_15, _⟩ := IsRow.get altC_size (hs.below HP.bl) (i := i) (by omega)
  refine An.start (fun v => Hp w v [] []) 9 9 HP wide_follows rfl fun w_16 HP => ?_
  refine An.p H (.inr HP) 0 17 (.slice A l.length c) fun a H => ?_
  refine An.p H (.inr HP) 1 18 (ii i) fun a H => ?_
  refine An.q H (.inr (HP)) 2 19 (.pointer (some ⟨bu_3, ou_4 + i * 2, none⟩)) (fun _ => ex_indexA (b := bu_3) (off := ou_4) (len := l.length) (cap := c) (e := 62) (k := 2) (ik := .i64) (i := (i : Int)) (m := i) hA_5 (by kernel_rfl) (by kernel_rfl) (by omega) (by omega) (by kernel_rfl) (by kernel_rfl)) fun a H => ?_
  refine An.vw H (HP) 3 20 (alV x_2) (fun _ hS => ex_lN (alL x_2) (IsRow.cells altC_size (hr.below (hS.below (by kernel_rfl))) hA_5 hx_6)) fun a H => ?_
  refine An.p H (.inr HP) 4 21 (.slice B m.length d) fun a H => ?_
  refine An.p H (.inr HP) 5 22 (ii i) fun a H => ?_
  refine An.q H (.inr (HP)) 6 23 (.pointer (some ⟨bu_10, ou_11 + i * 2, none⟩)) (fun _ => ex_indexA (b := bu_10) (off := ou_11) (len := m.length) (cap := d) (e := 62) (k := 2) (ik := .i64) (i := (i : Int)) (m := i) hA_12 (by kernel_rfl) (by kernel_rfl) (by omega) (by omega) (by kernel_rfl) (by kernel_rfl)) fun a H => ?_
  refine An.vw H (HP) 7 24 (alV x_9) (fun _ hS => ex_lN (alL x_9) (IsRow.cells altC_size (hs.below (hS.below (by kernel_rfl))) hA_12 hx_13)) fun a H => ?_
  refine An.q H (.inr (HP)) 8 25 (.bool (!(([x_2.1, x_2.2] : List Int) == [x_9.1, x_9.2]))) (fun _ => ex_neL (a := [x_2.1, x_2.2]) (b := [x_9.1, x_9.2]) (by kernel_rfl) (by kernel_rfl) (by kernel_rfl) rfl) fun a H => ?_
  refine An.done (by kernel_rfl) ?_
  refine tn ?_
  refine w_if H rfl (fun g25 => ?_) (fun g25 => ?_)
  ·have g25p := not_is_true g25
   refine sq (rg ?_)
   refine H.v 4 (.bool false) fun a H => ?_
   refine nl (tn (rt (ibr (tr (tr (ibr (tr ?_)))))))
   refine H.r1 (.bool false) Tryz.results55 ?_
   exact ⟨by rw [decide_eq_false (ne_at hx_6 hx_13 (fun e => ne_of_beq_false g25p (alt_eq.2 e)))], HP.bl⟩
  have g25p := not_is_false g25
  refine sk (ibn (tn (rg ?_)))
  refine H.v 15 (ii i) fun a H => H.valE 16 (ii (IntKind.i64.wrap ((i : Int) + 1))) (ii ((i : Int) + 1)) (by kernel_rfl) (by kernel_rfl) ((by rw [wrap_ini64 _ (by omega)])) fun a H => H.v 5 (ii ((i : Int) + 1)) fun a H => ?_
  refine nl (tn ?_)
  have H := H.as 5 (ii ((i + 1 : Nat) : Int)) rfl rfl
  refine ⟨_, ?_, i + 1, rfl, H.keep (by kernel_rfl), HP, (by omega), (take_eq_snoc hrel hx_6 hx_13 (alt_eq.1 (eq_of_beq g25p)))⟩
  omega
 have g14p := of_decide_eq_false g14
 refine wp_exit (then_exit (then_exit ?_))
 refine w_exit_here ?_
 refine tn (sq (rg ?_))
 refine H.v 4 (.bool true) fun a H => ?_
 refine nl (tn (rt ?_))
 refine H.r1 (.bool true) Tryz.results55 ?_
 exact ⟨by rw [decide_eq_true (take_all hrel (by omega) (by omega))], HP.bl⟩
theorem sameE_any (x y : Ent) (w : World) (hx : x.ok w) (hy : y.ok w) : Calls Tryz.prog 45 #[(enV x), (enV y)] w fun e w' => e = .returned (.bool (decide (x.nv = y.nv))) ∧ Below w.heap.size w w' := by
 have HP := Hp.start w
 refine w_enter 52 [(0, (enV x)), (1, (enV y))] Tryz.func45 rfl Tryz.ntmps45 (by kernel_rfl) (by kernel_rfl) fun a H => ?_
 refine sq (rg ?_)
 refine H.al HP 2 43 (enL x) fun b_1 w_2 a H HP => H.al HP 3 43 (enL y) fun b_3 w_4 a H HP => H.v 4 (.bool false) fun a H => ?_
 refine nl (tn (sq (rg ?_)))
 refine H.v 5 (pt b_1 0) fun a H => H.u 6 (ii x.id) (ex_l1 (HP.cell 1 rfl 0 rfl)) fun a H => H.v 7 (pt b_3 0) fun a H => H.u 8 (ii y.id) (ex_l1 (HP.cell 0 rfl 0 rfl)) fun a H => H.v 9 (.bool (x.id == y.id)) fun a H => H.v 10 (.bool (x.id == y.id)) fun a H => ?_
 refine H.split 10 rfl (fun g10 H => ?_) (fun g10 H => ?_)
 ·have g10p := eq_of_beq g10
  refine H.v 11 (pt b_1 1) fun a H => H.u 12 (ii x.item) (ex_l1 (HP.cell 1 rfl 1 rfl)) fun a H => H.v 13 (pt b_3 1) fun a H => H.u 14 (ii y.item) (ex_l1 (HP.cell 0 rfl 1 rfl)) fun a H => H.v 15 (.bool (x.item == y.item)) fun a H => H.v 16 (.bool (x.item == y.item)) fun a H => H.v 17 (.bool (x.item == y.item)) fun a H => ?_
  refine H.split 17 rfl (fun g17 H => ?_) (fun g17 H => ?_)
  ·have g17p := eq_of_beq g17
   refine H.v 18 (pt b_1 2) fun a H => H.u 19 (ii x.frames) (ex_l1 (HP.cell 1 rfl 2 rfl)) fun a H => H.v 20 (pt b_3 2) fun a H => H.u 21 (ii y.frames) (ex_l1 (HP.cell 0 rfl 2 rfl)) fun a H => H.v 22 (.bool (x.frames == y.frames)) fun a H => H.v 23 (.bool (x.frames == y.frames)) fun a H => H.v 24 (.bool (x.frames == y.frames)) fun a H => ?_
   refine H.split 24 rfl (fun g24 H => ?_) (fun g24 H => ?_)
   ·have g24p := eq_of_beq g24
    refine H.v 25 (pt b_1 3) fun a H => H.u 26 (ii x.earliest) (ex_l1 (HP.cell 1 rfl 3 rfl)) fun a H => H.v 27 (pt b_3 3) fun a H => H.u 28 (ii y.earliest) (ex_l1 (HP.cell 0 rfl 3 rfl)) fun a H => H.v 29 (.bool (x.earliest == y.earliest)) fun a H => H.v 30 (.bool (x.earliest == y.earliest)) fun a H => H.v 31 (.bool (x.earliest == y.earliest)) fun a H => ?_
    refine H.split 31 rfl (fun g31 H => ?_) (fun g31 H => ?_)
    ·have g31p := eq_of_beq g31
     refine H.v 32 (pt b_1 4) fun a H => H.u 33 (ii x.latest) (ex_l1 (HP.cell 1 rfl 4 rfl)) fun a H => H.v 34 (pt b_3 4) fun a H => H.u 35 (ii y.latest) (ex_l1 (HP.cell 0 rfl 4 rfl)) fun a H => H.v 36 (.bool (x.latest == y.latest)) fun a H => H.v 37 (.bool (x.latest == y.latest)) fun a H => H.v 38 (.bool (x.latest == y.latest)) fun a H => ?_
     refine H.split 38 rfl (fun g38 H => ?_) (fun g38 H => ?_)
     ·have g38p := eq_of_beq g38
      refine H.v 39 (pt b_1 5) fun a H => H.u 40 (ii x.booking) (ex_l1 (HP.cell 1 rfl 5 rfl)) fun a H => H.v 41 (pt b_3 5) fun a H => H.u 42 (ii y.booking) (ex_l1 (HP.cell 0 rfl 5 rfl)) fun a H => H.v 43 (.bool (x.booking == y.booking)) fun a H => H.v 44 (.bool (x.booking == y.booking)) fun a H => H.v 45 (.bool (x.booking == y.booking)) fun a H => ?_
      refine H.split 45 rfl (fun g45 H => ?_) (fun g45 H => ?_)
      ·have g45p := eq_of_beq g45
       refine H.v 46 (pt b_1 6) fun a H => H.u 47 (.slice x.A x.al.length x.c) (ex_l1 (HP.cell 1 rfl 6 rfl)) fun a H => H.v 48 (pt b_3 6) fun a H => H.u 49 (.slice y.A y.al.length y.c) (ex_l1 (HP.cell 0 rfl 6 rfl)) fun a H => H.cb HP 50 (Tryz.call80 _ _) (eqA_any x.A y.A x.c y.c x.al y.al w_4 (hx.1.below HP.bl) (hy.1.below HP.bl) hx.2 hy.2) fun w_5 hb a H HP => H.v 51 (.bool (decide (x.al = y.al))) fun a H => H.v 4 (.bool (decide (x.al = y.al))) fun a H => ?_
       refine nl (tn (rt ?_))
       refine H.r1 (.bool (decide (x.al = y.al))) Tryz.results45 ?_
       exact ⟨by rw [show decide (x.nv = y.nv) = (decide (x.al = y.al)) from by rw [ent_eqb]; simp [g10, g17, g24, g31, g38, g45]], HP.bl⟩
      have g45p := ne_of_beq_false g45
      iterate 5 refine H.sx rfl fun a H => ?_
      refine H.v 51 (.bool false) fun a H => H.v 4 (.bool false) fun a H => ?_
      refine nl (tn (rt ?_))
      refine H.r1 (.bool false) Tryz.results45 ?_
      exact ⟨by rw [show decide (x.nv = y.nv) = (false) from by rw [ent_eqb]; simp [g10, g17, g24, g31, g38, g45]], HP.bl⟩
     have g38p := ne_of_beq_false g38
     iterate 5 refine H.sx rfl fun a H => ?_
     refine H.v 44 (.bool false) fun a H => H.v 45 (.bool false) fun a H => ?_
     iterate 5 refine H.sx rfl fun a H => ?_
     refine H.v 51 (.bool false) fun a H => H.v 4 (.bool false) fun a H => ?_
     refine nl (tn (rt ?_))
     refine H.r1 (.bool false) Tryz.results45 ?_
     exact ⟨by rw [show decide (x.nv = y.nv) = (false) from by rw [ent_eqb]; simp [g10, g17, g24, g31, g38]], HP.bl⟩
    have g31p := ne_of_beq_false g31
    iterate 5 refine H.sx rfl fun a H => ?_
    refine H.v 37 (.bool false) fun a H => H.v 38 (.bool false) fun a H => ?_
    iterate 5 refine H.sx rfl fun a H => ?_
    refine H.v 44 (.bool false) fun a H => H.v 45 (.bool false) fun a H => ?_
    iterate 5 refine H.sx rfl fun a H => ?_
    refine H.v 51 (.bool false) fun a H => H.v 4 (.bool false) fun a H => ?_
    refine nl (tn (rt ?_))
    refine H.r1 (.bool false) Tryz.results45 ?_
    exact ⟨by rw [show decide (x.nv = y.nv) = (false) from by rw [ent_eqb]; simp [g10, g17, g24, g31]], HP.bl⟩
   have g24p := ne_of_beq_false g24
   iterate 5 refine H.sx rfl fun a H => ?_
   refine H.v 30 (.bool false) fun a H => H.v 31 (.bool false) fun a H => ?_
   iterate 5 refine H.sx rfl fun a H => ?_
   refine H.v 37 (.bool false) fun a H => H.v 38 (.bool false) fun a H => ?_
   iterate 5 refine H.sx rfl fun a H => ?_
   refine H.v 44 (.bool false) fun a H => H.v 45 (.bool false) fun a H => ?_
   iterate 5 refine H.sx rfl fun a H => ?_
   refine H.v 51 (.bool false) fun a H => H.v 4 (.bool false) fun a H => ?_
   refine nl (tn (rt ?_))
   refine H.r1 (.bool false) Tryz.results45 ?_
   exact ⟨by rw [show decide (x.nv = y.nv) = (false) from by rw [ent_eqb]; simp [g10, g17, g24]], HP.bl⟩
  have g17p := ne_of_beq_false g17
  iterate 5 refine H.sx rfl fun a H => ?_
  refine H.v 23 (.bool false) fun a H => H.v 24 (.bool false) fun a H => ?_
  iterate 5 refine H.sx rfl fun a H => ?_
  refine H.v 30 (.bool false) fun a H => H.v 31 (.bool false) fun a H => ?_
  iterate 5 refine H.sx rfl fun a H => ?_
  refine H.v 37 (.bool false) fun a H => H.v 38 (.bool false) fun a H => ?_
  iterate 5 refine H.sx rfl fun a H => ?_
  refine H.v 44 (.bool false) fun a H => H.v 45 (.bool false) fun a H => ?_
  iterate 5 refine H.sx rfl fun a H => ?_
  refine H.v 51 (.bool false) fun a H => H.v 4 (.bool false) fun a H => ?_
  refine nl (tn (rt ?_))
  refine H.r1 (.bool false) Tryz.results45 ?_
  exact ⟨by rw [show decide (x.nv = y.nv) = (false) from by rw [ent_eqb]; simp [g10, g17]], HP.bl⟩
 have g10p := ne_of_beq_false g10
 iterate 5 refine H.sx rfl fun a H => ?_
 refine H.v 16 (.bool false) fun a H => H.v 17 (.bool false) fun a H => ?_
 iterate 5 refine H.sx rfl fun a H => ?_
 refine H.v 23 (.bool false) fun a H => H.v 24 (.bool false) fun a H => ?_
 iterate 5 refine H.sx rfl fun a H => ?_
 refine H.v 30 (.bool false) fun a H => H.v 31 (.bool false) fun a H => ?_
 iterate 5 refine H.sx rfl fun a H => ?_
 refine H.v 37 (.bool false) fun a H => H.v 38 (.bool false) fun a H => ?_
 iterate 5 refine H.sx rfl fun a H => ?_
 refine H.v 44 (.bool false) fun a H => H.v 45 (.bool false) fun a H => ?_
 iterate 5 refine H.sx rfl fun a H => ?_
 refine H.v 51 (.bool false) fun a H => H.v 4 (.bool false) fun a H => ?_
 refine nl (tn (rt ?_))
 refine H.r1 (.bool false) Tryz.results45 ?_
 exact ⟨by rw [show decide (x.nv = y.nv) = (false) from by rw [ent_eqb]; simp [g10]], HP.bl⟩
theorem rsameE_any (x y : Ent) (w : World) (hx : x.ok w) (hy : y.ok w) : Calls Tryz.prog 24 #[(enV x), (enV y)] w fun e w' => e = .returned (.bool (decide (x.nv = y.nv))) ∧ Below w.heap.size w w' := by
 have HP := Hp.start w
 refine w_enter 54 [(0, (enV x)), (1, (enV y))] Tryz.func24 rfl Tryz.ntmps24 (by kernel_rfl) (by kernel_rfl) fun a H => ?_
 refine sq (rg ?_)
 refine H.al HP 2 43 (enL x) fun b_1 w_2 a H HP => H.al HP 3 43 (enL y) fun b_3 w_4 a H HP => H.v 4 (.bool false) fun a H => ?_
 refine nl (tn (sq (rg ?_)))
 refine H.v 6 (pt b_1 6) fun a H => H.u 7 (.slice x.A x.al.length x.c) (ex_l1 (HP.cell 1 rfl 6 rfl)) fun a H => H.v 8 (pt b_3 6) fun a H => H.u 9 (.slice y.A y.al.length y.c) (ex_l1 (HP.cell 0 rfl 6 rfl)) fun a H => H.cb HP 10 (Tryz.call55 _ _) (rsameA_any x.A y.A x.c y.c x.al y.al w_4 (hx.1.below HP.bl) (hy.1.below HP.bl) hx.2 hy.2) fun w_5 hb a H HP => H.v 5 (.bool (decide (x.al = y.al))) fun a H => ?_
 refine nl (tn (sq (rg ?_)))
 refine H.v 11 (.bool (decide (x.al = y.al))) fun a H => H.v 12 (.bool (decide (x.al = y.al))) fun a H => ?_
 refine H.split 12 rfl (fun g12 H => ?_) (fun g12 H => ?_)
 ·have g12p := g12
  refine H.v 13 (pt b_1 0) fun a H => H.u 14 (ii x.id) (ex_l1 (HP.cell 1 rfl 0 rfl)) fun a H => H.v 15 (pt b_3 0) fun a H => H.u 16 (ii y.id) (ex_l1 (HP.cell 0 rfl 0 rfl)) fun a H => H.v 17 (.bool (x.id == y.id)) fun a H => H.v 18 (.bool (x.id == y.id)) fun a H => H.v 19 (.bool (x.id == y.id)) fun a H => ?_
  refine H.split 19 rfl (fun g19 H => ?_) (fun g19 H => ?_)
  ·have g19p := eq_of_beq g19
   refine H.v 20 (pt b_1 1) fun a H => H.u 21 (ii x.item) (ex_l1 (HP.cell 1 rfl 1 rfl)) fun a H => H.v 22 (pt b_3 1) fun a H => H.u 23 (ii y.item) (ex_l1 (HP.cell 0 rfl 1 rfl)) fun a H => H.v 24 (.bool (x.item == y.item)) fun a H => H.v 25 (.bool (x.item == y.item)) fun a H => H.v 26 (.bool (x.item == y.item)) fun a H => ?_
   refine H.split 26 rfl (fun g26 H => ?_) (fun g26 H => ?_)
   ·have g26p := eq_of_beq g26
    refine H.v 27 (pt b_1 2) fun a H => H.u 28 (ii x.frames) (ex_l1 (HP.cell 1 rfl 2 rfl)) fun a H => H.v 29 (pt b_3 2) fun a H => H.u 30 (ii y.frames) (ex_l1 (HP.cell 0 rfl 2 rfl)) fun a H => H.v 31 (.bool (x.frames == y.frames)) fun a H => H.v 32 (.bool (x.frames == y.frames)) fun a H => H.v 33 (.bool (x.frames == y.frames)) fun a H => ?_
    refine H.split 33 rfl (fun g33 H => ?_) (fun g33 H => ?_)
    ·have g33p := eq_of_beq g33
     refine H.v 34 (pt b_1 3) fun a H => H.u 35 (ii x.earliest) (ex_l1 (HP.cell 1 rfl 3 rfl)) fun a H => H.v 36 (pt b_3 3) fun a H => H.u 37 (ii y.earliest) (ex_l1 (HP.cell 0 rfl 3 rfl)) fun a H => H.v 38 (.bool (x.earliest == y.earliest)) fun a H => H.v 39 (.bool (x.earliest == y.earliest)) fun a H => H.v 40 (.bool (x.earliest == y.earliest)) fun a H => ?_
     refine H.split 40 rfl (fun g40 H => ?_) (fun g40 H => ?_)
     ·have g40p := eq_of_beq g40
      refine H.v 41 (pt b_1 4) fun a H => H.u 42 (ii x.latest) (ex_l1 (HP.cell 1 rfl 4 rfl)) fun a H => H.v 43 (pt b_3 4) fun a H => H.u 44 (ii y.latest) (ex_l1 (HP.cell 0 rfl 4 rfl)) fun a H => H.v 45 (.bool (x.latest == y.latest)) fun a H => H.v 46 (.bool (x.latest == y.latest)) fun a H => H.v 47 (.bool (x.latest == y.latest)) fun a H => ?_
      refine H.split 47 rfl (fun g47 H => ?_) (fun g47 H => ?_)
      ·have g47p := eq_of_beq g47
       refine H.v 48 (pt b_1 5) fun a H => H.u 49 (ii x.booking) (ex_l1 (HP.cell 1 rfl 5 rfl)) fun a H => H.v 50 (pt b_3 5) fun a H => H.u 51 (ii y.booking) (ex_l1 (HP.cell 0 rfl 5 rfl)) fun a H => H.v 52 (.bool (x.booking == y.booking)) fun a H => H.v 53 (.bool (x.booking == y.booking)) fun a H => H.v 4 (.bool (x.booking == y.booking)) fun a H => ?_
       refine nl (tn (rt ?_))
       refine H.r1 (.bool (x.booking == y.booking)) Tryz.results24 ?_
       exact ⟨by rw [show decide (x.nv = y.nv) = (x.booking == y.booking) from by rw [ent_eqb]; simp [g12, g19, g26, g33, g40, g47]], HP.bl⟩
      have g47p := ne_of_beq_false g47
      iterate 5 refine H.sx rfl fun a H => ?_
      refine H.v 53 (.bool false) fun a H => H.v 4 (.bool false) fun a H => ?_
      refine nl (tn (rt ?_))
      refine H.r1 (.bool false) Tryz.results24 ?_
      exact ⟨by rw [show decide (x.nv = y.nv) = (false) from by rw [ent_eqb]; simp [g12, g19, g26, g33, g40, g47]], HP.bl⟩
     have g40p := ne_of_beq_false g40
     iterate 5 refine H.sx rfl fun a H => ?_
     refine H.v 46 (.bool false) fun a H => H.v 47 (.bool false) fun a H => ?_
     iterate 5 refine H.sx rfl fun a H => ?_
     refine H.v 53 (.bool false) fun a H => H.v 4 (.bool false) fun a H => ?_
     refine nl (tn (rt ?_))
     refine H.r1 (.bool false) Tryz.results24 ?_
     exact ⟨by rw [show decide (x.nv = y.nv) = (false) from by rw [ent_eqb]; simp [g12, g19, g26, g33, g40]], HP.bl⟩
    have g33p := ne_of_beq_false g33
    iterate 5 refine H.sx rfl fun a H => ?_
    refine H.v 39 (.bool false) fun a H => H.v 40 (.bool false) fun a H => ?_
    iterate 5 refine H.sx rfl fun a H => ?_
    refine H.v 46 (.bool false) fun a H => H.v 47 (.bool false) fun a H => ?_
    iterate 5 refine H.sx rfl fun a H => ?_
    refine H.v 53 (.bool false) fun a H => H.v 4 (.bool false) fun a H => ?_
    refine nl (tn (rt ?_))
    refine H.r1 (.bool false) Tryz.results24 ?_
    exact ⟨by rw [show decide (x.nv = y.nv) = (false) from by rw [ent_eqb]; simp [g12, g19, g26, g33]], HP.bl⟩
   have g26p := ne_of_beq_false g26
   iterate 5 refine H.sx rfl fun a H => ?_
   refine H.v 32 (.bool false) fun a H => H.v 33 (.bool false) fun a H => ?_
   iterate 5 refine H.sx rfl fun a H => ?_
   refine H.v 39 (.bool false) fun a H => H.v 40 (.bool false) fun a H => ?_
   iterate 5 refine H.sx rfl fun a H => ?_
   refine H.v 46 (.bool false) fun a H => H.v 47 (.bool false) fun a H => ?_
   iterate 5 refine H.sx rfl fun a H => ?_
   refine H.v 53 (.bool false) fun a H => H.v 4 (.bool false) fun a H => ?_
   refine nl (tn (rt ?_))
   refine H.r1 (.bool false) Tryz.results24 ?_
   exact ⟨by rw [show decide (x.nv = y.nv) = (false) from by rw [ent_eqb]; simp [g12, g19, g26]], HP.bl⟩
  have g19p := ne_of_beq_false g19
  iterate 5 refine H.sx rfl fun a H => ?_
  refine H.v 25 (.bool false) fun a H => H.v 26 (.bool false) fun a H => ?_
  iterate 5 refine H.sx rfl fun a H => ?_
  refine H.v 32 (.bool false) fun a H => H.v 33 (.bool false) fun a H => ?_
  iterate 5 refine H.sx rfl fun a H => ?_
  refine H.v 39 (.bool false) fun a H => H.v 40 (.bool false) fun a H => ?_
  iterate 5 refine H.sx rfl fun a H => ?_
  refine H.v 46 (.bool false) fun a H => H.v 47 (.bool false) fun a H => ?_
  iterate 5 refine H.sx rfl fun a H => ?_
  refine H.v 53 (.bool false) fun a H => H.v 4 (.bool false) fun a H => ?_
  refine nl (tn (rt ?_))
  refine H.r1 (.bool false) Tryz.results24 ?_
  exact ⟨by rw [show decide (x.nv = y.nv) = (false) from by rw [ent_eqb]; simp [g12, g19]], HP.bl⟩
 have g12p := g12
 iterate 5 refine H.sx rfl fun a H => ?_
 refine H.v 18 (.bool false) fun a H => H.v 19 (.bool false) fun a H => ?_
 iterate 5 refine H.sx rfl fun a H => ?_
 refine H.v 25 (.bool false) fun a H => H.v 26 (.bool false) fun a H => ?_
 iterate 5 refine H.sx rfl fun a H => ?_
 refine H.v 32 (.bool false) fun a H => H.v 33 (.bool false) fun a H => ?_
 iterate 5 refine H.sx rfl fun a H => ?_
 refine H.v 39 (.bool false) fun a H => H.v 40 (.bool false) fun a H => ?_
 iterate 5 refine H.sx rfl fun a H => ?_
 refine H.v 46 (.bool false) fun a H => H.v 47 (.bool false) fun a H => ?_
 iterate 5 refine H.sx rfl fun a H => ?_
 refine H.v 53 (.bool false) fun a H => H.v 4 (.bool false) fun a H => ?_
 refine nl (tn (rt ?_))
 refine H.r1 (.bool false) Tryz.results24 ?_
 exact ⟨by rw [show decide (x.nv = y.nv) = (false) from by rw [ent_eqb]; simp [g12]], HP.bl⟩
theorem eqF_any (A B : Option Addr) (c d : Nat) (l m : List Ent) (w : World) (hr : IsEn w A l) (hs : IsEn w B m) (hl : l.length ≤ maxLen) (hm : m.length ≤ maxLen) : Calls Tryz.prog 44 #[.slice A l.length c, .slice B m.length d, .func (.func 45) #[] #[]] w fun e w' => e = .returned (.bool (decide (l.map Ent.nv = m.map Ent.nv))) ∧ Below w.heap.size w w' := by
 unfold maxLen at hl hm
 have HP := Hp.start w
 refine w_enter 32 [(0, (.slice A l.length c)), (1, (.slice B m.length d)), (2, (.func (.func 45) #[] #[]))] Tryz.func44 rfl Tryz.ntmps44 (by kernel_rfl) (by kernel_rfl) fun a H => ?_
 refine sq (rg ?_)
 refine H.v 6 (.bool false) fun a H => ?_
 refine nl (tn (sq (sq (rg ?_))))
 refine H.v 10 (.slice A l.length c) fun a H => H.v 11 (ii l.length) fun a H => H.v 12 (.slice B m.length d) fun a H => H.v 13 (ii m.length) fun a H => H.v 14 (.bool ((l.length : Int) != (m.length : Int))) fun a H => ?_
 refine nl (tn ?_)
 refine w_if H rfl (fun g14 => ?_) (fun g14 => ?_)
 ·have g14p := bne_iff_ne.1 g14
  refine sq (rg ?_)
  refine H.v 6 (.bool false) fun a H => ?_
  refine nl (tn (rt (tr ?_)))
  refine H.r1 (.bool false) Tryz.results44 ?_
  exact ⟨by rw [decide_eq_false (fun e => by have := congrArg List.length e; rw [List.length_map, List.length_map] at this; omega)], HP.bl⟩
 have g14p := eq_of_bne_false g14
 refine sk (tn (sq (sq (rg ?_))))
 refine H.v 15 (.slice A l.length c) fun a H => H.v 16 (ii l.length) fun a H => H.v 17 (ii 0) fun a H => ?_
 refine nl (tn (bk ?_))
 refine w_loop (fun mm a wv => ∃ (i : Nat), l.length - i = mm ∧ Sl 32 [(17, (ii i)), (16, (ii l.length)), (15, (.slice A l.length c)), (14, (.bool ((l.length : Int) != (m.length : Int)))), (13, (ii m.length)), (12, (.slice B m.length d)), (11, (ii l.length)), (10, (.slice A l.length c)), (0, (.slice A l.length c)), (1, (.slice B m.length d)), (2, (.func (.func 45) #[] #[]))] a ∧ Hp w wv [] [] ∧ (i ≤ l.length) ∧ ((l.map Ent.nv).take i = (m.map Ent.nv).take i)) (l.length - 0) ?_ ?_
 ·exact ⟨0, (by omega), H.keep (by kernel_rfl), HP, (Nat.zero_le _), rfl⟩
 rintro mm a w_1 ⟨i, hmeas, H, HP, hib, hrel⟩
 refine sq (rg ?_)
 refine H.v 18 (.bool (decide ((i : Int) < (l.length : Int)))) fun a H => ?_
 refine nl (tn (sq ?_))
 refine w_if H rfl (fun g18 => ?_) (fun g18 => ?_)
 ·have g18p := of_decide_eq_true g18
  refine sk (tn (sq (bk (sq ?_))))
  obtain ⟨bu_3, ou_4, x_2, hA_5, _, hd_7, hx_6, hm_8, _⟩ := IsRow.get enC_size (hr.below HP.bl).row (i := i) (by omega)
  refine rg ?_
  refine H.v 19 (ii i) fun a H => H.u 20 (.pointer (some ⟨bu_3, ou_4 + i * 7, none⟩)) (ex_indexA (b := bu_3) (off := ou_4) (len := l.length) (cap := c) (e := 43) (k := 7) (ik := .i64) (i := (i : Int)) (m := i) hA_5 (by kernel_rfl) (by kernel_rfl) (by omega) (by omega) (by kernel_rfl) (by kernel_rfl)) fun a H => H.u 21 (enV x_2) (ex_lN (enL x_2) (IsRow.cells enC_size (hr.below HP.bl).row hA_5 hx_6)) fun a H => H.al HP 8 43 [(ii 0), (ii 0), (ii 0), (ii 0), (ii 0), (ii 0), (.slice none 0 0)] fun b_9 w_10 a H HP => H.v 7 (ii i) fun a H => H.st HP 0 b_9 0 7 43 true (enV x_2) [bx b_9 43 (enL x_2) true] rfl fun w_11 a H HP => ?_
  refine nl (tn (sq ?_))
  obtain ⟨bu_13, ou_14, x_12, hA_15, _, hd_17, hx_16, hm_18, _⟩ := IsRow.get enC_size (hs.below HP.bl).row (i := i) (by omega)
  refine rg ?_
  refine H.v 22 (.slice B m.length d) fun a H => H.v 23 (ii i) fun a H => H.u 24 (.pointer (some ⟨bu_13, ou_14 + i * 7, none⟩)) (ex_indexA (b := bu_13) (off := ou_14) (len := m.length) (cap := d) (e := 43) (k := 7) (ik := .i64) (i := (i : Int)) (m := i) hA_15 (by kernel_rfl) (by kernel_rfl) (by omega) (by omega) (by kernel_rfl) (by kernel_rfl)) fun a H => H.u 25 (enV x_12) (ex_lN (enL x_12) (IsRow.cells enC_size (hs.below HP.bl).row hA_15 hx_16)) fun a H => H.al HP 9 43 [(ii 0), (ii 0), (ii 0), (ii 0), (ii 0), (ii 0), (.slice none 0 0)] fun b_19 w_20 a H HP => H.st HP 0 b_19 0 7 43 true (enV x_12) [bx b_19 43 (enL x_12) true, bx b_9 43 (enL x_2) true] rfl fun w_21 a H HP => ?_
  refine nl (tn (sq (rg ?_)))
  refine H.v 26 (.func (.func 45) #[] #[]) fun a H => H.u 27 (enV x_2) (ex_lN (enL x_2) (HP.cells 1 rfl 0 7 (by kernel_rfl))) fun a H => H.u 28 (enV x_12) (ex_lN (enL x_12) (HP.cells 0 rfl 0 7 (by kernel_rfl))) fun a H => H.cb HP 29 (Tryz.call45 _ _) (sameE_any x_2 x_12 w_21 ((hr.below HP.bl).ok _ hm_8) ((hs.below HP.bl).ok _ hm_18)) fun w_22 hb a H HP => H.v 30 (.bool (!(decide (x_2.nv = x_12.nv)))) fun a H => ?_
  refine nl (tn ?_)
  refine w_if H rfl (fun g30 => ?_) (fun g30 => ?_)
  ·have g30p := not_is_true g30
   refine sq (rg ?_)
   refine H.v 6 (.bool false) fun a H => ?_
   refine nl (tn (rt (ibr (tr (tr (ibr (tr ?_)))))))
   refine H.r1 (.bool false) Tryz.results44 ?_
   exact ⟨by rw [decide_eq_false (ne_at (map_at hx_6) (map_at hx_16) (of_decide_eq_false g30p))], HP.bl⟩
  have g30p := not_is_false g30
  refine sk (ibn (tn (rg ?_)))
  refine H.valE 31 (ii (IntKind.i64.wrap ((i : Int) + 1))) (ii ((i : Int) + 1)) (by kernel_rfl) (by kernel_rfl) ((by rw [wrap_ini64 _ (by omega)])) fun a H => H.v 17 (ii ((i : Int) + 1)) fun a H => ?_
  refine nl (tn ?_)
  have H := H.as 17 (ii ((i + 1 : Nat) : Int)) rfl rfl
  refine ⟨_, ?_, i + 1, rfl, H.keep (by kernel_rfl), ((HP.tail rfl).tail rfl), (by omega), (take_eq_snoc hrel (map_at hx_6) (map_at hx_16) (of_decide_eq_true g30p))⟩
  omega
 have g18p := of_decide_eq_false g18
 refine wp_exit (then_exit (then_exit ?_))
 refine w_exit_here ?_
 refine tn (sq (rg ?_))
 refine H.v 6 (.bool true) fun a H => ?_
 refine nl (tn (rt ?_))
 refine H.r1 (.bool true) Tryz.results44 ?_
 exact ⟨by rw [decide_eq_true (take_all hrel (by rw [List.length_map]; omega) (by rw [List.length_map, List.length_map]; omega))], HP.bl⟩
theorem same_any (p q : Pln) (w : World) (hp : IsPln w p) (hq : IsPln w q) : Calls Tryz.prog 16 #[(plV p), (plV q)] w fun e w' => e = .returned (.bool (decide (p.nv = q.nv))) ∧ Below w.heap.size w w' := by
 have HP := Hp.start w
 refine w_enter 91 [(0, (plV p)), (1, (plV q))] Tryz.func16 rfl Tryz.ntmps16 (by kernel_rfl) (by kernel_rfl) fun a H => ?_
 refine sq (rg ?_)
 refine H.al HP 2 32 (plL p) fun b_1 w_2 a H HP => H.al HP 3 32 (plL q) fun b_3 w_4 a H HP => H.v 4 (.bool false) fun a H => ?_
 refine nl (tn (sq (rg ?_)))
 refine H.v 5 (pt b_1 0) fun a H => H.u 6 (ii p.channel) (ex_l1 (HP.cell 1 rfl 0 rfl)) fun a H => H.v 7 (pt b_3 0) fun a H => H.u 8 (ii q.channel) (ex_l1 (HP.cell 0 rfl 0 rfl)) fun a H => H.v 9 (.bool (p.channel == q.channel)) fun a H => H.v 10 (.bool (p.channel == q.channel)) fun a H => ?_
 refine H.split 10 rfl (fun g10 H => ?_) (fun g10 H => ?_)
 ·have g10p := eq_of_beq g10
  refine H.v 11 (pt b_1 1) fun a H => H.u 12 (.agg #[(ii p.num), (ii p.den)]) (ex_lN [(ii p.num), (ii p.den)] (HP.cells 1 rfl 1 2 (by kernel_rfl))) fun a H => H.v 13 (pt b_3 1) fun a H => H.u 14 (.agg #[(ii q.num), (ii q.den)]) (ex_lN [(ii q.num), (ii q.den)] (HP.cells 0 rfl 1 2 (by kernel_rfl))) fun a H => H.u 15 (.bool (([p.num, p.den] : List Int) == [q.num, q.den])) (ex_eqL (a := [p.num, p.den]) (b := [q.num, q.den]) (by kernel_rfl) (by kernel_rfl) (by kernel_rfl) rfl) fun a H => H.v 16 (.bool (([p.num, p.den] : List Int) == [q.num, q.den])) fun a H => H.v 17 (.bool (([p.num, p.den] : List Int) == [q.num, q.den])) fun a H => ?_
  refine H.split 17 rfl (fun g17 H => ?_) (fun g17 H => ?_)
  ·have g17p := eq_of_beq g17
   refine H.v 18 (pt b_1 3) fun a H => H.v 19 (pt b_1 3) fun a H => H.u 20 (ii p.offset) (ex_l1 (HP.cell 1 rfl 3 rfl)) fun a H => H.v 21 (pt b_3 3) fun a H => H.v 22 (pt b_3 3) fun a H => H.u 23 (ii q.offset) (ex_l1 (HP.cell 0 rfl 3 rfl)) fun a H => H.v 24 (.bool (p.offset == q.offset)) fun a H => H.v 25 (.bool (p.offset == q.offset)) fun a H => H.v 26 (.bool (p.offset == q.offset)) fun a H => ?_
   refine H.split 26 rfl (fun g26 H => ?_) (fun g26 H => ?_)
   ·have g26p := eq_of_beq g26
    refine H.v 27 (pt b_1 5) fun a H => H.u 28 (ii p.epoch) (ex_l1 (HP.cell 1 rfl 5 rfl)) fun a H => H.v 29 (pt b_3 5) fun a H => H.u 30 (ii q.epoch) (ex_l1 (HP.cell 0 rfl 5 rfl)) fun a H => H.v 31 (.bool (p.epoch == q.epoch)) fun a H => H.v 32 (.bool (p.epoch == q.epoch)) fun a H => H.v 33 (.bool (p.epoch == q.epoch)) fun a H => ?_
    refine H.split 33 rfl (fun g33 H => ?_) (fun g33 H => ?_)
    ·have g33p := eq_of_beq g33
     refine H.v 34 (pt b_1 6) fun a H => H.u 35 (ii p.regions) (ex_l1 (HP.cell 1 rfl 6 rfl)) fun a H => H.v 36 (pt b_3 6) fun a H => H.u 37 (ii q.regions) (ex_l1 (HP.cell 0 rfl 6 rfl)) fun a H => H.v 38 (.bool (p.regions == q.regions)) fun a H => H.v 39 (.bool (p.regions == q.regions)) fun a H => H.v 40 (.bool (p.regions == q.regions)) fun a H => ?_
     refine H.split 40 rfl (fun g40 H => ?_) (fun g40 H => ?_)
     ·have g40p := eq_of_beq g40
      refine H.v 41 (pt b_1 7) fun a H => H.u 42 (ii p.length) (ex_l1 (HP.cell 1 rfl 7 rfl)) fun a H => H.v 43 (pt b_3 7) fun a H => H.u 44 (ii q.length) (ex_l1 (HP.cell 0 rfl 7 rfl)) fun a H => H.v 45 (.bool (p.length == q.length)) fun a H => H.v 46 (.bool (p.length == q.length)) fun a H => H.v 47 (.bool (p.length == q.length)) fun a H => ?_
      refine H.split 47 rfl (fun g47 H => ?_) (fun g47 H => ?_)
      ·have g47p := eq_of_beq g47
       refine H.v 48 (pt b_1 8) fun a H => H.u 49 (ii p.fill) (ex_l1 (HP.cell 1 rfl 8 rfl)) fun a H => H.v 50 (pt b_3 8) fun a H => H.u 51 (ii q.fill) (ex_l1 (HP.cell 0 rfl 8 rfl)) fun a H => H.v 52 (.bool (p.fill == q.fill)) fun a H => H.v 53 (.bool (p.fill == q.fill)) fun a H => H.v 54 (.bool (p.fill == q.fill)) fun a H => ?_
       refine H.split 54 rfl (fun g54 H => ?_) (fun g54 H => ?_)
       ·have g54p := eq_of_beq g54
        refine H.v 55 (pt b_1 3) fun a H => H.v 56 (pt b_1 4) fun a H => H.u 57 (.slice p.SA p.sh.length p.sc) (ex_l1 (HP.cell 1 rfl 4 rfl)) fun a H => H.v 58 (pt b_3 3) fun a H => H.v 59 (pt b_3 4) fun a H => H.u 60 (.slice q.SA q.sh.length q.sc) (ex_l1 (HP.cell 0 rfl 4 rfl)) fun a H => H.cb HP 61 (Tryz.call42 _ _) (eqS_any p.SA q.SA p.sc q.sc p.sh q.sh w_4 (hp.sh.below HP.bl) (hq.sh.below HP.bl) hp.lsh hq.lsh) fun w_5 hb a H HP => H.v 62 (.bool (decide (p.sh = q.sh))) fun a H => H.v 63 (.bool (decide (p.sh = q.sh))) fun a H => ?_
        refine H.split 63 rfl (fun g63 H => ?_) (fun g63 H => ?_)
        ·have g63p := g63
         refine H.v 64 (pt b_1 9) fun a H => H.u 65 (.slice p.IA p.its.length p.ic) (ex_l1 (HP.cell 1 rfl 9 rfl)) fun a H => H.v 66 (pt b_3 9) fun a H => H.u 67 (.slice q.IA q.its.length q.ic) (ex_l1 (HP.cell 0 rfl 9 rfl)) fun a H => H.cb HP 68 (Tryz.call43 _ _) (eqI_any p.IA q.IA p.ic q.ic p.its q.its w_5 (hp.its.below HP.bl) (hq.its.below HP.bl) hp.lits hq.lits) fun w_6 hb a H HP => H.v 69 (.bool (decide (p.its = q.its))) fun a H => H.v 70 (.bool (decide (p.its = q.its))) fun a H => ?_
         refine H.split 70 rfl (fun g70 H => ?_) (fun g70 H => ?_)
         ·have g70p := g70
          refine H.v 71 (pt b_1 10) fun a H => H.u 72 (.slice p.EA p.es.length p.ec) (ex_l1 (HP.cell 1 rfl 10 rfl)) fun a H => H.v 73 (pt b_3 10) fun a H => H.u 74 (.slice q.EA q.es.length q.ec) (ex_l1 (HP.cell 0 rfl 10 rfl)) fun a H => H.cb HP 75 (Tryz.call44 _ _) (eqF_any p.EA q.EA p.ec q.ec p.es q.es w_6 (hp.es.below HP.bl) (hq.es.below HP.bl) hp.les hq.les) fun w_7 hb a H HP => H.v 76 (.bool (decide (p.es.map Ent.nv = q.es.map Ent.nv))) fun a H => H.v 77 (.bool (decide (p.es.map Ent.nv = q.es.map Ent.nv))) fun a H => ?_
          refine H.split 77 rfl (fun g77 H => ?_) (fun g77 H => ?_)
          ·have g77p := g77
           refine H.v 78 (pt b_1 11) fun a H => H.u 79 (.slice p.BA p.bs.length p.bc) (ex_l1 (HP.cell 1 rfl 11 rfl)) fun a H => H.v 80 (pt b_3 11) fun a H => H.u 81 (.slice q.BA q.bs.length q.bc) (ex_l1 (HP.cell 0 rfl 11 rfl)) fun a H => H.cb HP 82 (Tryz.call46 _ _) (eqB_any p.BA q.BA p.bc q.bc p.bs q.bs w_7 (hp.bs.below HP.bl) (hq.bs.below HP.bl) hp.lbs hq.lbs) fun w_8 hb a H HP => H.v 83 (.bool (decide (p.bs = q.bs))) fun a H => H.v 84 (.bool (decide (p.bs = q.bs))) fun a H => ?_
           refine H.split 84 rfl (fun g84 H => ?_) (fun g84 H => ?_)
           ·have g84p := g84
            refine H.v 85 (pt b_1 12) fun a H => H.u 86 (.slice p.CA p.cs.length p.cc) (ex_l1 (HP.cell 1 rfl 12 rfl)) fun a H => H.v 87 (pt b_3 12) fun a H => H.u 88 (.slice q.CA q.cs.length q.cc) (ex_l1 (HP.cell 0 rfl 12 rfl)) fun a H => H.cb HP 89 (Tryz.call47 _ _) (eqC_any p.CA q.CA p.cc q.cc p.cs q.cs w_8 (hp.cs.below HP.bl) (hq.cs.below HP.bl) hp.lcs hq.lcs) fun w_9 hb a H HP => H.v 90 (.bool (decide (p.cs = q.cs))) fun a H => H.v 4 (.bool (decide (p.cs = q.cs))) fun a H => ?_
            refine nl (tn (rt ?_))
            refine H.r1 (.bool (decide (p.cs = q.cs))) Tryz.results16 ?_
            exact ⟨by rw [show decide (p.nv = q.nv) = (decide (p.cs = q.cs)) from by rw [pln_eqb]; simp only [g10, g17, g26, g33, g40, g47, g54, g63, g70, g77, g84, Bool.true_and, Bool.and_true, Bool.false_and, Bool.and_false]], HP.bl⟩
           have g84p := g84
           iterate 5 refine H.sx rfl fun a H => ?_
           refine H.v 90 (.bool false) fun a H => H.v 4 (.bool false) fun a H => ?_
           refine nl (tn (rt ?_))
           refine H.r1 (.bool false) Tryz.results16 ?_
           exact ⟨by rw [show decide (p.nv = q.nv) = (false) from by rw [pln_eqb]; simp only [g10, g17, g26, g33, g40, g47, g54, g63, g70, g77, g84, Bool.true_and, Bool.and_true, Bool.false_and, Bool.and_false]], HP.bl⟩
          have g77p := g77
          iterate 5 refine H.sx rfl fun a H => ?_
          refine H.v 83 (.bool false) fun a H => H.v 84 (.bool false) fun a H => ?_
          iterate 5 refine H.sx rfl fun a H => ?_
          refine H.v 90 (.bool false) fun a H => H.v 4 (.bool false) fun a H => ?_
          refine nl (tn (rt ?_))
          refine H.r1 (.bool false) Tryz.results16 ?_
          exact ⟨by rw [show decide (p.nv = q.nv) = (false) from by rw [pln_eqb]; simp only [g10, g17, g26, g33, g40, g47, g54, g63, g70, g77, Bool.true_and, Bool.and_true, Bool.false_and, Bool.and_false]], HP.bl⟩
         have g70p := g70
         iterate 5 refine H.sx rfl fun a H => ?_
         refine H.v 76 (.bool false) fun a H => H.v 77 (.bool false) fun a H => ?_
         iterate 5 refine H.sx rfl fun a H => ?_
         refine H.v 83 (.bool false) fun a H => H.v 84 (.bool false) fun a H => ?_
         iterate 5 refine H.sx rfl fun a H => ?_
         refine H.v 90 (.bool false) fun a H => H.v 4 (.bool false) fun a H => ?_
         refine nl (tn (rt ?_))
         refine H.r1 (.bool false) Tryz.results16 ?_
         exact ⟨by rw [show decide (p.nv = q.nv) = (false) from by rw [pln_eqb]; simp only [g10, g17, g26, g33, g40, g47, g54, g63, g70, Bool.true_and, Bool.and_true, Bool.false_and, Bool.and_false]], HP.bl⟩
        have g63p := g63
        iterate 5 refine H.sx rfl fun a H => ?_
        refine H.v 69 (.bool false) fun a H => H.v 70 (.bool false) fun a H => ?_
        iterate 5 refine H.sx rfl fun a H => ?_
        refine H.v 76 (.bool false) fun a H => H.v 77 (.bool false) fun a H => ?_
        iterate 5 refine H.sx rfl fun a H => ?_
        refine H.v 83 (.bool false) fun a H => H.v 84 (.bool false) fun a H => ?_
        iterate 5 refine H.sx rfl fun a H => ?_
        refine H.v 90 (.bool false) fun a H => H.v 4 (.bool false) fun a H => ?_
        refine nl (tn (rt ?_))
        refine H.r1 (.bool false) Tryz.results16 ?_
        exact ⟨by rw [show decide (p.nv = q.nv) = (false) from by rw [pln_eqb]; simp only [g10, g17, g26, g33, g40, g47, g54, g63, Bool.true_and, Bool.and_true, Bool.false_and, Bool.and_false]], HP.bl⟩
       have g54p := ne_of_beq_false g54
       iterate 7 refine H.sx rfl fun a H => ?_
       refine H.v 62 (.bool false) fun a H => H.v 63 (.bool false) fun a H => ?_
       iterate 5 refine H.sx rfl fun a H => ?_
       refine H.v 69 (.bool false) fun a H => H.v 70 (.bool false) fun a H => ?_
       iterate 5 refine H.sx rfl fun a H => ?_
       refine H.v 76 (.bool false) fun a H => H.v 77 (.bool false) fun a H => ?_
       iterate 5 refine H.sx rfl fun a H => ?_
       refine H.v 83 (.bool false) fun a H => H.v 84 (.bool false) fun a H => ?_
       iterate 5 refine H.sx rfl fun a H => ?_
       refine H.v 90 (.bool false) fun a H => H.v 4 (.bool false) fun a H => ?_
       refine nl (tn (rt ?_))
       refine H.r1 (.bool false) Tryz.results16 ?_
       exact ⟨by rw [show decide (p.nv = q.nv) = (false) from by rw [pln_eqb]; simp only [g10, g17, g26, g33, g40, g47, g54, Bool.true_and, Bool.and_true, Bool.false_and, Bool.and_false]], HP.bl⟩
      have g47p := ne_of_beq_false g47
      iterate 5 refine H.sx rfl fun a H => ?_
      refine H.v 53 (.bool false) fun a H => H.v 54 (.bool false) fun a H => ?_
      iterate 7 refine H.sx rfl fun a H => ?_
      refine H.v 62 (.bool false) fun a H => H.v 63 (.bool false) fun a H => ?_
      iterate 5 refine H.sx rfl fun a H => ?_
      refine H.v 69 (.bool false) fun a H => H.v 70 (.bool false) fun a H => ?_
      iterate 5 refine H.sx rfl fun a H => ?_
      refine H.v 76 (.bool false) fun a H => H.v 77 (.bool false) fun a H => ?_
      iterate 5 refine H.sx rfl fun a H => ?_
      refine H.v 83 (.bool false) fun a H => H.v 84 (.bool false) fun a H => ?_
      iterate 5 refine H.sx rfl fun a H => ?_
      refine H.v 90 (.bool false) fun a H => H.v 4 (.bool false) fun a H => ?_
      refine nl (tn (rt ?_))
      refine H.r1 (.bool false) Tryz.results16 ?_
      exact ⟨by rw [show decide (p.nv = q.nv) = (false) from by rw [pln_eqb]; simp only [g10, g17, g26, g33, g40, g47, Bool.true_and, Bool.and_true, Bool.false_and, Bool.and_false]], HP.bl⟩
     have g40p := ne_of_beq_false g40
     iterate 5 refine H.sx rfl fun a H => ?_
     refine H.v 46 (.bool false) fun a H => H.v 47 (.bool false) fun a H => ?_
     iterate 5 refine H.sx rfl fun a H => ?_
     refine H.v 53 (.bool false) fun a H => H.v 54 (.bool false) fun a H => ?_
     iterate 7 refine H.sx rfl fun a H => ?_
     refine H.v 62 (.bool false) fun a H => H.v 63 (.bool false) fun a H => ?_
     iterate 5 refine H.sx rfl fun a H => ?_
     refine H.v 69 (.bool false) fun a H => H.v 70 (.bool false) fun a H => ?_
     iterate 5 refine H.sx rfl fun a H => ?_
     refine H.v 76 (.bool false) fun a H => H.v 77 (.bool false) fun a H => ?_
     iterate 5 refine H.sx rfl fun a H => ?_
     refine H.v 83 (.bool false) fun a H => H.v 84 (.bool false) fun a H => ?_
     iterate 5 refine H.sx rfl fun a H => ?_
     refine H.v 90 (.bool false) fun a H => H.v 4 (.bool false) fun a H => ?_
     refine nl (tn (rt ?_))
     refine H.r1 (.bool false) Tryz.results16 ?_
     exact ⟨by rw [show decide (p.nv = q.nv) = (false) from by rw [pln_eqb]; simp only [g10, g17, g26, g33, g40, Bool.true_and, Bool.and_true, Bool.false_and, Bool.and_false]], HP.bl⟩
    have g33p := ne_of_beq_false g33
    iterate 5 refine H.sx rfl fun a H => ?_
    refine H.v 39 (.bool false) fun a H => H.v 40 (.bool false) fun a H => ?_
    iterate 5 refine H.sx rfl fun a H => ?_
    refine H.v 46 (.bool false) fun a H => H.v 47 (.bool false) fun a H => ?_
    iterate 5 refine H.sx rfl fun a H => ?_
    refine H.v 53 (.bool false) fun a H => H.v 54 (.bool false) fun a H => ?_
    iterate 7 refine H.sx rfl fun a H => ?_
    refine H.v 62 (.bool false) fun a H => H.v 63 (.bool false) fun a H => ?_
    iterate 5 refine H.sx rfl fun a H => ?_
    refine H.v 69 (.bool false) fun a H => H.v 70 (.bool false) fun a H => ?_
    iterate 5 refine H.sx rfl fun a H => ?_
    refine H.v 76 (.bool false) fun a H => H.v 77 (.bool false) fun a H => ?_
    iterate 5 refine H.sx rfl fun a H => ?_
    refine H.v 83 (.bool false) fun a H => H.v 84 (.bool false) fun a H => ?_
    iterate 5 refine H.sx rfl fun a H => ?_
    refine H.v 90 (.bool false) fun a H => H.v 4 (.bool false) fun a H => ?_
    refine nl (tn (rt ?_))
    refine H.r1 (.bool false) Tryz.results16 ?_
    exact ⟨by rw [show decide (p.nv = q.nv) = (false) from by rw [pln_eqb]; simp only [g10, g17, g26, g33, Bool.true_and, Bool.and_true, Bool.false_and, Bool.and_false]], HP.bl⟩
   have g26p := ne_of_beq_false g26
   iterate 5 refine H.sx rfl fun a H => ?_
   refine H.v 32 (.bool false) fun a H => H.v 33 (.bool false) fun a H => ?_
   iterate 5 refine H.sx rfl fun a H => ?_
   refine H.v 39 (.bool false) fun a H => H.v 40 (.bool false) fun a H => ?_
   iterate 5 refine H.sx rfl fun a H => ?_
   refine H.v 46 (.bool false) fun a H => H.v 47 (.bool false) fun a H => ?_
   iterate 5 refine H.sx rfl fun a H => ?_
   refine H.v 53 (.bool false) fun a H => H.v 54 (.bool false) fun a H => ?_
   iterate 7 refine H.sx rfl fun a H => ?_
   refine H.v 62 (.bool false) fun a H => H.v 63 (.bool false) fun a H => ?_
   iterate 5 refine H.sx rfl fun a H => ?_
   refine H.v 69 (.bool false) fun a H => H.v 70 (.bool false) fun a H => ?_
   iterate 5 refine H.sx rfl fun a H => ?_
   refine H.v 76 (.bool false) fun a H => H.v 77 (.bool false) fun a H => ?_
   iterate 5 refine H.sx rfl fun a H => ?_
   refine H.v 83 (.bool false) fun a H => H.v 84 (.bool false) fun a H => ?_
   iterate 5 refine H.sx rfl fun a H => ?_
   refine H.v 90 (.bool false) fun a H => H.v 4 (.bool false) fun a H => ?_
   refine nl (tn (rt ?_))
   refine H.r1 (.bool false) Tryz.results16 ?_
   exact ⟨by rw [show decide (p.nv = q.nv) = (false) from by rw [pln_eqb]; simp only [g10, g17, g26, Bool.true_and, Bool.and_true, Bool.false_and, Bool.and_false]], HP.bl⟩
  have g17p := ne_of_beq_false g17
  iterate 7 refine H.sx rfl fun a H => ?_
  refine H.v 25 (.bool false) fun a H => H.v 26 (.bool false) fun a H => ?_
  iterate 5 refine H.sx rfl fun a H => ?_
  refine H.v 32 (.bool false) fun a H => H.v 33 (.bool false) fun a H => ?_
  iterate 5 refine H.sx rfl fun a H => ?_
  refine H.v 39 (.bool false) fun a H => H.v 40 (.bool false) fun a H => ?_
  iterate 5 refine H.sx rfl fun a H => ?_
  refine H.v 46 (.bool false) fun a H => H.v 47 (.bool false) fun a H => ?_
  iterate 5 refine H.sx rfl fun a H => ?_
  refine H.v 53 (.bool false) fun a H => H.v 54 (.bool false) fun a H => ?_
  iterate 7 refine H.sx rfl fun a H => ?_
  refine H.v 62 (.bool false) fun a H => H.v 63 (.bool false) fun a H => ?_
  iterate 5 refine H.sx rfl fun a H => ?_
  refine H.v 69 (.bool false) fun a H => H.v 70 (.bool false) fun a H => ?_
  iterate 5 refine H.sx rfl fun a H => ?_
  refine H.v 76 (.bool false) fun a H => H.v 77 (.bool false) fun a H => ?_
  iterate 5 refine H.sx rfl fun a H => ?_
  refine H.v 83 (.bool false) fun a H => H.v 84 (.bool false) fun a H => ?_
  iterate 5 refine H.sx rfl fun a H => ?_
  refine H.v 90 (.bool false) fun a H => H.v 4 (.bool false) fun a H => ?_
  refine nl (tn (rt ?_))
  refine H.r1 (.bool false) Tryz.results16 ?_
  exact ⟨by rw [show decide (p.nv = q.nv) = (false) from by rw [pln_eqb]; simp only [g10, g17, Bool.true_and, Bool.and_true, Bool.false_and, Bool.and_false]], HP.bl⟩
 have g10p := ne_of_beq_false g10
 iterate 5 refine H.sx rfl fun a H => ?_
 refine H.v 16 (.bool false) fun a H => H.v 17 (.bool false) fun a H => ?_
 iterate 7 refine H.sx rfl fun a H => ?_
 refine H.v 25 (.bool false) fun a H => H.v 26 (.bool false) fun a H => ?_
 iterate 5 refine H.sx rfl fun a H => ?_
 refine H.v 32 (.bool false) fun a H => H.v 33 (.bool false) fun a H => ?_
 iterate 5 refine H.sx rfl fun a H => ?_
 refine H.v 39 (.bool false) fun a H => H.v 40 (.bool false) fun a H => ?_
 iterate 5 refine H.sx rfl fun a H => ?_
 refine H.v 46 (.bool false) fun a H => H.v 47 (.bool false) fun a H => ?_
 iterate 5 refine H.sx rfl fun a H => ?_
 refine H.v 53 (.bool false) fun a H => H.v 54 (.bool false) fun a H => ?_
 iterate 7 refine H.sx rfl fun a H => ?_
 refine H.v 62 (.bool false) fun a H => H.v 63 (.bool false) fun a H => ?_
 iterate 5 refine H.sx rfl fun a H => ?_
 refine H.v 69 (.bool false) fun a H => H.v 70 (.bool false) fun a H => ?_
 iterate 5 refine H.sx rfl fun a H => ?_
 refine H.v 76 (.bool false) fun a H => H.v 77 (.bool false) fun a H => ?_
 iterate 5 refine H.sx rfl fun a H => ?_
 refine H.v 83 (.bool false) fun a H => H.v 84 (.bool false) fun a H => ?_
 iterate 5 refine H.sx rfl fun a H => ?_
 refine H.v 90 (.bool false) fun a H => H.v 4 (.bool false) fun a H => ?_
 refine nl (tn (rt ?_))
 refine H.r1 (.bool false) Tryz.results16 ?_
 exact ⟨by rw [show decide (p.nv = q.nv) = (false) from by rw [pln_eqb]; simp only [g10, Bool.true_and, Bool.and_true, Bool.false_and, Bool.and_false]], HP.bl⟩
end Go.Proofs.YteeillphhiaopaaGreatDoor
namespace Go.Proofs.YteeillphhiaopaaGreatDoor
set_option maxRecDepth 100000
set_option maxHeartbeats 4000000
open Go.ChangeShapes Go.WideShapes Go.ChangeAt Go.RowKit
set_option linter.unusedVariables false
set_option linter.unusedSimpArgs false
theorem alt_ones (l : Alts) : ∀ u ∈ flat altC l, u.oneCell' = true := by
 intro u hu
 simp only [flat, List.mem_flatMap] at hu
 obtain ⟨a, _, ha⟩ := hu
 simp only [altC, List.mem_cons, List.not_mem_nil, or_false] at ha
 rcases ha with rfl | rfl <;> rfl
theorem gE_ok {w : World} {A : Option Addr} {l : List Ent} (h : IsEn w A l) (k : Int) : (gE l k).ok w := by
 unfold gE fE
 cases hf : l.find? fun x => x.id == k with
 | none => exact ⟨IsRow.nil _ _, Nat.zero_le _⟩
 | some x => exact h.ok x (List.mem_of_find?_eq_some hf)
def alK (B : Option Addr) (al : Alts) : FK := ⟨rowFp al.length B, fun w => IsAl w B al⟩
theorem alK_ok (B : Option Addr) (al : Alts) : (alK B al).ok := fun _ _ h hk hs => IsRow.keep h hk hs
theorem clone_nil (c : Nat) (al : Alts) (w : World) (hr : IsAl w none al) (hl : al.length ≤ maxLen) (hb8 : al.length ≤ 1000000000) : Calls Tryz.prog 52 #[.slice none al.length c] w fun e w' => ∃ B cc, e = .returned (.slice B al.length cc) ∧ IsAl w' B al ∧ (∀ k, rowFp al.length B k → w.heap.size ≤ k) ∧ Below w.heap.size w w' := by
 have hn : al.length = 0 := hr.2.elim id (fun ⟨_, _, h, _⟩ => by cases h)
 skip
 have HP := Hp.start w
 refine w_enter 8 [(0, (.slice none al.length c))] Tryz.func52 rfl Tryz.ntmps52 (by kernel_rfl) (by kernel_rfl) fun a H => ?_
 refine sq (rg ?_)
 refine H.v 2 (.slice none 0 0) fun a H => ?_
 refine nl (tn (sq (sq (rg ?_))))
 refine H.v 3 (.slice none al.length c) fun a H => H.v 4 (.bool true) fun a H => ?_
 refine nl (tn ?_)
 refine w_ift H rfl ?_
 refine sq (rg ?_)
 refine H.v 2 (.slice none 0 0) fun a H => ?_
 refine nl (tn (rt (tr ?_)))
 refine H.r1 (.slice none 0 0) Tryz.results52 ?_
 exact ⟨none, 0, by rw [hn], by rw [List.length_eq_zero_iff.1 hn]; exact IsRow.nil _ _, (fun k hk => by have := hk.1; omega), HP.bl⟩
theorem clone_some (q : Addr) (c : Nat) (al : Alts) (w : World) (hr : IsAl w (some q) al) (hl : al.length ≤ maxLen) (hb8 : al.length ≤ 1000000000) : Calls Tryz.prog 52 #[.slice (some q) al.length c] w fun e w' => ∃ B cc, e = .returned (.slice B al.length cc) ∧ IsAl w' B al ∧ (∀ k, rowFp al.length B k → w.heap.size ≤ k) ∧ Below w.heap.size w w' := by
 have HP := Hp.start w
 refine w_enter 8 [(0, (.slice (some q) al.length c))] Tryz.func52 rfl Tryz.ntmps52 (by kernel_rfl) (by kernel_rfl) fun a H => ?_
 refine sq (rg ?_)
 refine H.v 2 (.slice none 0 0) fun a H => ?_
 refine nl (tn (sq (sq (rg ?_))))
 refine H.v 3 (.slice (some q) al.length c) fun a H => H.v 4 (.bool false) fun a H => ?_
 refine nl (tn ?_)
 refine w_iff H rfl ?_
 refine sk (tn (sq (rg ?_)))
 refine H.alloc HP 5 (fun b => (.slice (some ⟨b, 0, none⟩) 0 0)) 62 [] (by kernel_rfl) (fun w => by kernel_rfl) fun b_1 w_2 a H HP => H.v 6 (.slice (some q) al.length c) fun a H => ?_
 have hrd : Rd w_2 2 (some q) al.length (flat altC al) := hr.below HP.bl
 refine H.pushAll HP 7 0 (bb := b_1) (z := .agg #[.int .i64 0, .int .i64 0]) (e := 62) (size := 2) (bytes := 16) (m := al.length) (c := c) (A := some q) (cs := altC) al (by kernel_rfl) (by kernel_rfl) (by kernel_rfl) rfl (by kernel_rfl) (by kernel_rfl) (by kernel_rfl) (fun h => by cases h) rfl rfl hrd (alt_ones _) hl (by omega) fun BB cc w_3 a H HP => ?_
 have HP : Hp w w_3 [(rowsR w.heap.size 62 2 altC (fun _ _ => True) (fun _ _ => False) (.slice BB al.length cc) al)] [] := HP
 refine H.v 2 (.slice BB al.length cc) fun a H => ?_
 refine nl (tn (rt ?_))
 refine H.r1 (.slice BB al.length cc) Tryz.results52 ?_
 exact ⟨_, _, rfl, Rd.of_own (HP.held 0 rfl).1, (fun k hk => by obtain ⟨_, off, rfl⟩ := hk; exact (own_lt (HP.held 0 rfl).1 k rfl).2), HP.bl⟩
theorem clone_any (A : Option Addr) (c : Nat) (al : Alts) (w : World) (hr : IsAl w A al) (hl : al.length ≤ maxLen) (hb8 : al.length ≤ 1000000000) : Calls Tryz.prog 52 #[.slice A al.length c] w fun e w' => ∃ B cc, e = .returned (.slice B al.length cc) ∧ IsAl w' B al ∧ (∀ k, rowFp al.length B k → w.heap.size ≤ k) ∧ Below w.heap.size w w' := by
 cases A with
 | none => exact clone_nil c al w hr hl hb8
 | some q => exact clone_some q c al w hr hl hb8
theorem entry_any (p : Pln) (k : Int) (w : World) (hpl : IsPln w p) (hal : (gE p.es k).al.length ≤ 1000000000) : Calls Tryz.prog 20 #[(plV p), .int .i64 k] w fun e w' => ∃ B cc, e = .returned (.tuple #[(.agg #[(ii ((gE p.es k).id)), (ii ((gE p.es k).item)), (ii ((gE p.es k).frames)), (ii ((gE p.es k).earliest)), (ii ((gE p.es k).latest)), (ii ((gE p.es k).booking)), (.slice B ((gE p.es k).al.length) cc)]), .bool (hE p.es k)]) ∧ (IsAl w' B (gE p.es k).al ∧ ∀ j, rowFp (gE p.es k).al.length B j → w.heap.size ≤ j) ∧ Below w.heap.size w w' := by
 have hok := gE_ok hpl.es k
 have HP := Hp.start w
 refine w_enter 21 [(0, (plV p)), (1, (ii k))] Tryz.func20 rfl Tryz.ntmps20 (by kernel_rfl) (by kernel_rfl) fun a H => ?_
 refine sq (rg ?_)
 refine H.al HP 2 32 (plL p) fun b_1 w_2 a H HP => H.al HP 4 43 [(ii 0), (ii 0), (ii 0), (ii 0), (ii 0), (ii 0), (.slice none 0 0)] fun b_3 w_4 a H HP => H.v 5 (.bool false) fun a H => ?_
 refine nl (tn (sq (rg ?_)))
 refine H.v 9 (pt b_1 10) fun a H => H.u 10 (.slice p.EA p.es.length p.ec) (ex_l1 (HP.cell 1 rfl 10 rfl)) fun a H => H.v 11 (ii k) fun a H => H.cb HP 12 (Tryz.call50 _ _) (findE_any p.EA p.ec p.es k w_4 (hpl.es.row.below HP.bl) hpl.les) fun w_5 hb a H HP => H.v 8 (.tuple #[(.agg #[(ii ((gE p.es k).id)), (ii ((gE p.es k).item)), (ii ((gE p.es k).frames)), (ii ((gE p.es k).earliest)), (ii ((gE p.es k).latest)), (ii ((gE p.es k).booking)), (.slice ((gE p.es k).A) ((gE p.es k).al.length) ((gE p.es k).c))]), (.bool (hE p.es k))]) fun a H => H.v 13 (.agg #[(ii ((gE p.es k).id)), (ii ((gE p.es k).item)), (ii ((gE p.es k).frames)), (ii ((gE p.es k).earliest)), (ii ((gE p.es k).latest)), (ii ((gE p.es k).booking)), (.slice ((gE p.es k).A) ((gE p.es k).al.length) ((gE p.es k).c))]) fun a H => H.v 14 (.bool (hE p.es k)) fun a H => H.al HP 6 43 [(ii 0), (ii 0), (ii 0), (ii 0), (ii 0), (ii 0), (.slice none 0 0)] fun b_6 w_7 a H HP => H.st HP 0 b_6 0 7 43 true (.agg #[(ii ((gE p.es k).id)), (ii ((gE p.es k).item)), (ii ((gE p.es k).frames)), (ii ((gE p.es k).earliest)), (ii ((gE p.es k).latest)), (ii ((gE p.es k).booking)), (.slice ((gE p.es k).A) ((gE p.es k).al.length) ((gE p.es k).c))]) [bx b_6 43 [(ii ((gE p.es k).id)), (ii ((gE p.es k).item)), (ii ((gE p.es k).frames)), (ii ((gE p.es k).earliest)), (ii ((gE p.es k).latest)), (ii ((gE p.es k).booking)), (.slice ((gE p.es k).A) ((gE p.es k).al.length) ((gE p.es k).c))] true, bx b_3 43 [(ii 0), (ii 0), (ii 0), (ii 0), (ii 0), (ii 0), (.slice none 0 0)] true, bx b_1 32 (plL p) true] rfl fun w_8 a H HP => H.v 7 (.bool (hE p.es k)) fun a H => ?_
 refine nl (tn (sq (rg ?_)))
 refine H.v 15 (pt b_6 6) fun a H => H.u 16 (.slice ((gE p.es k).A) ((gE p.es k).al.length) ((gE p.es k).c)) (ex_l1 (HP.cell 0 rfl 6 rfl)) fun a H => ?_
 have hlt0 := HP.lt
 have hsz := HP.size
 refine H.cl 17 (Tryz.call52 _ _) (clone_any (gE p.es k).A (gE p.es k).c (gE p.es k).al w_8 (hok.1.below HP.bl) hok.2 hal) ?_
 rintro e w_9 ⟨B, cc, rfl, hBr, hnew, hb⟩
 refine ⟨_, rfl, ?_⟩
 intro a H
 have HP := HP.next hb
 have HP := HP.keepF (alK B (gE p.es k).al) hBr (alK_ok _ _) (fun k hk => ⟨hBr.lt k hk, fun x hx hxk => by have h1 := hlt0 x hx k hxk; have h2 := hnew k hk; omega⟩)
 refine H.v 18 (pt b_6 6) fun a H => H.st HP 0 b_6 6 1 43 true (.slice B ((gE p.es k).al.length) cc) [bx b_6 43 [(ii ((gE p.es k).id)), (ii ((gE p.es k).item)), (ii ((gE p.es k).frames)), (ii ((gE p.es k).earliest)), (ii ((gE p.es k).latest)), (ii ((gE p.es k).booking)), (.slice B ((gE p.es k).al.length) cc)] true, bx b_3 43 [(ii 0), (ii 0), (ii 0), (ii 0), (ii 0), (ii 0), (.slice none 0 0)] true, bx b_1 32 (plL p) true] rfl fun w_10 a H HP => ?_
 refine nl (tn (sq (rg ?_)))
 refine H.u 19 (.agg #[(ii ((gE p.es k).id)), (ii ((gE p.es k).item)), (ii ((gE p.es k).frames)), (ii ((gE p.es k).earliest)), (ii ((gE p.es k).latest)), (ii ((gE p.es k).booking)), (.slice B ((gE p.es k).al.length) cc)]) (ex_lN [(ii ((gE p.es k).id)), (ii ((gE p.es k).item)), (ii ((gE p.es k).frames)), (ii ((gE p.es k).earliest)), (ii ((gE p.es k).latest)), (ii ((gE p.es k).booking)), (.slice B ((gE p.es k).al.length) cc)] (HP.cells 0 rfl 0 7 (by kernel_rfl))) fun a H => H.v 20 (.bool (hE p.es k)) fun a H => H.st HP 1 b_3 0 7 43 true (.agg #[(ii ((gE p.es k).id)), (ii ((gE p.es k).item)), (ii ((gE p.es k).frames)), (ii ((gE p.es k).earliest)), (ii ((gE p.es k).latest)), (ii ((gE p.es k).booking)), (.slice B ((gE p.es k).al.length) cc)]) [bx b_6 43 [(ii ((gE p.es k).id)), (ii ((gE p.es k).item)), (ii ((gE p.es k).frames)), (ii ((gE p.es k).earliest)), (ii ((gE p.es k).latest)), (ii ((gE p.es k).booking)), (.slice B ((gE p.es k).al.length) cc)] true, bx b_3 43 [(ii ((gE p.es k).id)), (ii ((gE p.es k).item)), (ii ((gE p.es k).frames)), (ii ((gE p.es k).earliest)), (ii ((gE p.es k).latest)), (ii ((gE p.es k).booking)), (.slice B ((gE p.es k).al.length) cc)] true, bx b_1 32 (plL p) true] rfl fun w_11 a H HP => H.v 5 (.bool (hE p.es k)) fun a H => ?_
 refine nl (tn (rt ?_))
 refine H.ret2 (fn := Tryz.f20) Tryz.results20 (RV.cellN (vs := [(ii ((gE p.es k).id)), (ii ((gE p.es k).item)), (ii ((gE p.es k).frames)), (ii ((gE p.es k).earliest)), (ii ((gE p.es k).latest)), (ii ((gE p.es k).booking)), (.slice B ((gE p.es k).al.length) cc)]) (b := b_3) (off := 0) (k := 7) (by kernel_rfl) (by kernel_rfl) (by kernel_rfl) rfl (HP.cells 1 rfl 0 7 (by kernel_rfl))) (RV.tmp_ (v := (.bool (hE p.es k))) (by kernel_rfl)) ?_
 exact ⟨B, cc, rfl, ⟨HP.fact 0 rfl, fun k hk => Nat.le_trans hsz (hnew k hk)⟩, HP.bl⟩
end Go.Proofs.YteeillphhiaopaaGreatDoor
namespace Go.Proofs.YteeillphhiaopaaGreatDoor
set_option maxRecDepth 100000
set_option maxHeartbeats 4000000
open Go.ChangeShapes Go.WideShapes Go.ChangeAt Go.RowKit
set_option linter.unusedVariables false
set_option linter.unusedSimpArgs false
theorem wint_none (s : List UInt8) (k : Nat) (w : World) (hl : s.length ≤ 1000000) (hk : k ≤ s.length) (hR : rdInt s k = none) :
    Calls Tryz.prog 134 #[.string (bstr s), .int .i64 ((k : Nat) : Int)] w fun e w' => e = .returned (.tuple #[.int .i64 0, .int .i64 0, .int .i64 10]) ∧ Below w.heap.size w w' := by
  refine (wint_any (bstr s) k w (by rw [bstr_size]; omega) (by rw [bstr_size]; exact hk)).mono ?_
  rintro e w' ⟨rfl, rfl⟩
  refine ⟨?_, Below.refl _ _⟩
  rw [show (bstr s).data.toList = s by simp, hR]
  rfl
theorem wint_some (s : List UInt8) (k : Nat) (w : World) (hl : s.length ≤ 1000000) (hk : k ≤ s.length) (n : Int) (k1 : Nat) (hR : rdInt s k = some (n, k1)) :
    Calls Tryz.prog 134 #[.string (bstr s), .int .i64 ((k : Nat) : Int)] w fun e w' => e = .returned (.tuple #[.int .i64 n, .int .i64 ((k1 : Nat) : Int), .int .i64 0]) ∧ Below w.heap.size w w' := by
  refine (wint_any (bstr s) k w (by rw [bstr_size]; omega) (by rw [bstr_size]; exact hk)).mono ?_
  rintro e w' ⟨rfl, rfl⟩
  refine ⟨?_, Below.refl _ _⟩
  rw [show (bstr s).data.toList = s by simp, hR]
  rfl
def rC (s : List UInt8) (k : Nat) : List Value := [.string (bstr s), .int .i64 ((k : Nat) : Int)]
abbrev pan (a0 a1 : Addr) (E : Int) : List PanicEntry := panicOf (if E = 10 then a0 else a1)
theorem Hp.own2 {w : World} {b c t u : Nat} {vs us : List Value} (h : Box w b t vs.toArray) (h' : Box w c u us.toArray) (hne : b ≠ c) : Hp w w [bx b t vs false, bx c u us false] [] :=
  (Hp.own h').add (bx b t vs false) h (bx_ok _ _ _ _) (fun k hk => by cases hk; exact h.lt) (fun k hk => ⟨fun y hy hyk => by rcases List.mem_singleton.1 hy with rfl; cases hk; exact hne hyk, fun _ h => by cases h⟩) fun h => by cases h
theorem Hp.grow {w0 w : World} {L : List HB} {K : List FK} (H : Hp w0 w L K) (i : Nat) {x : HB} (hi : L[i]? = some x) (x' : HB) (L' : List HB) (hL : L.set i x' = L') (hF : x'.F w) (hok : x'.ok) (hall : ∀ k, x.fp k → x'.fp k)
    (hnew : ∀ k, x'.fp k → x.fp k ∨ (w0.heap.size ≤ k ∧ k < w.heap.size ∧ (∀ y ∈ L, ¬ y.fp k) ∧ ∀ q ∈ K, ¬ q.fp k)) (hfr : x'.fresh = x.fresh) : Hp w0 w L' K := by
  subst hL
  have hm := mem_set H.apart (x' := x') hi
  have hxm := List.mem_of_getElem? hi
  have hil := (List.getElem?_eq_some_iff.1 hi).1
  have hx'm : x' ∈ L.set i x' := List.mem_iff_getElem?.2 ⟨i, by rw [List.getElem?_set]; simp [hil]⟩
  have hback : ∀ y ∈ L, y = x ∨ y ∈ L.set i x' := by
    intro y hy
    obtain ⟨k, hk⟩ := List.mem_iff_getElem?.1 hy
    by_cases e : i = k
    · subst e; rw [hi] at hk; cases hk; exact .inl rfl
    · exact .inr (List.mem_iff_getElem?.2 ⟨k, by rw [List.getElem?_set_ne e]; exact hk⟩)
  have hnot : ∀ y ∈ L, ∀ k, x'.fp k → y.fp k → x.fp k := fun y hy k hk hy' => (hnew k hk).resolve_right fun h => h.2.2.1 y hy hy'
  refine ⟨H.os, H.tape, H.output, H.size, fun k hk hn => ?_, fun y hy => ?_, ?_, fun y hy hfy k hk => ?_, fun p hp => ?_⟩
  · have hx : ¬ x.fp k := fun h => hn x' hx'm (hall k h)
    refine H.old k hk fun y hy => ?_
    rcases hback y hy with rfl | hy
    · exact hx
    · exact hn y hy
  · rcases hm y hy with rfl | ⟨hy, hne⟩
    · exact ⟨hF, hok, fun k hk => by
        rcases hnew k hk with h | h
        · exact (H.res x hxm).2.2 k h
        · exact h.2.1⟩
    · exact H.res y hy
  · exact pairwise_set H.apart hi (fun z hz h k hk hk' => h k hk (hnot z hz k hk' hk)) (fun z hz h k hk hk' => h k (hnot z hz k hk hk') hk')
  · rcases hm y hy with rfl | ⟨hy, _⟩
    · rcases hnew k hk with h | h
      · exact H.fresh x hxm (hfr ▸ hfy) k h
      · exact h.1
    · exact H.fresh y hy hfy k hk
  · obtain ⟨k1, k2, k3⟩ := H.kept p hp
    refine ⟨k1, k2, fun k hk => ⟨(k3 k hk).1, fun y hy hy' => ?_⟩⟩
    rcases hm y hy with rfl | ⟨hy, _⟩
    · rcases hnew k hy' with h | h
      · exact (k3 k hk).2 x hxm h
      · exact h.2.2.2 p hp hk
    · exact (k3 k hk).2 y hy hy'
theorem box_ptr {w : World} {sb t i o tb : Nat} {os : List Nat} (h : Box w sb t (os.map (fun o => Value.pointer (some ⟨tb, o, none⟩))).toArray) (ho : os[i]? = some o) : w.cell? ⟨sb, 0 + i * 1, none⟩ = some (.pointer (some ⟨tb, o, none⟩)) := by
  refine h.cell ?_
  rw [Nat.zero_add, Nat.mul_one]
  simp [ho]
def NumPost (a0 a1 : Addr) (s : List UInt8) (k rb : Nat) (w : World) (e : Ending) (w' : World) : Prop :=
  Agree w w' (fun j => j = rb) ∧ ((rdInt s k = none ∧ e = .panicked (pan a0 a1 10) ∧ Box w' rb 103 (rC s k).toArray) ∨ (∃ n k1, rdInt s k = some (n, k1) ∧ k1 ≤ s.length ∧ e = .returned (.int .i64 n) ∧ Box w' rb 103 (rC s k1).toArray))
def NumsPost (a0 a1 : Addr) (s : List UInt8) (k rb tb ty : Nat) (us : List Value) (os : List Nat) (w : World) (e : Ending) (w' : World) : Prop :=
  Agree w w' (fun j => j = rb ∨ j = tb) ∧ ((∃ (k1 : Nat) (us1 : List Value), rdN s os.length k = .error 10 ∧ k1 ≤ s.length ∧ e = .panicked (pan a0 a1 10) ∧ Box w' rb 103 (rC s k1).toArray ∧ Box w' tb ty us1.toArray ∧ us1.length = us.length) ∨
    (∃ l k1, rdN s os.length k = .ok (l, k1) ∧ k1 ≤ s.length ∧ l.length = os.length ∧ e = .returned (.tuple #[]) ∧ Box w' rb 103 (rC s k1).toArray ∧ Box w' tb ty (putAt us os l).toArray))
theorem Agree.only {w w' : World} {b : Nat} (h : w.grownBy w' (some b)) : Agree w w' (fun j => j = b) := Agree.of_grown h fun k e => (Option.some.inj e).symm
theorem Hp.changed1 {w0 w w' : World} {L : List HB} {K : List FK} (H : Hp w0 w L K) (i : Nat) {b t : Nat} {vs : List Value} {f : Bool} (hi : L[i]? = some (bx b t vs f)) (vs' : List Value) (L' : List HB) (hL : L.set i (bx b t vs' f) = L') (hag : Agree w w' (fun k => k = b)) (h1 : Box w' b t vs'.toArray) : Hp w0 w' L' K :=
  H.mut i hi (bx b t vs' f) _ hL hag h1 (bx_ok _ _ _ _) (fun k hk => by cases hk; exact h1.lt) (fun k hk => .inl hk) (fun k _ hk => hk) rfl
end Go.Proofs.YteeillphhiaopaaGreatDoor
namespace Go.Proofs.YteeillphhiaopaaGreatDoor
set_option maxRecDepth 100000
set_option maxHeartbeats 4000000
open Go.ChangeShapes Go.WideShapes Go.ChangeAt Go.RowKit
set_option linter.unusedVariables false
set_option linter.unusedSimpArgs false
theorem number_none (a0 a1 : Addr) (s : List UInt8) (k rb : Nat) (w : World) (hL : LaidP a0 a1 w) (hsep : ∀ j, lpFp a0 a1 j → j ≠ rb) (h : Box w rb 103 (rC s k).toArray) (hl : s.length ≤ 1000000) (hk : k ≤ s.length) (hR : rdInt s k = none) : Calls Tryz.prog 128 #[.pointer (some ⟨rb, 0, none⟩)] w (NumPost a0 a1 s k rb w) := by
 have HP : Hp w w [bx rb 103 [.string (bstr s), .int .i64 (k : Int)] false] [laidK a0 a1] := (Hp.own h).keepF (laidK a0 a1) hL (laidK_ok _ _) (fun j hj => ⟨hL.lt j hj, by simpa [bx] using hsep j hj⟩)
 refine w_enter 27 [(0, (pt rb 0))] Tryz.func128 rfl Tryz.ntmps128 (by kernel_rfl) (by kernel_rfl) fun a H => ?_
 refine sq (rg ?_)
 refine H.v 2 (ii 0) fun a H => ?_
 refine nl (tn (sq ?_))
 refine An.start (fun v => Hp w v [bx rb 103 [(.string (bstr s)), (ii k)] false] [laidK a0 a1]) 16 16 HP wide_follows rfl fun w_1 HP => ?_
 refine An.p H (.inr HP) 0 7 (pt rb 0) fun a H => ?_
 refine An.p H (.inr HP) 1 8 (pt rb 0) fun a H => ?_
 refine An.p H (.inr HP) 2 9 (pt rb 0) fun a H => ?_
 refine An.vw H (HP) 3 10 (.string (bstr s)) (fun _ hS => ex_l1 (hS.cell 0 rfl 0 rfl)) fun a H => ?_
 refine An.p H (.inr HP) 4 11 (pt rb 0) fun a H => ?_
 refine An.p H (.inr HP) 5 12 (pt rb 0) fun a H => ?_
 refine An.p H (.inr HP) 6 13 (pt rb 1) fun a H => ?_
 refine An.vw H (HP) 7 14 (ii k) (fun _ hS => ex_l1 (hS.cell 0 rfl 1 rfl)) fun a H => ?_
 refine An.one 8 (by kernel_rfl) ?_
 refine Op.call H 15 rfl (by kernel_rfl) (Eq.trans (by kernel_rfl : _ = (callFunc 134 #[(.string (bstr s)), (ii k)]).run Tryz.prog w_1) (Tryz.call134 _ _)) (wint_none s k w_1 hl hk hR) ?_
 rintro e w_2 ⟨rfl, hb⟩
 refine ⟨_, rfl, ?_⟩
 intro a H
 have HP := HP.next hb
 refine ⟨.inr (HP), ?_⟩
 refine An.p H (.inr HP) 9 6 (.tuple #[(ii 0), (ii 0), (ii 10)]) fun a H => ?_
 refine An.p H (.inr HP) 10 16 (ii 0) fun a H => ?_
 refine An.p H (.inr HP) 11 17 (ii 0) fun a H => ?_
 refine An.p H (.inr HP) 12 18 (ii 10) fun a H => ?_
 refine An.p H (.inr HP) 13 3 (ii 0) fun a H => ?_
 refine An.p H (.inr HP) 14 4 (ii 0) fun a H => ?_
 refine An.p H (.inr HP) 15 5 (ii 10) fun a H => ?_
 refine An.done (by kernel_rfl) ?_
 refine tn (sq (sq (rg ?_)))
 refine H.v 19 (ii 10) fun a H => H.v 20 (.bool true) fun a H => ?_
 refine nl (tn ?_)
 refine w_ift H rfl ?_
 refine rg ?_
 refine H.u 21 (.iface 212 (.pointer (some a0))) (ex_l1 ((HP.fact 0 rfl : LaidP a0 a1 _).c0)) fun a H => ?_
 refine H.panic0 (v := (.iface 212 (.pointer (some a0)))) (w' := w_2) (by kernel_rfl) (by kernel_rfl) ?_
 refine then_panic ?_
 refine H.endP ?_
 exact ⟨HP.agree _ (by simp [bx]), .inl ⟨hR, rfl, HP.at_ 0 rfl⟩⟩
theorem number_some (a0 a1 : Addr) (s : List UInt8) (k rb : Nat) (w : World) (hL : LaidP a0 a1 w) (hsep : ∀ j, lpFp a0 a1 j → j ≠ rb) (h : Box w rb 103 (rC s k).toArray) (hl : s.length ≤ 1000000) (hk : k ≤ s.length) (n : Int) (k1 : Nat) (hR : rdInt s k = some (n, k1)) : Calls Tryz.prog 128 #[.pointer (some ⟨rb, 0, none⟩)] w (NumPost a0 a1 s k rb w) := by
 have HP : Hp w w [bx rb 103 [.string (bstr s), .int .i64 (k : Int)] false] [laidK a0 a1] := (Hp.own h).keepF (laidK a0 a1) hL (laidK_ok _ _) (fun j hj => ⟨hL.lt j hj, by simpa [bx] using hsep j hj⟩)
 refine w_enter 27 [(0, (pt rb 0))] Tryz.func128 rfl Tryz.ntmps128 (by kernel_rfl) (by kernel_rfl) fun a H => ?_
 refine sq (rg ?_)
 refine H.v 2 (ii 0) fun a H => ?_
 refine nl (tn (sq ?_))
 refine An.start (fun v => Hp w v [bx rb 103 [(.string (bstr s)), (ii k)] false] [laidK a0 a1]) 16 16 HP wide_follows rfl fun w_1 HP => ?_
 refine An.p H (.inr HP) 0 7 (pt rb 0) fun a H => ?_
 refine An.p H (.inr HP) 1 8 (pt rb 0) fun a H => ?_
 refine An.p H (.inr HP) 2 9 (pt rb 0) fun a H => ?_
 refine An.vw H (HP) 3 10 (.string (bstr s)) (fun _ hS => ex_l1 (hS.cell 0 rfl 0 rfl)) fun a H => ?_
 refine An.p H (.inr HP) 4 11 (pt rb 0) fun a H => ?_
 refine An.p H (.inr HP) 5 12 (pt rb 0) fun a H => ?_
 refine An.p H (.inr HP) 6 13 (pt rb 1) fun a H => ?_
 refine An.vw H (HP) 7 14 (ii k) (fun _ hS => ex_l1 (hS.cell 0 rfl 1 rfl)) fun a H => ?_
 refine An.one 8 (by kernel_rfl) ?_
 refine Op.call H 15 rfl (by kernel_rfl) (Eq.trans (by kernel_rfl : _ = (callFunc 134 #[(.string (bstr s)), (ii k)]).run Tryz.prog w_1) (Tryz.call134 _ _)) (wint_some s k w_1 hl hk n k1 hR) ?_
 rintro e w_2 ⟨rfl, hb⟩
 refine ⟨_, rfl, ?_⟩
 intro a H
 have HP := HP.next hb
 refine ⟨.inr (HP), ?_⟩
 refine An.p H (.inr HP) 9 6 (.tuple #[(ii n), (ii k1), (ii 0)]) fun a H => ?_
 refine An.p H (.inr HP) 10 16 (ii n) fun a H => ?_
 refine An.p H (.inr HP) 11 17 (ii k1) fun a H => ?_
 refine An.p H (.inr HP) 12 18 (ii 0) fun a H => ?_
 refine An.p H (.inr HP) 13 3 (ii n) fun a H => ?_
 refine An.p H (.inr HP) 14 4 (ii k1) fun a H => ?_
 refine An.p H (.inr HP) 15 5 (ii 0) fun a H => ?_
 refine An.done (by kernel_rfl) ?_
 refine tn (sq (sq (rg ?_)))
 refine H.v 19 (ii 0) fun a H => H.v 20 (.bool false) fun a H => ?_
 refine nl (tn ?_)
 refine w_iff H rfl ?_
 refine sk (tn (sq (rg ?_)))
 refine H.v 22 (pt rb 0) fun a H => H.v 23 (ii k1) fun a H => H.v 24 (pt rb 0) fun a H => H.v 25 (pt rb 1) fun a H => H.st HP 0 rb 1 1 103 false (ii k1) [bx rb 103 [(.string (bstr s)), (ii k1)] false] rfl fun w_3 a H HP => ?_
 refine nl (tn (sq (rg ?_)))
 refine H.v 26 (ii n) fun a H => H.v 2 (ii n) fun a H => ?_
 refine nl (tn (rt ?_))
 refine H.r1 (ii n) Tryz.results128 ?_
 exact ⟨HP.agree _ (by simp [bx]), .inr ⟨n, k1, hR, (rdInt_lt hk hR).2, rfl, HP.at_ 0 rfl⟩⟩
theorem number_any (a0 a1 : Addr) (s : List UInt8) (k rb : Nat) (w : World) (hL : LaidP a0 a1 w) (hsep : ∀ j, lpFp a0 a1 j → j ≠ rb) (h : Box w rb 103 (rC s k).toArray) (hl : s.length ≤ 1000000) (hk : k ≤ s.length) : Calls Tryz.prog 128 #[.pointer (some ⟨rb, 0, none⟩)] w (NumPost a0 a1 s k rb w) := by
 cases hR : rdInt s k with
 | none => exact number_none a0 a1 s k rb w hL hsep h hl hk hR
 | some p => exact number_some a0 a1 s k rb w hL hsep h hl hk p.1 p.2 hR
theorem numbers_any (a0 a1 : Addr) (s : List UInt8) (k rb tb ty sb : Nat) (us : List Value) (os : List Nat) (w : World) (hL : LaidP a0 a1 w) (hsep : ∀ j, lpFp a0 a1 j → j ≠ rb ∧ j ≠ tb) (h : Box w rb 103 (rC s k).toArray) (ht : Box w tb ty us.toArray) (hsb : Box w sb 150 (os.map (fun o => Value.pointer (some ⟨tb, o, none⟩))).toArray) (hne : rb ≠ tb) (hs : sb ≠ rb ∧ sb ≠ tb) (hos : ∀ o ∈ os, o < us.length) (hom : os.length ≤ 100) (hl : s.length ≤ 1000000) (hk : k ≤ s.length) :
  Calls Tryz.prog 99 #[.pointer (some ⟨rb, 0, none⟩), .slice (some ⟨sb, 0, none⟩) os.length os.length] w (NumsPost a0 a1 s k rb tb ty us os w) := by
 have HP0 : Hp w w [bx rb 103 (rC s k) false, bx tb ty (putAt us os []) false] [] := by rw [show putAt us os [] = us by cases os <;> rfl]; exact Hp.own2 h ht hne
 have HP : Hp w w [bx rb 103 (rC s k) false, bx tb ty (putAt us os []) false] [boxK sb 150 (os.map (fun o => Value.pointer (some ⟨tb, o, none⟩))), laidK a0 a1] :=
  (HP0.keepF (laidK a0 a1) hL (laidK_ok _ _) (fun j hj => ⟨hL.lt j hj, by simpa [bx] using hsep j hj⟩)).keepF _ hsb (boxK_ok _ _ _) (fun j hj => ⟨by cases hj; exact hsb.lt, by cases hj; simpa [bx] using hs⟩)
 refine w_enter 17 [(0, (pt rb 0)), (1, (.slice (some ⟨sb, 0, none⟩) os.length os.length))] Tryz.func99 rfl Tryz.ntmps99 (by kernel_rfl) (by kernel_rfl) fun a H => ?_
 refine sq (rg ?_)
 refine H.v 6 (.slice (some ⟨sb, 0, none⟩) os.length os.length) fun a H => H.v 7 (ii os.length) fun a H => H.v 8 (ii 0) fun a H => ?_
 refine nl (tn (bk ?_))
 refine w_loop (fun mm a wv => ∃ (i : Nat), ∃ (kq : Nat), ∃ (l : List Int), os.length - i = mm ∧ Sl 17 [(8, (ii i)), (7, (ii os.length)), (6, (.slice (some ⟨sb, 0, none⟩) os.length os.length)), (0, (pt rb 0)), (1, (.slice (some ⟨sb, 0, none⟩) os.length os.length))] a ∧ Hp w wv [bx rb 103 (rC s kq) false, bx tb ty (putAt us os l) false] [boxK sb 150 (os.map (fun o => Value.pointer (some ⟨tb, o, none⟩))), laidK a0 a1] ∧ (i ≤ os.length) ∧ (kq ≤ s.length) ∧ (l.length = i) ∧ (rdN s os.length k = pre l (rdN s (os.length - i) kq))) (os.length - 0) ?_ ?_
 ·exact ⟨0, k, [], (by omega), H.keep (by kernel_rfl), HP, (Nat.zero_le _), hk, rfl, (pre_nil _).symm⟩
 rintro mm a w_1 ⟨i, kq, l, hmeas, H, HP, hib, hkq, hll, hrel⟩
 refine sq (rg ?_)
 refine H.v 9 (.bool (decide ((i : Int) < (os.length : Int)))) fun a H => ?_
 refine nl (tn (sq ?_))
 refine w_if H rfl (fun g9 => ?_) (fun g9 => ?_)
 ·have g9p := of_decide_eq_true g9
  refine sk (tn (sq (bk (sq ?_))))
  obtain ⟨o, ho⟩ : ∃ o, os[i]? = some o := ⟨_, List.getElem?_eq_getElem (by omega)⟩
  have hou := hos o (List.mem_of_getElem? ho)
  refine rg ?_
  refine H.u 10 (.pointer (some ⟨sb, 0 + i * 1, none⟩)) (ex_index (b := sb) (off := 0) (len := os.length) (cap := os.length) (e := 150) (k := 1) (ik := .i64) (i := (i : Int)) (m := i) (by kernel_rfl) (by kernel_rfl) (by omega) (by omega) (by kernel_rfl) (by kernel_rfl)) fun a H => H.u 11 (pt tb o) (ex_l1 (box_ptr (HP.fact 0 rfl) ho)) fun a H => H.v 5 (pt tb o) fun a H => ?_
  refine nl (tn (rg ?_))
  refine H.v 12 (pt tb o) fun a H => H.v 13 (pt rb 0) fun a H => ?_
  refine H.callP 14 (by kernel_rfl) (Eq.trans (by kernel_rfl : _ = (callFunc 128 #[(pt rb 0)]).run Tryz.prog w_1) (Tryz.call128 _ _)) (number_any a0 a1 s kq rb w_1 (HP.fact 1 rfl) (fun j hj => (hsep j hj).1) (HP.at_ 0 rfl) hl hkq) ?_
  rintro e w_2 ⟨hag, (⟨hR, rfl, hbx⟩ | ⟨z, k2, hR, hk2, rfl, hbx⟩)⟩
  ·refine .inr ⟨_, rfl, ?_⟩
   intro a H
   have HP := HP.changed1 0 rfl (rC s kq) _ rfl hag hbx
   refine inb_panic ?_
   refine then_panic ?_
   refine then_panic ?_
   refine inb_panic ?_
   refine H.endP ?_
   exact ⟨HP.agree _ (by simp [bx]), .inl ⟨kq, _, by rw [hrel, show os.length - i = (os.length - (i + 1)) + 1 by omega]; exact rdN_none hR, hkq, rfl, HP.at_ 0 rfl, HP.at_ 1 rfl, putAt_len _ _ _⟩⟩
  refine .inl ⟨_, rfl, ?_⟩
  intro a H
  have HP := HP.changed1 0 rfl (rC s k2) _ rfl hag hbx
  refine H.v 15 (pt tb o) fun a H => H.store HP 1 tb o 1 ty _ false (ii z) [bx rb 103 (rC s k2) false, bx tb ty (putAt us os (l ++ [z])) false] (by kernel_rfl) (by kernel_rfl) (by kernel_rfl) rfl (by kernel_rfl) (by kernel_rfl) (by kernel_rfl) (by show Nat.ble (o + 1) _ = true; rw [Nat.ble_eq, putAt_len]; omega) (by rw [putAt_snoc us os l (by rw [hll]; exact ho)]; rfl) fun w_3 a H HP => ?_
  refine nl (ibn (tn (rg ?_)))
  refine H.valE 16 (ii (IntKind.i64.wrap ((i : Int) + 1))) (ii ((i : Int) + 1)) (by kernel_rfl) (by kernel_rfl) ((by rw [wrap_ini64 _ (by omega)])) fun a H => H.v 8 (ii ((i : Int) + 1)) fun a H => ?_
  refine nl (tn ?_)
  have H := H.as 8 (ii ((i + 1 : Nat) : Int)) rfl rfl
  refine ⟨_, ?_, i + 1, k2, l ++ [z], rfl, H.keep (by kernel_rfl), HP, (by omega), hk2, (by rw [List.length_append, hll]; rfl), (by rw [hrel, show os.length - i = (os.length - (i + 1)) + 1 by omega]; exact rdN_step hR)⟩
  omega
 have g9p := of_decide_eq_false g9
 refine wp_exit (then_exit (then_exit ?_))
 refine w_exit_here ?_
 refine H.end0 (fn := Tryz.f99) Tryz.results99  ?_
 exact ⟨HP.agree _ (by simp [bx]), .inr ⟨l, kq, by rw [hrel, show os.length - i = 0 by omega]; exact pre_ok _ _, hkq, by omega, rfl, HP.at_ 0 rfl, HP.at_ 1 rfl⟩⟩
end Go.Proofs.YteeillphhiaopaaGreatDoor
namespace Go.Proofs.YteeillphhiaopaaGreatDoor
set_option maxRecDepth 100000
set_option maxHeartbeats 4000000
open Go.ChangeShapes Go.WideShapes Go.ChangeAt Go.RowKit
set_option linter.unusedVariables false
set_option linter.unusedSimpArgs false
theorem len2 {l : List Int} (h : l.length = 2) : ∃ z0 z1, l = [z0, z1] := by
 match l, h with
 | [z0, z1], _ => exact ⟨z0, z1, rfl⟩
theorem len4 {l : List Int} (h : l.length = 4) : ∃ z0 z1 z2 z3, l = [z0, z1, z2, z3] := by
 match l, h with
 | [z0, z1, z2, z3], _ => exact ⟨z0, z1, z2, z3, rfl⟩
theorem len5 {l : List Int} (h : l.length = 5) : ∃ z0 z1 z2 z3 z4, l = [z0, z1, z2, z3, z4] := by
 match l, h with
 | [z0, z1, z2, z3, z4], _ => exact ⟨z0, z1, z2, z3, z4, rfl⟩
theorem len6 {l : List Int} (h : l.length = 6) : ∃ z0 z1 z2 z3 z4 z5, l = [z0, z1, z2, z3, z4, z5] := by
 match l, h with
 | [z0, z1, z2, z3, z4, z5], _ => exact ⟨z0, z1, z2, z3, z4, z5, rfl⟩
theorem len7 {l : List Int} (h : l.length = 7) : ∃ z0 z1 z2 z3 z4 z5 z6, l = [z0, z1, z2, z3, z4, z5, z6] := by
 match l, h with
 | [z0, z1, z2, z3, z4, z5, z6], _ => exact ⟨z0, z1, z2, z3, z4, z5, z6, rfl⟩
theorem len8 {l : List Int} (h : l.length = 8) : ∃ z0 z1 z2 z3 z4 z5 z6 z7, l = [z0, z1, z2, z3, z4, z5, z6, z7] := by
 match l, h with
 | [z0, z1, z2, z3, z4, z5, z6, z7], _ => exact ⟨z0, z1, z2, z3, z4, z5, z6, z7, rfl⟩
theorem rdInt_in {s : List UInt8} {k k1 : Nat} {n : Int} (hk : k ≤ s.length) (h : rdInt s k = some (n, k1)) : -4611686018427387903 ≤ n ∧ n ≤ 4611686018427387903 := by
 obtain ⟨h1, h2, _⟩ := rdInt_canon hk h
 exact ⟨h1, h2⟩
theorem Hp.neB {w0 w : World} {L : List HB} {K : List FK} (H : Hp w0 w L K) (i j : Nat) {b c t u : Nat} {vs us : List Value} {f f' : Bool} (hi : L[i]? = some (bx b t vs f)) (hj : L[j]? = some (bx c u us f')) (hij : i < j) : b ≠ c := fun e => pair_at H.apart hi hj hij b rfl e
theorem Hp.factNe {w0 w : World} {L : List HB} {K : List FK} (H : Hp w0 w L K) (q i : Nat) {p : FK} {b t : Nat} {vs : List Value} {f : Bool} (hq : K[q]? = some p) (hi : L[i]? = some (bx b t vs f)) : ∀ j, p.fp j → j ≠ b := fun j hj e =>
 ((H.kept p (List.mem_of_getElem? hq)).2.2 j hj).2 _ (List.mem_of_getElem? hi) e
theorem Hp.ltK {w0 w : World} {L : List HB} {K : List FK} (H : Hp w0 w L K) : ∀ q ∈ K, ∀ j, q.fp j → j < w.heap.size := fun q hq j hj => ((H.kept q hq).2.2 j hj).1
theorem Hp.pendN {α : Type} {base : Nat} {e : TypeId} {size : Nat} {cs : α → Array Value} {ok : α → World → Prop} {fe : α → Nat → Prop} {v : Value} {l : List α} {w0 w : World} {L : List HB} {K : List FK} (H : Hp w0 w L K) (i : Nat) (hi : L[i]? = some (rowsR base e size cs ok fe v l)) (hel : ElOk ok fe) (p : α) (L' : List HB) (hL : L.set i (rowsP base e size cs ok fe v l p) = L') (hp : ok p w)
  (hn : ∀ k, fe p k → w0.heap.size ≤ k ∧ k < w.heap.size ∧ (∀ y ∈ L, ¬ y.fp k) ∧ ∀ q ∈ K, ¬ q.fp k) : Hp w0 w L' K :=
 H.grow i hi (rowsP base e size cs ok fe v l p) L' hL ⟨H.held i hi, hp, fun k hk => ⟨(hn k hk).2.1, fun hv => (hn k hk).2.2.1 _ (List.mem_of_getElem? hi) (.inl hv)⟩⟩ (rowsP_ok hel) (fun k hk => .inl hk) (fun k hk => hk.elim .inl fun h => .inr (hn k h)) rfl
theorem elOk_en : ElOk (fun (x : Ent) w => x.ok w) Ent.fp := fun _ _ _ h hk hs => Ent.ok.keep h hk hs
def ElPost {α : Type} (cs : α → Array Value) (el : Nat → RdR α) (a0 a1 : Addr) (s : List UInt8) (k rb b ty : Nat) (w : World) (e : Ending) (w' : World) : Prop :=
 Agree w w' (fun j => j = rb ∨ j = b) ∧ ((∃ (E : Int) (k1 : Nat) (us1 : List Value), el k = .error E ∧ (E = 10 ∨ E = 80) ∧ k1 ≤ s.length ∧ e = .panicked (pan a0 a1 E) ∧ Box w' rb 103 (rC s k1).toArray ∧ Box w' b ty us1.toArray) ∨
  (∃ (x : α) (k1 : Nat), el k = .ok (x, k1) ∧ k1 ≤ s.length ∧ e = .returned (.tuple #[]) ∧ Box w' rb 103 (rC s k1).toArray ∧ Box w' b ty (cs x).toList.toArray))
def ElPostE (a0 a1 : Addr) (s : List UInt8) (k rb b ty : Nat) (w : World) (e : Ending) (w' : World) : Prop :=
 Agree w w' (fun j => j = rb ∨ j = b) ∧ ((∃ (E : Int) (k1 : Nat) (us1 : List Value), rdEnt s k = .error E ∧ (E = 10 ∨ E = 80) ∧ k1 ≤ s.length ∧ e = .panicked (pan a0 a1 E) ∧ Box w' rb 103 (rC s k1).toArray ∧ Box w' b ty us1.toArray) ∨
  (∃ (x : Ent) (k1 : Nat), rdEnt s k = .ok (x.nv, k1) ∧ k1 ≤ s.length ∧ e = .returned (.tuple #[]) ∧ Box w' rb 103 (rC s k1).toArray ∧ Box w' b ty (enC x).toList.toArray ∧ x.ok w' ∧ ∀ j, x.fp j → w.heap.size ≤ j))
def ListPost {α : Type} (size : Nat) (cs : α → Array Value) (el : Nat → RdR α) (most : Nat) (a0 a1 : Addr) (s : List UInt8) (k rb : Nat) (w : World) (e : Ending) (w' : World) : Prop :=
 Agree w w' (fun j => j = rb) ∧ ((∃ (E : Int) (k1 : Nat), rdC s most el k = .error E ∧ (E = 10 ∨ E = 80) ∧ k1 ≤ s.length ∧ e = .panicked (pan a0 a1 E) ∧ Box w' rb 103 (rC s k1).toArray) ∨
  (∃ (A : Option Addr) (c : Nat) (l : List α) (k1 : Nat), rdC s most el k = .ok (l, k1) ∧ k1 ≤ s.length ∧ e = .returned (.slice A l.length c) ∧ Box w' rb 103 (rC s k1).toArray ∧ IsRow size cs w' A l ∧ (∀ j, rowFp l.length A j → w.heap.size ≤ j) ∧ l.length ≤ most))
def ListPostE (a0 a1 : Addr) (s : List UInt8) (k rb : Nat) (w : World) (e : Ending) (w' : World) : Prop :=
 Agree w w' (fun j => j = rb) ∧ ((∃ (E : Int) (k1 : Nat), rdC s 4000 (rdEnt s) k = .error E ∧ (E = 10 ∨ E = 80) ∧ k1 ≤ s.length ∧ e = .panicked (pan a0 a1 E) ∧ Box w' rb 103 (rC s k1).toArray) ∨
  (∃ (A : Option Addr) (c : Nat) (l : List Ent) (k1 : Nat), rdC s 4000 (rdEnt s) k = .ok (l.map Ent.nv, k1) ∧ k1 ≤ s.length ∧ e = .returned (.slice A l.length c) ∧ Box w' rb 103 (rC s k1).toArray ∧ IsEn w' A l ∧ (∀ j, enFp A l j → w.heap.size ≤ j) ∧ l.length ≤ 4000))
theorem flat_new {α : Type} {base e size : Nat} {cs : α → Array Value} {ok : α → World → Prop} {fe : α → Nat → Prop} {A : Option Addr} {n c : Nat} {l : List α} {w : World} (h : (rowsR base e size cs ok fe (.slice A n c) l).F w) : ∀ j, rowFp l.length A j → base ≤ j := by
 intro j hj
 obtain ⟨_, off, rfl⟩ := hj
 exact (own_lt h.1 j rfl).2
theorem en_new {base e size : Nat} {cs : Ent → Array Value} {ok : Ent → World → Prop} {A : Option Addr} {n c : Nat} {l : List Ent} {w : World} {n0 : Nat} (h : (rowsR base e size cs ok Ent.fp (.slice A n c) l).F w) (hf : ∀ k, (rowsR base e size cs ok Ent.fp (.slice A n c) l).fp k → n0 ≤ k) : ∀ j, enFp A l j → n0 ≤ j := by
 rintro j (hj | ⟨x, hx, hj⟩)
 ·obtain ⟨_, off, rfl⟩ := hj
  exact hf j (.inl rfl)
 ·exact hf j (.inr ⟨x, hx, hj⟩)
theorem Hp.sub2 {w0 w : World} {L : List HB} {K : List FK} (H : Hp w0 w L K) (is : List Nat) (L' : List HB) (hL : placed L is = L') (hd : distinct is = true) (hf : ∀ x ∈ L, x.fresh = true ∨ x ∈ L') : Hp w0 w L' K := by
 subst hL
 have hm : ∀ x ∈ placed L is, x ∈ L := fun x hx => by obtain ⟨i, _, hi⟩ := placed_mem hx; exact List.mem_of_getElem? hi
 refine ⟨H.os, H.tape, H.output, H.size, fun k hk hn => H.old k hk fun x hx h => ?_, fun x hx => H.res x (hm x hx), ?_, fun x hx => H.fresh x (hm x hx), fun p hp => let ⟨h1, h2, h3⟩ := H.kept p hp; ⟨h1, h2, fun k hk => ⟨(h3 k hk).1, fun x hx => (h3 k hk).2 x (hm x hx)⟩⟩⟩
 ·rcases hf x hx with h' | h'
  ·have := H.fresh x hx h' k h; omega
  ·exact hn x h' h
 ·clear hf hm
  induction is with
  | nil => exact .nil
  | cons i is ih =>
   simp only [distinct, Bool.and_eq_true, Bool.not_eq_true', List.contains_eq_mem, decide_eq_false_iff_not] at hd
   simp only [placed]
   split
   ·rename_i x hx
    refine .cons (fun y hy => ?_) (ih hd.2)
    obtain ⟨j, hj, e⟩ := placed_mem hy
    exact pairwise_at H.apart hx e fun h => hd.1 (h ▸ hj)
   ·exact ih hd.2
theorem rcS_any (a0 a1 : Addr) (s : List UInt8) (k rb br b : Nat) (w : World) (hL : LaidP a0 a1 w) (hsep : ∀ j, lpFp a0 a1 j → j ≠ rb ∧ j ≠ b) (h : Box w rb 103 (rC s k).toArray) (hb : Box w b 76 [(ii 0), (ii 0)].toArray) (hne : rb ≠ b) (hbr : Box w br 148 #[.pointer (some ⟨rb, 0, none⟩)]) (hbn : br ≠ rb ∧ br ≠ b) (hl : s.length ≤ 1000000) (hk : k ≤ s.length) :
  Calls Tryz.prog 101 #[.pointer (some ⟨b, 0, none⟩), .pointer (some ⟨br, 0, none⟩)] w (ElPost altC (rdM altOf s 2) a0 a1 s k rb b 76 w) := by
 have HP : Hp w w [bx rb 103 (rC s k) false, bx b 76 [(ii 0), (ii 0)] false] [boxK br 148 [.pointer (some ⟨rb, 0, none⟩)], laidK a0 a1] := ((Hp.own2 h hb hne).keepF (laidK a0 a1) hL (laidK_ok _ _) (fun j hj => ⟨hL.lt j hj, by simpa [bx] using hsep j hj⟩)).keepF (boxK br 148 [.pointer (some ⟨rb, 0, none⟩)]) hbr (boxK_ok _ _ _) (fun j hj => ⟨by cases hj; exact hbr.lt, by cases hj; simpa [bx] using hbn⟩)
 refine w_enter 12 [(0, (pt b 0)), (1, (pt br 0))] Tryz.func101 rfl Tryz.ntmps101 (by kernel_rfl) (by kernel_rfl) fun a H => ?_
 refine An.start (fun v => Hp w v [bx rb 103 (rC s k) false, bx b 76 [(ii 0), (ii 0)] false] [boxK br 148 [.pointer (some ⟨rb, 0, none⟩)], laidK a0 a1]) 8 9 HP wide_follows rfl fun w_1 HP => ?_
 refine An.vw H (HP) 0 3 (pt rb 0) (fun _ hS => ex_l1 ((hS.fact 0 rfl : Box _ br 148 _).cell (i := 0) rfl)) fun a H => ?_
 refine An.p H (.inr HP) 1 4 (pt b 0) fun a H => ?_
 refine An.p H (.inr HP) 2 5 (pt b 0) fun a H => ?_
 refine An.p H (.inr HP) 3 6 (pt b 0) fun a H => ?_
 refine An.p H (.inr HP) 4 7 (pt b 0) fun a H => ?_
 refine An.p H (.inr HP) 5 8 (pt b 0) fun a H => ?_
 refine An.p H (.inr HP) 6 9 (pt b 1) fun a H => ?_
 refine An.one 7 (by kernel_rfl) ?_
 refine Op.alloc H HP 10 (fun b => (.slice (some ⟨b, 0, none⟩) 2 2)) 150 [(pt b 0), (pt b 1)] rfl (by kernel_rfl) (fun w => by kernel_rfl) fun b_2 w_3 a H HP => ?_
 refine ⟨.inr ((HP.tail rfl)), ?_⟩
 refine An.one 8 (by kernel_rfl) ?_
 refine Op.callP H 11 rfl (by kernel_rfl) (Eq.trans (by kernel_rfl : _ = (callFunc 99 #[(pt rb 0), (.slice (some ⟨b_2, 0, none⟩) 2 2)]).run Tryz.prog w_3) (Tryz.call99 _ _)) (numbers_any a0 a1 s k rb b 76 b_2 [(ii 0), (ii 0)] [0, 1] w_3 (HP.fact 1 rfl) hsep (HP.at_ 1 rfl) (HP.at_ 2 rfl) (HP.at_ 0 rfl) hne ⟨HP.neB 0 1 rfl rfl (by decide), HP.neB 0 2 rfl rfl (by decide)⟩ (by simp) (by decide) hl hk) ?_
 rintro e w_4 ⟨hag, (⟨k2, us2, hE, hk2, rfl, hb1, hb2, _⟩ | ⟨l, k2, hE, hk2, hll, rfl, hb1, hb2⟩)⟩
 ·refine .inr ⟨_, rfl, ?_⟩
  intro a H
  have HP := HP.changed2 1 2 rfl rfl (rC s k2) us2 _ rfl (by decide) hag hb1 hb2
  refine H.endP ?_
  exact ⟨HP.agree _ (by simp [bx, rowsR]), .inl ⟨10, k2, us2, by unfold rdM; rw [show rdN s 2 k = .error 10 from hE], .inl rfl, hk2, rfl, HP.at_ 1 rfl, HP.at_ 2 rfl⟩⟩
 refine .inl ⟨_, rfl, ?_⟩
 intro a H
 obtain ⟨z0, z1, rfl⟩ := len2 hll
 have HP := HP.changed2 1 2 rfl rfl (rC s k2) [(ii z0), (ii z1)] _ rfl (by decide) hag hb1 hb2
 refine ⟨.inl (by kernel_rfl), ?_⟩
 refine An.done (by kernel_rfl) ?_
 refine H.end0 (fn := Tryz.f101) Tryz.results101  ?_
 exact ⟨HP.agree _ (by simp [bx, rowsR]), .inr ⟨altOf [z0, z1], k2, by unfold rdM; rw [show rdN s 2 k = .ok ([z0, z1], k2) from hE], hk2, rfl, HP.at_ 1 rfl, HP.at_ 2 rfl⟩⟩
theorem rcI_any (a0 a1 : Addr) (s : List UInt8) (k rb br b : Nat) (w : World) (hL : LaidP a0 a1 w) (hsep : ∀ j, lpFp a0 a1 j → j ≠ rb ∧ j ≠ b) (h : Box w rb 103 (rC s k).toArray) (hb : Box w b 38 [(ii 0), (ii 0), (ii 0), (ii 0), (ii 0)].toArray) (hne : rb ≠ b) (hbr : Box w br 148 #[.pointer (some ⟨rb, 0, none⟩)]) (hbn : br ≠ rb ∧ br ≠ b) (hl : s.length ≤ 1000000) (hk : k ≤ s.length) :
  Calls Tryz.prog 103 #[.pointer (some ⟨b, 0, none⟩), .pointer (some ⟨br, 0, none⟩)] w (ElPost itC (rdM itOf s 5) a0 a1 s k rb b 38 w) := by
 have HP : Hp w w [bx rb 103 (rC s k) false, bx b 38 [(ii 0), (ii 0), (ii 0), (ii 0), (ii 0)] false] [boxK br 148 [.pointer (some ⟨rb, 0, none⟩)], laidK a0 a1] := ((Hp.own2 h hb hne).keepF (laidK a0 a1) hL (laidK_ok _ _) (fun j hj => ⟨hL.lt j hj, by simpa [bx] using hsep j hj⟩)).keepF (boxK br 148 [.pointer (some ⟨rb, 0, none⟩)]) hbr (boxK_ok _ _ _) (fun j hj => ⟨by cases hj; exact hbr.lt, by cases hj; simpa [bx] using hbn⟩)
 refine w_enter 21 [(0, (pt b 0)), (1, (pt br 0))] Tryz.func103 rfl Tryz.ntmps103 (by kernel_rfl) (by kernel_rfl) fun a H => ?_
 refine An.start (fun v => Hp w v [bx rb 103 (rC s k) false, bx b 38 [(ii 0), (ii 0), (ii 0), (ii 0), (ii 0)] false] [boxK br 148 [.pointer (some ⟨rb, 0, none⟩)], laidK a0 a1]) 17 18 HP wide_follows rfl fun w_1 HP => ?_
 refine An.vw H (HP) 0 3 (pt rb 0) (fun _ hS => ex_l1 ((hS.fact 0 rfl : Box _ br 148 _).cell (i := 0) rfl)) fun a H => ?_
 refine An.p H (.inr HP) 1 4 (pt b 0) fun a H => ?_
 refine An.p H (.inr HP) 2 5 (pt b 0) fun a H => ?_
 refine An.p H (.inr HP) 3 6 (pt b 0) fun a H => ?_
 refine An.p H (.inr HP) 4 7 (pt b 0) fun a H => ?_
 refine An.p H (.inr HP) 5 8 (pt b 0) fun a H => ?_
 refine An.p H (.inr HP) 6 9 (pt b 1) fun a H => ?_
 refine An.p H (.inr HP) 7 10 (pt b 0) fun a H => ?_
 refine An.p H (.inr HP) 8 11 (pt b 0) fun a H => ?_
 refine An.p H (.inr HP) 9 12 (pt b 2) fun a H => ?_
 refine An.p H (.inr HP) 10 13 (pt b 0) fun a H => ?_
 refine An.p H (.inr HP) 11 14 (pt b 0) fun a H => ?_
 refine An.p H (.inr HP) 12 15 (pt b 3) fun a H => ?_
 refine An.p H (.inr HP) 13 16 (pt b 0) fun a H => ?_
 refine An.p H (.inr HP) 14 17 (pt b 0) fun a H => ?_
 refine An.p H (.inr HP) 15 18 (pt b 4) fun a H => ?_
 refine An.one 16 (by kernel_rfl) ?_
 refine Op.alloc H HP 19 (fun b => (.slice (some ⟨b, 0, none⟩) 5 5)) 150 [(pt b 0), (pt b 1), (pt b 2), (pt b 3), (pt b 4)] rfl (by kernel_rfl) (fun w => by kernel_rfl) fun b_2 w_3 a H HP => ?_
 refine ⟨.inr ((HP.tail rfl)), ?_⟩
 refine An.one 17 (by kernel_rfl) ?_
 refine Op.callP H 20 rfl (by kernel_rfl) (Eq.trans (by kernel_rfl : _ = (callFunc 99 #[(pt rb 0), (.slice (some ⟨b_2, 0, none⟩) 5 5)]).run Tryz.prog w_3) (Tryz.call99 _ _)) (numbers_any a0 a1 s k rb b 38 b_2 [(ii 0), (ii 0), (ii 0), (ii 0), (ii 0)] [0, 1, 2, 3, 4] w_3 (HP.fact 1 rfl) hsep (HP.at_ 1 rfl) (HP.at_ 2 rfl) (HP.at_ 0 rfl) hne ⟨HP.neB 0 1 rfl rfl (by decide), HP.neB 0 2 rfl rfl (by decide)⟩ (by simp) (by decide) hl hk) ?_
 rintro e w_4 ⟨hag, (⟨k2, us2, hE, hk2, rfl, hb1, hb2, _⟩ | ⟨l, k2, hE, hk2, hll, rfl, hb1, hb2⟩)⟩
 ·refine .inr ⟨_, rfl, ?_⟩
  intro a H
  have HP := HP.changed2 1 2 rfl rfl (rC s k2) us2 _ rfl (by decide) hag hb1 hb2
  refine H.endP ?_
  exact ⟨HP.agree _ (by simp [bx, rowsR]), .inl ⟨10, k2, us2, by unfold rdM; rw [show rdN s 5 k = .error 10 from hE], .inl rfl, hk2, rfl, HP.at_ 1 rfl, HP.at_ 2 rfl⟩⟩
 refine .inl ⟨_, rfl, ?_⟩
 intro a H
 obtain ⟨z0, z1, z2, z3, z4, rfl⟩ := len5 hll
 have HP := HP.changed2 1 2 rfl rfl (rC s k2) [(ii z0), (ii z1), (ii z2), (ii z3), (ii z4)] _ rfl (by decide) hag hb1 hb2
 refine ⟨.inl (by kernel_rfl), ?_⟩
 refine An.done (by kernel_rfl) ?_
 refine H.end0 (fn := Tryz.f103) Tryz.results103  ?_
 exact ⟨HP.agree _ (by simp [bx, rowsR]), .inr ⟨itOf [z0, z1, z2, z3, z4], k2, by unfold rdM; rw [show rdN s 5 k = .ok ([z0, z1, z2, z3, z4], k2) from hE], hk2, rfl, HP.at_ 1 rfl, HP.at_ 2 rfl⟩⟩
theorem rcA_any (a0 a1 : Addr) (s : List UInt8) (k rb br b : Nat) (w : World) (hL : LaidP a0 a1 w) (hsep : ∀ j, lpFp a0 a1 j → j ≠ rb ∧ j ≠ b) (h : Box w rb 103 (rC s k).toArray) (hb : Box w b 62 [(ii 0), (ii 0)].toArray) (hne : rb ≠ b) (hbr : Box w br 148 #[.pointer (some ⟨rb, 0, none⟩)]) (hbn : br ≠ rb ∧ br ≠ b) (hl : s.length ≤ 1000000) (hk : k ≤ s.length) :
  Calls Tryz.prog 107 #[.pointer (some ⟨b, 0, none⟩), .pointer (some ⟨br, 0, none⟩)] w (ElPost altC (rdM altOf s 2) a0 a1 s k rb b 62 w) := by
 have HP : Hp w w [bx rb 103 (rC s k) false, bx b 62 [(ii 0), (ii 0)] false] [boxK br 148 [.pointer (some ⟨rb, 0, none⟩)], laidK a0 a1] := ((Hp.own2 h hb hne).keepF (laidK a0 a1) hL (laidK_ok _ _) (fun j hj => ⟨hL.lt j hj, by simpa [bx] using hsep j hj⟩)).keepF (boxK br 148 [.pointer (some ⟨rb, 0, none⟩)]) hbr (boxK_ok _ _ _) (fun j hj => ⟨by cases hj; exact hbr.lt, by cases hj; simpa [bx] using hbn⟩)
 refine w_enter 12 [(0, (pt b 0)), (1, (pt br 0))] Tryz.func107 rfl Tryz.ntmps107 (by kernel_rfl) (by kernel_rfl) fun a H => ?_
 refine An.start (fun v => Hp w v [bx rb 103 (rC s k) false, bx b 62 [(ii 0), (ii 0)] false] [boxK br 148 [.pointer (some ⟨rb, 0, none⟩)], laidK a0 a1]) 8 9 HP wide_follows rfl fun w_1 HP => ?_
 refine An.vw H (HP) 0 3 (pt rb 0) (fun _ hS => ex_l1 ((hS.fact 0 rfl : Box _ br 148 _).cell (i := 0) rfl)) fun a H => ?_
 refine An.p H (.inr HP) 1 4 (pt b 0) fun a H => ?_
 refine An.p H (.inr HP) 2 5 (pt b 0) fun a H => ?_
 refine An.p H (.inr HP) 3 6 (pt b 0) fun a H => ?_
 refine An.p H (.inr HP) 4 7 (pt b 0) fun a H => ?_
 refine An.p H (.inr HP) 5 8 (pt b 0) fun a H => ?_
 refine An.p H (.inr HP) 6 9 (pt b 1) fun a H => ?_
 refine An.one 7 (by kernel_rfl) ?_
 refine Op.alloc H HP 10 (fun b => (.slice (some ⟨b, 0, none⟩) 2 2)) 150 [(pt b 0), (pt b 1)] rfl (by kernel_rfl) (fun w => by kernel_rfl) fun b_2 w_3 a H HP => ?_
 refine ⟨.inr ((HP.tail rfl)), ?_⟩
 refine An.one 8 (by kernel_rfl) ?_
 refine Op.callP H 11 rfl (by kernel_rfl) (Eq.trans (by kernel_rfl : _ = (callFunc 99 #[(pt rb 0), (.slice (some ⟨b_2, 0, none⟩) 2 2)]).run Tryz.prog w_3) (Tryz.call99 _ _)) (numbers_any a0 a1 s k rb b 62 b_2 [(ii 0), (ii 0)] [0, 1] w_3 (HP.fact 1 rfl) hsep (HP.at_ 1 rfl) (HP.at_ 2 rfl) (HP.at_ 0 rfl) hne ⟨HP.neB 0 1 rfl rfl (by decide), HP.neB 0 2 rfl rfl (by decide)⟩ (by simp) (by decide) hl hk) ?_
 rintro e w_4 ⟨hag, (⟨k2, us2, hE, hk2, rfl, hb1, hb2, _⟩ | ⟨l, k2, hE, hk2, hll, rfl, hb1, hb2⟩)⟩
 ·refine .inr ⟨_, rfl, ?_⟩
  intro a H
  have HP := HP.changed2 1 2 rfl rfl (rC s k2) us2 _ rfl (by decide) hag hb1 hb2
  refine H.endP ?_
  exact ⟨HP.agree _ (by simp [bx, rowsR]), .inl ⟨10, k2, us2, by unfold rdM; rw [show rdN s 2 k = .error 10 from hE], .inl rfl, hk2, rfl, HP.at_ 1 rfl, HP.at_ 2 rfl⟩⟩
 refine .inl ⟨_, rfl, ?_⟩
 intro a H
 obtain ⟨z0, z1, rfl⟩ := len2 hll
 have HP := HP.changed2 1 2 rfl rfl (rC s k2) [(ii z0), (ii z1)] _ rfl (by decide) hag hb1 hb2
 refine ⟨.inl (by kernel_rfl), ?_⟩
 refine An.done (by kernel_rfl) ?_
 refine H.end0 (fn := Tryz.f107) Tryz.results107  ?_
 exact ⟨HP.agree _ (by simp [bx, rowsR]), .inr ⟨altOf [z0, z1], k2, by unfold rdM; rw [show rdN s 2 k = .ok ([z0, z1], k2) from hE], hk2, rfl, HP.at_ 1 rfl, HP.at_ 2 rfl⟩⟩
theorem rcB_any (a0 a1 : Addr) (s : List UInt8) (k rb br b : Nat) (w : World) (hL : LaidP a0 a1 w) (hsep : ∀ j, lpFp a0 a1 j → j ≠ rb ∧ j ≠ b) (h : Box w rb 103 (rC s k).toArray) (hb : Box w b 47 [(ii 0), (ii 0), (ii 0), (ii 0), (ii 0), (ii 0), (ii 0)].toArray) (hne : rb ≠ b) (hbr : Box w br 148 #[.pointer (some ⟨rb, 0, none⟩)]) (hbn : br ≠ rb ∧ br ≠ b) (hl : s.length ≤ 1000000) (hk : k ≤ s.length) :
  Calls Tryz.prog 109 #[.pointer (some ⟨b, 0, none⟩), .pointer (some ⟨br, 0, none⟩)] w (ElPost bkC (rdM bkOf s 7) a0 a1 s k rb b 47 w) := by
 have HP : Hp w w [bx rb 103 (rC s k) false, bx b 47 [(ii 0), (ii 0), (ii 0), (ii 0), (ii 0), (ii 0), (ii 0)] false] [boxK br 148 [.pointer (some ⟨rb, 0, none⟩)], laidK a0 a1] := ((Hp.own2 h hb hne).keepF (laidK a0 a1) hL (laidK_ok _ _) (fun j hj => ⟨hL.lt j hj, by simpa [bx] using hsep j hj⟩)).keepF (boxK br 148 [.pointer (some ⟨rb, 0, none⟩)]) hbr (boxK_ok _ _ _) (fun j hj => ⟨by cases hj; exact hbr.lt, by cases hj; simpa [bx] using hbn⟩)
 refine w_enter 27 [(0, (pt b 0)), (1, (pt br 0))] Tryz.func109 rfl Tryz.ntmps109 (by kernel_rfl) (by kernel_rfl) fun a H => ?_
 refine An.start (fun v => Hp w v [bx rb 103 (rC s k) false, bx b 47 [(ii 0), (ii 0), (ii 0), (ii 0), (ii 0), (ii 0), (ii 0)] false] [boxK br 148 [.pointer (some ⟨rb, 0, none⟩)], laidK a0 a1]) 23 24 HP wide_follows rfl fun w_1 HP => ?_
 refine An.vw H (HP) 0 3 (pt rb 0) (fun _ hS => ex_l1 ((hS.fact 0 rfl : Box _ br 148 _).cell (i := 0) rfl)) fun a H => ?_
 refine An.p H (.inr HP) 1 4 (pt b 0) fun a H => ?_
 refine An.p H (.inr HP) 2 5 (pt b 0) fun a H => ?_
 refine An.p H (.inr HP) 3 6 (pt b 0) fun a H => ?_
 refine An.p H (.inr HP) 4 7 (pt b 0) fun a H => ?_
 refine An.p H (.inr HP) 5 8 (pt b 0) fun a H => ?_
 refine An.p H (.inr HP) 6 9 (pt b 1) fun a H => ?_
 refine An.p H (.inr HP) 7 10 (pt b 0) fun a H => ?_
 refine An.p H (.inr HP) 8 11 (pt b 0) fun a H => ?_
 refine An.p H (.inr HP) 9 12 (pt b 2) fun a H => ?_
 refine An.p H (.inr HP) 10 13 (pt b 0) fun a H => ?_
 refine An.p H (.inr HP) 11 14 (pt b 0) fun a H => ?_
 refine An.p H (.inr HP) 12 15 (pt b 3) fun a H => ?_
 refine An.p H (.inr HP) 13 16 (pt b 0) fun a H => ?_
 refine An.p H (.inr HP) 14 17 (pt b 0) fun a H => ?_
 refine An.p H (.inr HP) 15 18 (pt b 4) fun a H => ?_
 refine An.p H (.inr HP) 16 19 (pt b 0) fun a H => ?_
 refine An.p H (.inr HP) 17 20 (pt b 0) fun a H => ?_
 refine An.p H (.inr HP) 18 21 (pt b 5) fun a H => ?_
 refine An.p H (.inr HP) 19 22 (pt b 0) fun a H => ?_
 refine An.p H (.inr HP) 20 23 (pt b 0) fun a H => ?_
 refine An.p H (.inr HP) 21 24 (pt b 6) fun a H => ?_
 refine An.one 22 (by kernel_rfl) ?_
 refine Op.alloc H HP 25 (fun b => (.slice (some ⟨b, 0, none⟩) 7 7)) 150 [(pt b 0), (pt b 1), (pt b 2), (pt b 3), (pt b 4), (pt b 5), (pt b 6)] rfl (by kernel_rfl) (fun w => by kernel_rfl) fun b_2 w_3 a H HP => ?_
 refine ⟨.inr ((HP.tail rfl)), ?_⟩
 refine An.one 23 (by kernel_rfl) ?_
 refine Op.callP H 26 rfl (by kernel_rfl) (Eq.trans (by kernel_rfl : _ = (callFunc 99 #[(pt rb 0), (.slice (some ⟨b_2, 0, none⟩) 7 7)]).run Tryz.prog w_3) (Tryz.call99 _ _)) (numbers_any a0 a1 s k rb b 47 b_2 [(ii 0), (ii 0), (ii 0), (ii 0), (ii 0), (ii 0), (ii 0)] [0, 1, 2, 3, 4, 5, 6] w_3 (HP.fact 1 rfl) hsep (HP.at_ 1 rfl) (HP.at_ 2 rfl) (HP.at_ 0 rfl) hne ⟨HP.neB 0 1 rfl rfl (by decide), HP.neB 0 2 rfl rfl (by decide)⟩ (by simp) (by decide) hl hk) ?_
 rintro e w_4 ⟨hag, (⟨k2, us2, hE, hk2, rfl, hb1, hb2, _⟩ | ⟨l, k2, hE, hk2, hll, rfl, hb1, hb2⟩)⟩
 ·refine .inr ⟨_, rfl, ?_⟩
  intro a H
  have HP := HP.changed2 1 2 rfl rfl (rC s k2) us2 _ rfl (by decide) hag hb1 hb2
  refine H.endP ?_
  exact ⟨HP.agree _ (by simp [bx, rowsR]), .inl ⟨10, k2, us2, by unfold rdM; rw [show rdN s 7 k = .error 10 from hE], .inl rfl, hk2, rfl, HP.at_ 1 rfl, HP.at_ 2 rfl⟩⟩
 refine .inl ⟨_, rfl, ?_⟩
 intro a H
 obtain ⟨z0, z1, z2, z3, z4, z5, z6, rfl⟩ := len7 hll
 have HP := HP.changed2 1 2 rfl rfl (rC s k2) [(ii z0), (ii z1), (ii z2), (ii z3), (ii z4), (ii z5), (ii z6)] _ rfl (by decide) hag hb1 hb2
 refine ⟨.inl (by kernel_rfl), ?_⟩
 refine An.done (by kernel_rfl) ?_
 refine H.end0 (fn := Tryz.f109) Tryz.results109  ?_
 exact ⟨HP.agree _ (by simp [bx, rowsR]), .inr ⟨bkOf [z0, z1, z2, z3, z4, z5, z6], k2, by unfold rdM; rw [show rdN s 7 k = .ok ([z0, z1, z2, z3, z4, z5, z6], k2) from hE], hk2, rfl, HP.at_ 1 rfl, HP.at_ 2 rfl⟩⟩
theorem rcC_any (a0 a1 : Addr) (s : List UInt8) (k rb br b : Nat) (w : World) (hL : LaidP a0 a1 w) (hsep : ∀ j, lpFp a0 a1 j → j ≠ rb ∧ j ≠ b) (h : Box w rb 103 (rC s k).toArray) (hb : Box w b 73 [(ii 0), (ii 0), (ii 0), (ii 0), (ii 0), (ii 0), (ii 0), (ii 0)].toArray) (hne : rb ≠ b) (hbr : Box w br 148 #[.pointer (some ⟨rb, 0, none⟩)]) (hbn : br ≠ rb ∧ br ≠ b) (hl : s.length ≤ 1000000) (hk : k ≤ s.length) :
  Calls Tryz.prog 111 #[.pointer (some ⟨b, 0, none⟩), .pointer (some ⟨br, 0, none⟩)] w (ElPost clC (rdM clOf s 8) a0 a1 s k rb b 73 w) := by
 have HP : Hp w w [bx rb 103 (rC s k) false, bx b 73 [(ii 0), (ii 0), (ii 0), (ii 0), (ii 0), (ii 0), (ii 0), (ii 0)] false] [boxK br 148 [.pointer (some ⟨rb, 0, none⟩)], laidK a0 a1] := ((Hp.own2 h hb hne).keepF (laidK a0 a1) hL (laidK_ok _ _) (fun j hj => ⟨hL.lt j hj, by simpa [bx] using hsep j hj⟩)).keepF (boxK br 148 [.pointer (some ⟨rb, 0, none⟩)]) hbr (boxK_ok _ _ _) (fun j hj => ⟨by cases hj; exact hbr.lt, by cases hj; simpa [bx] using hbn⟩)
 refine w_enter 30 [(0, (pt b 0)), (1, (pt br 0))] Tryz.func111 rfl Tryz.ntmps111 (by kernel_rfl) (by kernel_rfl) fun a H => ?_
 refine An.start (fun v => Hp w v [bx rb 103 (rC s k) false, bx b 73 [(ii 0), (ii 0), (ii 0), (ii 0), (ii 0), (ii 0), (ii 0), (ii 0)] false] [boxK br 148 [.pointer (some ⟨rb, 0, none⟩)], laidK a0 a1]) 26 27 HP wide_follows rfl fun w_1 HP => ?_
 refine An.vw H (HP) 0 3 (pt rb 0) (fun _ hS => ex_l1 ((hS.fact 0 rfl : Box _ br 148 _).cell (i := 0) rfl)) fun a H => ?_
 refine An.p H (.inr HP) 1 4 (pt b 0) fun a H => ?_
 refine An.p H (.inr HP) 2 5 (pt b 0) fun a H => ?_
 refine An.p H (.inr HP) 3 6 (pt b 0) fun a H => ?_
 refine An.p H (.inr HP) 4 7 (pt b 0) fun a H => ?_
 refine An.p H (.inr HP) 5 8 (pt b 0) fun a H => ?_
 refine An.p H (.inr HP) 6 9 (pt b 1) fun a H => ?_
 refine An.p H (.inr HP) 7 10 (pt b 0) fun a H => ?_
 refine An.p H (.inr HP) 8 11 (pt b 0) fun a H => ?_
 refine An.p H (.inr HP) 9 12 (pt b 2) fun a H => ?_
 refine An.p H (.inr HP) 10 13 (pt b 0) fun a H => ?_
 refine An.p H (.inr HP) 11 14 (pt b 0) fun a H => ?_
 refine An.p H (.inr HP) 12 15 (pt b 3) fun a H => ?_
 refine An.p H (.inr HP) 13 16 (pt b 0) fun a H => ?_
 refine An.p H (.inr HP) 14 17 (pt b 0) fun a H => ?_
 refine An.p H (.inr HP) 15 18 (pt b 4) fun a H => ?_
 refine An.p H (.inr HP) 16 19 (pt b 0) fun a H => ?_
 refine An.p H (.inr HP) 17 20 (pt b 0) fun a H => ?_
 refine An.p H (.inr HP) 18 21 (pt b 5) fun a H => ?_
 refine An.p H (.inr HP) 19 22 (pt b 0) fun a H => ?_
 refine An.p H (.inr HP) 20 23 (pt b 0) fun a H => ?_
 refine An.p H (.inr HP) 21 24 (pt b 6) fun a H => ?_
 refine An.p H (.inr HP) 22 25 (pt b 0) fun a H => ?_
 refine An.p H (.inr HP) 23 26 (pt b 0) fun a H => ?_
 refine An.p H (.inr HP) 24 27 (pt b 7) fun a H => ?_
 refine An.one 25 (by kernel_rfl) ?_
 refine Op.alloc H HP 28 (fun b => (.slice (some ⟨b, 0, none⟩) 8 8)) 150 [(pt b 0), (pt b 1), (pt b 2), (pt b 3), (pt b 4), (pt b 5), (pt b 6), (pt b 7)] rfl (by kernel_rfl) (fun w => by kernel_rfl) fun b_2 w_3 a H HP => ?_
 refine ⟨.inr ((HP.tail rfl)), ?_⟩
 refine An.one 26 (by kernel_rfl) ?_
 refine Op.callP H 29 rfl (by kernel_rfl) (Eq.trans (by kernel_rfl : _ = (callFunc 99 #[(pt rb 0), (.slice (some ⟨b_2, 0, none⟩) 8 8)]).run Tryz.prog w_3) (Tryz.call99 _ _)) (numbers_any a0 a1 s k rb b 73 b_2 [(ii 0), (ii 0), (ii 0), (ii 0), (ii 0), (ii 0), (ii 0), (ii 0)] [0, 1, 2, 3, 4, 5, 6, 7] w_3 (HP.fact 1 rfl) hsep (HP.at_ 1 rfl) (HP.at_ 2 rfl) (HP.at_ 0 rfl) hne ⟨HP.neB 0 1 rfl rfl (by decide), HP.neB 0 2 rfl rfl (by decide)⟩ (by simp) (by decide) hl hk) ?_
 rintro e w_4 ⟨hag, (⟨k2, us2, hE, hk2, rfl, hb1, hb2, _⟩ | ⟨l, k2, hE, hk2, hll, rfl, hb1, hb2⟩)⟩
 ·refine .inr ⟨_, rfl, ?_⟩
  intro a H
  have HP := HP.changed2 1 2 rfl rfl (rC s k2) us2 _ rfl (by decide) hag hb1 hb2
  refine H.endP ?_
  exact ⟨HP.agree _ (by simp [bx, rowsR]), .inl ⟨10, k2, us2, by unfold rdM; rw [show rdN s 8 k = .error 10 from hE], .inl rfl, hk2, rfl, HP.at_ 1 rfl, HP.at_ 2 rfl⟩⟩
 refine .inl ⟨_, rfl, ?_⟩
 intro a H
 obtain ⟨z0, z1, z2, z3, z4, z5, z6, z7, rfl⟩ := len8 hll
 have HP := HP.changed2 1 2 rfl rfl (rC s k2) [(ii z0), (ii z1), (ii z2), (ii z3), (ii z4), (ii z5), (ii z6), (ii z7)] _ rfl (by decide) hag hb1 hb2
 refine ⟨.inl (by kernel_rfl), ?_⟩
 refine An.done (by kernel_rfl) ?_
 refine H.end0 (fn := Tryz.f111) Tryz.results111  ?_
 exact ⟨HP.agree _ (by simp [bx, rowsR]), .inr ⟨clOf [z0, z1, z2, z3, z4, z5, z6, z7], k2, by unfold rdM; rw [show rdN s 8 k = .ok ([z0, z1, z2, z3, z4, z5, z6, z7], k2) from hE], hk2, rfl, HP.at_ 1 rfl, HP.at_ 2 rfl⟩⟩
theorem listS_any (a0 a1 : Addr) (s : List UInt8) (k rb br : Nat) (w : World) (hL : LaidP a0 a1 w) (hsep : ∀ j, lpFp a0 a1 j → j ≠ rb) (h : Box w rb 103 (rC s k).toArray) (hbr : Box w br 148 #[.pointer (some ⟨rb, 0, none⟩)]) (hbn : br ≠ rb) (hl : s.length ≤ 1000000) (hk : k ≤ s.length) :
  Calls Tryz.prog 100 #[.pointer (some ⟨rb, 0, none⟩), .int .i64 40, .func (.func 101) #[] #[.pointer (some ⟨br, 0, none⟩)]] w (ListPost 2 altC (rdM altOf s 2) 40 a0 a1 s k rb w) := by
 have HP : Hp w w [bx rb 103 (rC s k) false] [boxK br 148 [.pointer (some ⟨rb, 0, none⟩)], laidK a0 a1] := ((Hp.own h).keepF (laidK a0 a1) hL (laidK_ok _ _) (fun j hj => ⟨hL.lt j hj, by simpa [bx] using hsep j hj⟩)).keepF (boxK br 148 [.pointer (some ⟨rb, 0, none⟩)]) hbr (boxK_ok _ _ _) (fun j hj => ⟨by cases hj; exact hbr.lt, by cases hj; simpa [bx] using hbn⟩)
 refine w_enter 31 [(0, (pt rb 0)), (1, (ii 40)), (2, (.func (.func 101) #[] #[(pt br 0)]))] Tryz.func100 rfl Tryz.ntmps100 (by kernel_rfl) (by kernel_rfl) fun a H => ?_
 refine sq (rg ?_)
 refine H.v 6 (.slice none 0 0) fun a H => ?_
 refine nl (tn (sq (rg ?_)))
 refine H.v 10 (pt rb 0) fun a H => ?_
 refine H.callP 11 (by kernel_rfl) (Eq.trans (by kernel_rfl : _ = (callFunc 128 #[(pt rb 0)]).run Tryz.prog w) (Tryz.call128 _ _)) (number_any a0 a1 s k rb w (HP.fact 1 rfl) hsep (HP.at_ 0 rfl) hl hk) ?_
 rintro e w_1 ⟨hag, (⟨hR, rfl, hbx⟩ | ⟨n, k1, hR, hk1, rfl, hbx⟩)⟩
 ·refine .inr ⟨_, rfl, ?_⟩
  intro a H
  have HP := HP.changed1 0 rfl (rC s k) [bx rb 103 (rC s k) false] (by kernel_rfl) hag hbx
  refine then_panic ?_
  refine H.endP ?_
  exact ⟨HP.agree _ (by simp [bx, rowsR]), .inl ⟨10, k, by unfold rdC; rw [hR], .inl rfl, hk, rfl, HP.at_ 0 rfl⟩⟩
 refine .inl ⟨_, rfl, ?_⟩
 intro a H
 have HP := HP.changed1 0 rfl (rC s k1) [bx rb 103 (rC s k1) false] (by kernel_rfl) hag hbx
 obtain ⟨hn1, hn2⟩ := rdInt_in hk hR
 refine H.v 7 (ii n) fun a H => ?_
 refine nl (tn (sq (sq (rg ?_))))
 refine H.v 12 (ii n) fun a H => H.v 13 (.bool (decide (n < 0))) fun a H => H.v 14 (.bool (decide (n < 0))) fun a H => ?_
 refine H.split 14 rfl (fun g14 H => ?_) (fun g14 H => ?_)
 ·have g14p := of_decide_eq_true g14
  iterate 3 refine H.sx rfl fun a H => ?_
  refine H.vx rfl (.bool true) fun a H => ?_
  refine nl (tn ?_)
  refine w_ift H rfl ?_
  refine rg ?_
  refine H.u 19 (.iface 212 (.pointer (some a1))) (ex_l1 ((HP.fact 1 rfl : LaidP a0 a1 _).c1)) fun a H => ?_
  refine H.panic0 (v := (.iface 212 (.pointer (some a1)))) (w' := w_1) (by kernel_rfl) (by kernel_rfl) ?_
  refine then_panic ?_
  refine H.endP ?_
  exact ⟨HP.agree _ (by simp [bx, rowsR]), .inl ⟨80, k1, by unfold rdC; rw [hR]; simp only; rw [if_pos (by omega)], .inr rfl, hk1, rfl, HP.at_ 0 rfl⟩⟩
 have g14p := of_decide_eq_false g14
 refine H.v 15 (ii n) fun a H => H.v 16 (ii 40) fun a H => H.v 17 (.bool (decide (n > 40))) fun a H => H.v 18 (.bool (decide (n > 40))) fun a H => ?_
 refine nl (tn ?_)
 refine w_if H rfl (fun g18 => ?_) (fun g18 => ?_)
 ·have g18p := of_decide_eq_true g18
  refine rg ?_
  refine H.u 19 (.iface 212 (.pointer (some a1))) (ex_l1 ((HP.fact 1 rfl : LaidP a0 a1 _).c1)) fun a H => ?_
  refine H.panic0 (v := (.iface 212 (.pointer (some a1)))) (w' := w_1) (by kernel_rfl) (by kernel_rfl) ?_
  refine then_panic ?_
  refine H.endP ?_
  exact ⟨HP.agree _ (by simp [bx, rowsR]), .inl ⟨80, k1, by unfold rdC; rw [hR]; simp only; rw [if_pos (by omega)], .inr rfl, hk1, rfl, HP.at_ 0 rfl⟩⟩
 have g18p := of_decide_eq_false g18
 refine sk (tn (sq ?_))
 obtain ⟨m, rfl⟩ : ∃ m : Nat, n = m := ⟨n.toNat, by omega⟩
 have hrel0 : rdC s 40 (rdM altOf s 2) k = rdL (rdM altOf s 2) m k1 := by unfold rdC; rw [hR]; simp only; rw [if_neg (by omega), Int.toNat_natCast]
 refine rg ?_
 refine H.v 8 (.slice none 0 0) fun a H => ?_
 refine nl ?_
 have HP := HP.nilRow w.heap.size 76 2 altC (fun _ _ => True) (fun _ _ => False) elOk_flat
 refine tn (sq (sq (rg ?_)))
 refine H.v 20 (ii m) fun a H => H.v 21 (ii 0) fun a H => ?_
 refine nl (tn (bk ?_))
 refine w_loop (fun mm a wv => ∃ (i : Nat), ∃ (kq : Nat), ∃ (l : List (Int × Int)), ∃ (B : Option Addr), ∃ (cc : Nat), m - i = mm ∧ Sl 31 [(21, (ii i)), (20, (ii m)), (8, (.slice B i cc)), (0, (pt rb 0)), (2, (.func (.func 101) #[] #[(pt br 0)]))] a ∧ Hp w wv [(rowsR w.heap.size 76 2 altC (fun _ _ => True) (fun _ _ => False) (.slice B i cc) l), bx rb 103 (rC s kq) false] [boxK br 148 [.pointer (some ⟨rb, 0, none⟩)], laidK a0 a1] ∧ (i ≤ m) ∧ (l.length = i) ∧ (kq ≤ s.length) ∧ (rdC s 40 (rdM altOf s 2) k = pre (l) (rdL (rdM altOf s 2) (m - i) kq))) (m - 0) ?_ ?_
 ·exact ⟨0, k1, [], none, 0, (by omega), H.keep (by kernel_rfl), HP, (Nat.zero_le _), rfl, hk1, (by rw [hrel0]; exact (pre_nil _).symm)⟩
 rintro mm a w_2 ⟨i, kq, l, B, cc, hmeas, H, HP, hi, hll, hkq, hrel⟩
 refine sq (rg ?_)
 refine H.v 22 (.bool (decide ((i : Int) < (m : Int)))) fun a H => ?_
 refine nl (tn (sq ?_))
 refine w_if H rfl (fun g22 => ?_) (fun g22 => ?_)
 ·have g22p := of_decide_eq_true g22
  refine sk (tn (sq (bk (sq (rg ?_)))))
  refine H.al HP 9 76 [(ii 0), (ii 0)] fun b_3 w_4 a H HP => ?_
  refine nl (tn (sq (rg ?_)))
  refine H.v 23 (.func (.func 101) #[] #[(pt br 0)]) fun a H => ?_
  refine H.callP 24 (by kernel_rfl) (Eq.trans (by kernel_rfl : _ = (callFunc 101 #[(pt b_3 0), (pt br 0)]).run Tryz.prog w_4) (Tryz.call101 _ _)) (rcS_any a0 a1 s kq rb br b_3 w_4 (HP.fact 1 rfl) (fun j hj => ⟨HP.factNe 1 2 rfl rfl j hj, HP.factNe 1 0 rfl rfl j hj⟩) (HP.at_ 2 rfl) (HP.at_ 0 rfl) ((HP.neB 0 2 rfl rfl (by decide)).symm) (HP.fact 0 rfl) ⟨HP.factNe 0 2 rfl rfl br rfl, HP.factNe 0 0 rfl rfl br rfl⟩ hl hkq) ?_
  rintro e w_5 ⟨hag, (⟨E, k2, us2, hE, hE2, hk2, rfl, hb1, hb2⟩ | ⟨x, k2, hE, hk2, rfl, hb1, hb2⟩)⟩
  ·refine .inr ⟨_, rfl, ?_⟩
   intro a H
   have HP := HP.changed2 2 0 rfl rfl (rC s k2) us2 _ rfl (by decide) hag hb1 hb2
   refine then_panic ?_
   refine inb_panic ?_
   refine then_panic ?_
   refine then_panic ?_
   refine inb_panic ?_
   refine then_panic ?_
   refine H.endP ?_
   exact ⟨HP.agree _ (by simp [bx, rowsR]), .inl ⟨E, k2, by rw [hrel, show m - i = (m - (i + 1)) + 1 by omega]; exact rdL_err hE, hE2, hk2, rfl, HP.at_ 2 rfl⟩⟩
  refine .inl ⟨_, rfl, ?_⟩
  intro a H
  have HP := HP.changed2 2 0 rfl rfl (rC s k2) (alL x) _ rfl (by decide) hag hb1 hb2
  refine nl (tn (rg ?_))
  refine H.v 25 (.slice B i cc) fun a H => H.u 26 (alV x) (ex_lN (alL x) (HP.cells 0 rfl 0 2 (by kernel_rfl))) fun a H => H.alloc HP 27 (fun b => (.slice (some ⟨b, 0, none⟩) 1 1)) 76 (alL x) (by kernel_rfl) (fun w => by kernel_rfl) fun b_6 w_7 a H HP => ?_
  have HP := HP.pend0 2 rfl elOk_flat x [bx b_6 76 (alL x) true, bx b_3 76 (alL x) true, (rowsP w.heap.size 76 2 altC (fun _ _ => True) (fun _ _ => False) (.slice B i cc) l x), bx rb 103 (rC s k2) false] (by kernel_rfl) trivial (fun _ h => h)
  refine H.push HP 28 2 0 (v := (.slice B i cc)) (e := 76) (p := x) (l := l) (cs := altC) (ok := (fun _ _ => True)) (fe := (fun _ _ => False)) (size := 2) (z := (.agg #[(ii 0), (ii 0)])) (bytes := 16) (bb := b_6) (tb := 76) (fb := true) (by kernel_rfl) elOk_flat (by kernel_rfl) (by kernel_rfl) rfl (by kernel_rfl) (by kernel_rfl) (by kernel_rfl) (by kernel_rfl) (by kernel_rfl) rfl (by kernel_rfl) (by rw [hll]; unfold maxLen; omega) (by rw [hll]; omega) fun B_8 c_9 w_10 a H HP => ?_
  have HP : Hp w w_10 [bx b_6 76 (alL x) true, bx b_3 76 (alL x) true, (rowsR w.heap.size 76 2 altC (fun _ _ => True) (fun _ _ => False) (.slice B_8 (l.length + 1) c_9) (l ++ [x])), bx rb 103 (rC s k2) false] [boxK br 148 [.pointer (some ⟨rb, 0, none⟩)], laidK a0 a1] := HP
  rw [hll] at H HP
  refine H.v 8 (.slice B_8 (i + 1) c_9) fun a H => ?_
  refine nl (ibn (tn (rg ?_)))
  refine H.valE 29 (ii (IntKind.i64.wrap ((i : Int) + 1))) (ii ((i : Int) + 1)) (by kernel_rfl) (by kernel_rfl) ((by rw [wrap_ini64 _ (by omega)])) fun a H => H.v 21 (ii ((i : Int) + 1)) fun a H => ?_
  refine nl (tn ?_)
  have HP := HP.tail rfl
  have HP := HP.tail rfl
  have H := H.as 21 (ii ((i + 1 : Nat) : Int)) rfl rfl
  refine ⟨_, ?_, i + 1, k2, l ++ [x], B_8, c_9, rfl, H.keep (by kernel_rfl), HP, (by omega), (by rw [List.length_append, hll]; rfl), hk2, (by rw [hrel, show m - i = (m - (i + 1)) + 1 by omega]; exact rdL_step hE)⟩
  omega
 have g22p := of_decide_eq_false g22
 refine wp_exit (then_exit (then_exit ?_))
 refine w_exit_here ?_
 refine tn (sq (rg ?_))
 refine H.v 30 (.slice B i cc) fun a H => H.v 6 (.slice B i cc) fun a H => ?_
 refine nl (tn (rt ?_))
 refine H.r1 (.slice B i cc) Tryz.results100 ?_
 have hrow := HP.held 0 rfl
 have hfr := HP.fresh _ (List.mem_of_getElem? (i := 0) rfl) rfl
 have hres : rdC s 40 (rdM altOf s 2) k = .ok (l, kq) := by rw [hrel, show m - i = 0 by omega]; exact pre_ok _ _
 subst hll
 exact ⟨HP.agree _ (by simp [bx, rowsR]), .inr ⟨B, cc, l, kq, hres, hkq, rfl, HP.at_ 1 rfl, Rd.of_own hrow.1, flat_new hrow, by omega⟩⟩
theorem listI_any (a0 a1 : Addr) (s : List UInt8) (k rb br : Nat) (w : World) (hL : LaidP a0 a1 w) (hsep : ∀ j, lpFp a0 a1 j → j ≠ rb) (h : Box w rb 103 (rC s k).toArray) (hbr : Box w br 148 #[.pointer (some ⟨rb, 0, none⟩)]) (hbn : br ≠ rb) (hl : s.length ≤ 1000000) (hk : k ≤ s.length) :
  Calls Tryz.prog 102 #[.pointer (some ⟨rb, 0, none⟩), .int .i64 4000, .func (.func 103) #[] #[.pointer (some ⟨br, 0, none⟩)]] w (ListPost 5 itC (rdM itOf s 5) 4000 a0 a1 s k rb w) := by
 have HP : Hp w w [bx rb 103 (rC s k) false] [boxK br 148 [.pointer (some ⟨rb, 0, none⟩)], laidK a0 a1] := ((Hp.own h).keepF (laidK a0 a1) hL (laidK_ok _ _) (fun j hj => ⟨hL.lt j hj, by simpa [bx] using hsep j hj⟩)).keepF (boxK br 148 [.pointer (some ⟨rb, 0, none⟩)]) hbr (boxK_ok _ _ _) (fun j hj => ⟨by cases hj; exact hbr.lt, by cases hj; simpa [bx] using hbn⟩)
 refine w_enter 31 [(0, (pt rb 0)), (1, (ii 4000)), (2, (.func (.func 103) #[] #[(pt br 0)]))] Tryz.func102 rfl Tryz.ntmps102 (by kernel_rfl) (by kernel_rfl) fun a H => ?_
 refine sq (rg ?_)
 refine H.v 6 (.slice none 0 0) fun a H => ?_
 refine nl (tn (sq (rg ?_)))
 refine H.v 10 (pt rb 0) fun a H => ?_
 refine H.callP 11 (by kernel_rfl) (Eq.trans (by kernel_rfl : _ = (callFunc 128 #[(pt rb 0)]).run Tryz.prog w) (Tryz.call128 _ _)) (number_any a0 a1 s k rb w (HP.fact 1 rfl) hsep (HP.at_ 0 rfl) hl hk) ?_
 rintro e w_1 ⟨hag, (⟨hR, rfl, hbx⟩ | ⟨n, k1, hR, hk1, rfl, hbx⟩)⟩
 ·refine .inr ⟨_, rfl, ?_⟩
  intro a H
  have HP := HP.changed1 0 rfl (rC s k) [bx rb 103 (rC s k) false] (by kernel_rfl) hag hbx
  refine then_panic ?_
  refine H.endP ?_
  exact ⟨HP.agree _ (by simp [bx, rowsR]), .inl ⟨10, k, by unfold rdC; rw [hR], .inl rfl, hk, rfl, HP.at_ 0 rfl⟩⟩
 refine .inl ⟨_, rfl, ?_⟩
 intro a H
 have HP := HP.changed1 0 rfl (rC s k1) [bx rb 103 (rC s k1) false] (by kernel_rfl) hag hbx
 obtain ⟨hn1, hn2⟩ := rdInt_in hk hR
 refine H.v 7 (ii n) fun a H => ?_
 refine nl (tn (sq (sq (rg ?_))))
 refine H.v 12 (ii n) fun a H => H.v 13 (.bool (decide (n < 0))) fun a H => H.v 14 (.bool (decide (n < 0))) fun a H => ?_
 refine H.split 14 rfl (fun g14 H => ?_) (fun g14 H => ?_)
 ·have g14p := of_decide_eq_true g14
  iterate 3 refine H.sx rfl fun a H => ?_
  refine H.vx rfl (.bool true) fun a H => ?_
  refine nl (tn ?_)
  refine w_ift H rfl ?_
  refine rg ?_
  refine H.u 19 (.iface 212 (.pointer (some a1))) (ex_l1 ((HP.fact 1 rfl : LaidP a0 a1 _).c1)) fun a H => ?_
  refine H.panic0 (v := (.iface 212 (.pointer (some a1)))) (w' := w_1) (by kernel_rfl) (by kernel_rfl) ?_
  refine then_panic ?_
  refine H.endP ?_
  exact ⟨HP.agree _ (by simp [bx, rowsR]), .inl ⟨80, k1, by unfold rdC; rw [hR]; simp only; rw [if_pos (by omega)], .inr rfl, hk1, rfl, HP.at_ 0 rfl⟩⟩
 have g14p := of_decide_eq_false g14
 refine H.v 15 (ii n) fun a H => H.v 16 (ii 4000) fun a H => H.v 17 (.bool (decide (n > 4000))) fun a H => H.v 18 (.bool (decide (n > 4000))) fun a H => ?_
 refine nl (tn ?_)
 refine w_if H rfl (fun g18 => ?_) (fun g18 => ?_)
 ·have g18p := of_decide_eq_true g18
  refine rg ?_
  refine H.u 19 (.iface 212 (.pointer (some a1))) (ex_l1 ((HP.fact 1 rfl : LaidP a0 a1 _).c1)) fun a H => ?_
  refine H.panic0 (v := (.iface 212 (.pointer (some a1)))) (w' := w_1) (by kernel_rfl) (by kernel_rfl) ?_
  refine then_panic ?_
  refine H.endP ?_
  exact ⟨HP.agree _ (by simp [bx, rowsR]), .inl ⟨80, k1, by unfold rdC; rw [hR]; simp only; rw [if_pos (by omega)], .inr rfl, hk1, rfl, HP.at_ 0 rfl⟩⟩
 have g18p := of_decide_eq_false g18
 refine sk (tn (sq ?_))
 obtain ⟨m, rfl⟩ : ∃ m : Nat, n = m := ⟨n.toNat, by omega⟩
 have hrel0 : rdC s 4000 (rdM itOf s 5) k = rdL (rdM itOf s 5) m k1 := by unfold rdC; rw [hR]; simp only; rw [if_neg (by omega), Int.toNat_natCast]
 refine rg ?_
 refine H.v 8 (.slice none 0 0) fun a H => ?_
 refine nl ?_
 have HP := HP.nilRow w.heap.size 38 5 itC (fun _ _ => True) (fun _ _ => False) elOk_flat
 refine tn (sq (sq (rg ?_)))
 refine H.v 20 (ii m) fun a H => H.v 21 (ii 0) fun a H => ?_
 refine nl (tn (bk ?_))
 refine w_loop (fun mm a wv => ∃ (i : Nat), ∃ (kq : Nat), ∃ (l : List (Itm)), ∃ (B : Option Addr), ∃ (cc : Nat), m - i = mm ∧ Sl 31 [(21, (ii i)), (20, (ii m)), (8, (.slice B i cc)), (0, (pt rb 0)), (2, (.func (.func 103) #[] #[(pt br 0)]))] a ∧ Hp w wv [(rowsR w.heap.size 38 5 itC (fun _ _ => True) (fun _ _ => False) (.slice B i cc) l), bx rb 103 (rC s kq) false] [boxK br 148 [.pointer (some ⟨rb, 0, none⟩)], laidK a0 a1] ∧ (i ≤ m) ∧ (l.length = i) ∧ (kq ≤ s.length) ∧ (rdC s 4000 (rdM itOf s 5) k = pre (l) (rdL (rdM itOf s 5) (m - i) kq))) (m - 0) ?_ ?_
 ·exact ⟨0, k1, [], none, 0, (by omega), H.keep (by kernel_rfl), HP, (Nat.zero_le _), rfl, hk1, (by rw [hrel0]; exact (pre_nil _).symm)⟩
 rintro mm a w_2 ⟨i, kq, l, B, cc, hmeas, H, HP, hi, hll, hkq, hrel⟩
 refine sq (rg ?_)
 refine H.v 22 (.bool (decide ((i : Int) < (m : Int)))) fun a H => ?_
 refine nl (tn (sq ?_))
 refine w_if H rfl (fun g22 => ?_) (fun g22 => ?_)
 ·have g22p := of_decide_eq_true g22
  refine sk (tn (sq (bk (sq (rg ?_)))))
  refine H.al HP 9 38 [(ii 0), (ii 0), (ii 0), (ii 0), (ii 0)] fun b_3 w_4 a H HP => ?_
  refine nl (tn (sq (rg ?_)))
  refine H.v 23 (.func (.func 103) #[] #[(pt br 0)]) fun a H => ?_
  refine H.callP 24 (by kernel_rfl) (Eq.trans (by kernel_rfl : _ = (callFunc 103 #[(pt b_3 0), (pt br 0)]).run Tryz.prog w_4) (Tryz.call103 _ _)) (rcI_any a0 a1 s kq rb br b_3 w_4 (HP.fact 1 rfl) (fun j hj => ⟨HP.factNe 1 2 rfl rfl j hj, HP.factNe 1 0 rfl rfl j hj⟩) (HP.at_ 2 rfl) (HP.at_ 0 rfl) ((HP.neB 0 2 rfl rfl (by decide)).symm) (HP.fact 0 rfl) ⟨HP.factNe 0 2 rfl rfl br rfl, HP.factNe 0 0 rfl rfl br rfl⟩ hl hkq) ?_
  rintro e w_5 ⟨hag, (⟨E, k2, us2, hE, hE2, hk2, rfl, hb1, hb2⟩ | ⟨x, k2, hE, hk2, rfl, hb1, hb2⟩)⟩
  ·refine .inr ⟨_, rfl, ?_⟩
   intro a H
   have HP := HP.changed2 2 0 rfl rfl (rC s k2) us2 _ rfl (by decide) hag hb1 hb2
   refine then_panic ?_
   refine inb_panic ?_
   refine then_panic ?_
   refine then_panic ?_
   refine inb_panic ?_
   refine then_panic ?_
   refine H.endP ?_
   exact ⟨HP.agree _ (by simp [bx, rowsR]), .inl ⟨E, k2, by rw [hrel, show m - i = (m - (i + 1)) + 1 by omega]; exact rdL_err hE, hE2, hk2, rfl, HP.at_ 2 rfl⟩⟩
  refine .inl ⟨_, rfl, ?_⟩
  intro a H
  have HP := HP.changed2 2 0 rfl rfl (rC s k2) (itL x) _ rfl (by decide) hag hb1 hb2
  refine nl (tn (rg ?_))
  refine H.v 25 (.slice B i cc) fun a H => H.u 26 (itV x) (ex_lN (itL x) (HP.cells 0 rfl 0 5 (by kernel_rfl))) fun a H => H.alloc HP 27 (fun b => (.slice (some ⟨b, 0, none⟩) 1 1)) 38 (itL x) (by kernel_rfl) (fun w => by kernel_rfl) fun b_6 w_7 a H HP => ?_
  have HP := HP.pend0 2 rfl elOk_flat x [bx b_6 38 (itL x) true, bx b_3 38 (itL x) true, (rowsP w.heap.size 38 5 itC (fun _ _ => True) (fun _ _ => False) (.slice B i cc) l x), bx rb 103 (rC s k2) false] (by kernel_rfl) trivial (fun _ h => h)
  refine H.push HP 28 2 0 (v := (.slice B i cc)) (e := 38) (p := x) (l := l) (cs := itC) (ok := (fun _ _ => True)) (fe := (fun _ _ => False)) (size := 5) (z := (.agg #[(ii 0), (ii 0), (ii 0), (ii 0), (ii 0)])) (bytes := 40) (bb := b_6) (tb := 38) (fb := true) (by kernel_rfl) elOk_flat (by kernel_rfl) (by kernel_rfl) rfl (by kernel_rfl) (by kernel_rfl) (by kernel_rfl) (by kernel_rfl) (by kernel_rfl) rfl (by kernel_rfl) (by rw [hll]; unfold maxLen; omega) (by rw [hll]; omega) fun B_8 c_9 w_10 a H HP => ?_
  have HP : Hp w w_10 [bx b_6 38 (itL x) true, bx b_3 38 (itL x) true, (rowsR w.heap.size 38 5 itC (fun _ _ => True) (fun _ _ => False) (.slice B_8 (l.length + 1) c_9) (l ++ [x])), bx rb 103 (rC s k2) false] [boxK br 148 [.pointer (some ⟨rb, 0, none⟩)], laidK a0 a1] := HP
  rw [hll] at H HP
  refine H.v 8 (.slice B_8 (i + 1) c_9) fun a H => ?_
  refine nl (ibn (tn (rg ?_)))
  refine H.valE 29 (ii (IntKind.i64.wrap ((i : Int) + 1))) (ii ((i : Int) + 1)) (by kernel_rfl) (by kernel_rfl) ((by rw [wrap_ini64 _ (by omega)])) fun a H => H.v 21 (ii ((i : Int) + 1)) fun a H => ?_
  refine nl (tn ?_)
  have HP := HP.tail rfl
  have HP := HP.tail rfl
  have H := H.as 21 (ii ((i + 1 : Nat) : Int)) rfl rfl
  refine ⟨_, ?_, i + 1, k2, l ++ [x], B_8, c_9, rfl, H.keep (by kernel_rfl), HP, (by omega), (by rw [List.length_append, hll]; rfl), hk2, (by rw [hrel, show m - i = (m - (i + 1)) + 1 by omega]; exact rdL_step hE)⟩
  omega
 have g22p := of_decide_eq_false g22
 refine wp_exit (then_exit (then_exit ?_))
 refine w_exit_here ?_
 refine tn (sq (rg ?_))
 refine H.v 30 (.slice B i cc) fun a H => H.v 6 (.slice B i cc) fun a H => ?_
 refine nl (tn (rt ?_))
 refine H.r1 (.slice B i cc) Tryz.results102 ?_
 have hrow := HP.held 0 rfl
 have hfr := HP.fresh _ (List.mem_of_getElem? (i := 0) rfl) rfl
 have hres : rdC s 4000 (rdM itOf s 5) k = .ok (l, kq) := by rw [hrel, show m - i = 0 by omega]; exact pre_ok _ _
 subst hll
 exact ⟨HP.agree _ (by simp [bx, rowsR]), .inr ⟨B, cc, l, kq, hres, hkq, rfl, HP.at_ 1 rfl, Rd.of_own hrow.1, flat_new hrow, by omega⟩⟩
theorem listA_any (a0 a1 : Addr) (s : List UInt8) (k rb br : Nat) (w : World) (hL : LaidP a0 a1 w) (hsep : ∀ j, lpFp a0 a1 j → j ≠ rb) (h : Box w rb 103 (rC s k).toArray) (hbr : Box w br 148 #[.pointer (some ⟨rb, 0, none⟩)]) (hbn : br ≠ rb) (hl : s.length ≤ 1000000) (hk : k ≤ s.length) :
  Calls Tryz.prog 106 #[.pointer (some ⟨rb, 0, none⟩), .int .i64 7, .func (.func 107) #[] #[.pointer (some ⟨br, 0, none⟩)]] w (ListPost 2 altC (rdM altOf s 2) 7 a0 a1 s k rb w) := by
 have HP : Hp w w [bx rb 103 (rC s k) false] [boxK br 148 [.pointer (some ⟨rb, 0, none⟩)], laidK a0 a1] := ((Hp.own h).keepF (laidK a0 a1) hL (laidK_ok _ _) (fun j hj => ⟨hL.lt j hj, by simpa [bx] using hsep j hj⟩)).keepF (boxK br 148 [.pointer (some ⟨rb, 0, none⟩)]) hbr (boxK_ok _ _ _) (fun j hj => ⟨by cases hj; exact hbr.lt, by cases hj; simpa [bx] using hbn⟩)
 refine w_enter 31 [(0, (pt rb 0)), (1, (ii 7)), (2, (.func (.func 107) #[] #[(pt br 0)]))] Tryz.func106 rfl Tryz.ntmps106 (by kernel_rfl) (by kernel_rfl) fun a H => ?_
 refine sq (rg ?_)
 refine H.v 6 (.slice none 0 0) fun a H => ?_
 refine nl (tn (sq (rg ?_)))
 refine H.v 10 (pt rb 0) fun a H => ?_
 refine H.callP 11 (by kernel_rfl) (Eq.trans (by kernel_rfl : _ = (callFunc 128 #[(pt rb 0)]).run Tryz.prog w) (Tryz.call128 _ _)) (number_any a0 a1 s k rb w (HP.fact 1 rfl) hsep (HP.at_ 0 rfl) hl hk) ?_
 rintro e w_1 ⟨hag, (⟨hR, rfl, hbx⟩ | ⟨n, k1, hR, hk1, rfl, hbx⟩)⟩
 ·refine .inr ⟨_, rfl, ?_⟩
  intro a H
  have HP := HP.changed1 0 rfl (rC s k) [bx rb 103 (rC s k) false] (by kernel_rfl) hag hbx
  refine then_panic ?_
  refine H.endP ?_
  exact ⟨HP.agree _ (by simp [bx, rowsR]), .inl ⟨10, k, by unfold rdC; rw [hR], .inl rfl, hk, rfl, HP.at_ 0 rfl⟩⟩
 refine .inl ⟨_, rfl, ?_⟩
 intro a H
 have HP := HP.changed1 0 rfl (rC s k1) [bx rb 103 (rC s k1) false] (by kernel_rfl) hag hbx
 obtain ⟨hn1, hn2⟩ := rdInt_in hk hR
 refine H.v 7 (ii n) fun a H => ?_
 refine nl (tn (sq (sq (rg ?_))))
 refine H.v 12 (ii n) fun a H => H.v 13 (.bool (decide (n < 0))) fun a H => H.v 14 (.bool (decide (n < 0))) fun a H => ?_
 refine H.split 14 rfl (fun g14 H => ?_) (fun g14 H => ?_)
 ·have g14p := of_decide_eq_true g14
  iterate 3 refine H.sx rfl fun a H => ?_
  refine H.vx rfl (.bool true) fun a H => ?_
  refine nl (tn ?_)
  refine w_ift H rfl ?_
  refine rg ?_
  refine H.u 19 (.iface 212 (.pointer (some a1))) (ex_l1 ((HP.fact 1 rfl : LaidP a0 a1 _).c1)) fun a H => ?_
  refine H.panic0 (v := (.iface 212 (.pointer (some a1)))) (w' := w_1) (by kernel_rfl) (by kernel_rfl) ?_
  refine then_panic ?_
  refine H.endP ?_
  exact ⟨HP.agree _ (by simp [bx, rowsR]), .inl ⟨80, k1, by unfold rdC; rw [hR]; simp only; rw [if_pos (by omega)], .inr rfl, hk1, rfl, HP.at_ 0 rfl⟩⟩
 have g14p := of_decide_eq_false g14
 refine H.v 15 (ii n) fun a H => H.v 16 (ii 7) fun a H => H.v 17 (.bool (decide (n > 7))) fun a H => H.v 18 (.bool (decide (n > 7))) fun a H => ?_
 refine nl (tn ?_)
 refine w_if H rfl (fun g18 => ?_) (fun g18 => ?_)
 ·have g18p := of_decide_eq_true g18
  refine rg ?_
  refine H.u 19 (.iface 212 (.pointer (some a1))) (ex_l1 ((HP.fact 1 rfl : LaidP a0 a1 _).c1)) fun a H => ?_
  refine H.panic0 (v := (.iface 212 (.pointer (some a1)))) (w' := w_1) (by kernel_rfl) (by kernel_rfl) ?_
  refine then_panic ?_
  refine H.endP ?_
  exact ⟨HP.agree _ (by simp [bx, rowsR]), .inl ⟨80, k1, by unfold rdC; rw [hR]; simp only; rw [if_pos (by omega)], .inr rfl, hk1, rfl, HP.at_ 0 rfl⟩⟩
 have g18p := of_decide_eq_false g18
 refine sk (tn (sq ?_))
 obtain ⟨m, rfl⟩ : ∃ m : Nat, n = m := ⟨n.toNat, by omega⟩
 have hrel0 : rdC s 7 (rdM altOf s 2) k = rdL (rdM altOf s 2) m k1 := by unfold rdC; rw [hR]; simp only; rw [if_neg (by omega), Int.toNat_natCast]
 refine rg ?_
 refine H.v 8 (.slice none 0 0) fun a H => ?_
 refine nl ?_
 have HP := HP.nilRow w.heap.size 62 2 altC (fun _ _ => True) (fun _ _ => False) elOk_flat
 refine tn (sq (sq (rg ?_)))
 refine H.v 20 (ii m) fun a H => H.v 21 (ii 0) fun a H => ?_
 refine nl (tn (bk ?_))
 refine w_loop (fun mm a wv => ∃ (i : Nat), ∃ (kq : Nat), ∃ (l : List (Int × Int)), ∃ (B : Option Addr), ∃ (cc : Nat), m - i = mm ∧ Sl 31 [(21, (ii i)), (20, (ii m)), (8, (.slice B i cc)), (0, (pt rb 0)), (2, (.func (.func 107) #[] #[(pt br 0)]))] a ∧ Hp w wv [(rowsR w.heap.size 62 2 altC (fun _ _ => True) (fun _ _ => False) (.slice B i cc) l), bx rb 103 (rC s kq) false] [boxK br 148 [.pointer (some ⟨rb, 0, none⟩)], laidK a0 a1] ∧ (i ≤ m) ∧ (l.length = i) ∧ (kq ≤ s.length) ∧ (rdC s 7 (rdM altOf s 2) k = pre (l) (rdL (rdM altOf s 2) (m - i) kq))) (m - 0) ?_ ?_
 ·exact ⟨0, k1, [], none, 0, (by omega), H.keep (by kernel_rfl), HP, (Nat.zero_le _), rfl, hk1, (by rw [hrel0]; exact (pre_nil _).symm)⟩
 rintro mm a w_2 ⟨i, kq, l, B, cc, hmeas, H, HP, hi, hll, hkq, hrel⟩
 refine sq (rg ?_)
 refine H.v 22 (.bool (decide ((i : Int) < (m : Int)))) fun a H => ?_
 refine nl (tn (sq ?_))
 refine w_if H rfl (fun g22 => ?_) (fun g22 => ?_)
 ·have g22p := of_decide_eq_true g22
  refine sk (tn (sq (bk (sq (rg ?_)))))
  refine H.al HP 9 62 [(ii 0), (ii 0)] fun b_3 w_4 a H HP => ?_
  refine nl (tn (sq (rg ?_)))
  refine H.v 23 (.func (.func 107) #[] #[(pt br 0)]) fun a H => ?_
  refine H.callP 24 (by kernel_rfl) (Eq.trans (by kernel_rfl : _ = (callFunc 107 #[(pt b_3 0), (pt br 0)]).run Tryz.prog w_4) (Tryz.call107 _ _)) (rcA_any a0 a1 s kq rb br b_3 w_4 (HP.fact 1 rfl) (fun j hj => ⟨HP.factNe 1 2 rfl rfl j hj, HP.factNe 1 0 rfl rfl j hj⟩) (HP.at_ 2 rfl) (HP.at_ 0 rfl) ((HP.neB 0 2 rfl rfl (by decide)).symm) (HP.fact 0 rfl) ⟨HP.factNe 0 2 rfl rfl br rfl, HP.factNe 0 0 rfl rfl br rfl⟩ hl hkq) ?_
  rintro e w_5 ⟨hag, (⟨E, k2, us2, hE, hE2, hk2, rfl, hb1, hb2⟩ | ⟨x, k2, hE, hk2, rfl, hb1, hb2⟩)⟩
  ·refine .inr ⟨_, rfl, ?_⟩
   intro a H
   have HP := HP.changed2 2 0 rfl rfl (rC s k2) us2 _ rfl (by decide) hag hb1 hb2
   refine then_panic ?_
   refine inb_panic ?_
   refine then_panic ?_
   refine then_panic ?_
   refine inb_panic ?_
   refine then_panic ?_
   refine H.endP ?_
   exact ⟨HP.agree _ (by simp [bx, rowsR]), .inl ⟨E, k2, by rw [hrel, show m - i = (m - (i + 1)) + 1 by omega]; exact rdL_err hE, hE2, hk2, rfl, HP.at_ 2 rfl⟩⟩
  refine .inl ⟨_, rfl, ?_⟩
  intro a H
  have HP := HP.changed2 2 0 rfl rfl (rC s k2) (alL x) _ rfl (by decide) hag hb1 hb2
  refine nl (tn (rg ?_))
  refine H.v 25 (.slice B i cc) fun a H => H.u 26 (alV x) (ex_lN (alL x) (HP.cells 0 rfl 0 2 (by kernel_rfl))) fun a H => H.alloc HP 27 (fun b => (.slice (some ⟨b, 0, none⟩) 1 1)) 62 (alL x) (by kernel_rfl) (fun w => by kernel_rfl) fun b_6 w_7 a H HP => ?_
  have HP := HP.pend0 2 rfl elOk_flat x [bx b_6 62 (alL x) true, bx b_3 62 (alL x) true, (rowsP w.heap.size 62 2 altC (fun _ _ => True) (fun _ _ => False) (.slice B i cc) l x), bx rb 103 (rC s k2) false] (by kernel_rfl) trivial (fun _ h => h)
  refine H.push HP 28 2 0 (v := (.slice B i cc)) (e := 62) (p := x) (l := l) (cs := altC) (ok := (fun _ _ => True)) (fe := (fun _ _ => False)) (size := 2) (z := (.agg #[(ii 0), (ii 0)])) (bytes := 16) (bb := b_6) (tb := 62) (fb := true) (by kernel_rfl) elOk_flat (by kernel_rfl) (by kernel_rfl) rfl (by kernel_rfl) (by kernel_rfl) (by kernel_rfl) (by kernel_rfl) (by kernel_rfl) rfl (by kernel_rfl) (by rw [hll]; unfold maxLen; omega) (by rw [hll]; omega) fun B_8 c_9 w_10 a H HP => ?_
  have HP : Hp w w_10 [bx b_6 62 (alL x) true, bx b_3 62 (alL x) true, (rowsR w.heap.size 62 2 altC (fun _ _ => True) (fun _ _ => False) (.slice B_8 (l.length + 1) c_9) (l ++ [x])), bx rb 103 (rC s k2) false] [boxK br 148 [.pointer (some ⟨rb, 0, none⟩)], laidK a0 a1] := HP
  rw [hll] at H HP
  refine H.v 8 (.slice B_8 (i + 1) c_9) fun a H => ?_
  refine nl (ibn (tn (rg ?_)))
  refine H.valE 29 (ii (IntKind.i64.wrap ((i : Int) + 1))) (ii ((i : Int) + 1)) (by kernel_rfl) (by kernel_rfl) ((by rw [wrap_ini64 _ (by omega)])) fun a H => H.v 21 (ii ((i : Int) + 1)) fun a H => ?_
  refine nl (tn ?_)
  have HP := HP.tail rfl
  have HP := HP.tail rfl
  have H := H.as 21 (ii ((i + 1 : Nat) : Int)) rfl rfl
  refine ⟨_, ?_, i + 1, k2, l ++ [x], B_8, c_9, rfl, H.keep (by kernel_rfl), HP, (by omega), (by rw [List.length_append, hll]; rfl), hk2, (by rw [hrel, show m - i = (m - (i + 1)) + 1 by omega]; exact rdL_step hE)⟩
  omega
 have g22p := of_decide_eq_false g22
 refine wp_exit (then_exit (then_exit ?_))
 refine w_exit_here ?_
 refine tn (sq (rg ?_))
 refine H.v 30 (.slice B i cc) fun a H => H.v 6 (.slice B i cc) fun a H => ?_
 refine nl (tn (rt ?_))
 refine H.r1 (.slice B i cc) Tryz.results106 ?_
 have hrow := HP.held 0 rfl
 have hfr := HP.fresh _ (List.mem_of_getElem? (i := 0) rfl) rfl
 have hres : rdC s 7 (rdM altOf s 2) k = .ok (l, kq) := by rw [hrel, show m - i = 0 by omega]; exact pre_ok _ _
 subst hll
 exact ⟨HP.agree _ (by simp [bx, rowsR]), .inr ⟨B, cc, l, kq, hres, hkq, rfl, HP.at_ 1 rfl, Rd.of_own hrow.1, flat_new hrow, by omega⟩⟩
theorem listB_any (a0 a1 : Addr) (s : List UInt8) (k rb br : Nat) (w : World) (hL : LaidP a0 a1 w) (hsep : ∀ j, lpFp a0 a1 j → j ≠ rb) (h : Box w rb 103 (rC s k).toArray) (hbr : Box w br 148 #[.pointer (some ⟨rb, 0, none⟩)]) (hbn : br ≠ rb) (hl : s.length ≤ 1000000) (hk : k ≤ s.length) :
  Calls Tryz.prog 108 #[.pointer (some ⟨rb, 0, none⟩), .int .i64 2000, .func (.func 109) #[] #[.pointer (some ⟨br, 0, none⟩)]] w (ListPost 7 bkC (rdM bkOf s 7) 2000 a0 a1 s k rb w) := by
 have HP : Hp w w [bx rb 103 (rC s k) false] [boxK br 148 [.pointer (some ⟨rb, 0, none⟩)], laidK a0 a1] := ((Hp.own h).keepF (laidK a0 a1) hL (laidK_ok _ _) (fun j hj => ⟨hL.lt j hj, by simpa [bx] using hsep j hj⟩)).keepF (boxK br 148 [.pointer (some ⟨rb, 0, none⟩)]) hbr (boxK_ok _ _ _) (fun j hj => ⟨by cases hj; exact hbr.lt, by cases hj; simpa [bx] using hbn⟩)
 refine w_enter 31 [(0, (pt rb 0)), (1, (ii 2000)), (2, (.func (.func 109) #[] #[(pt br 0)]))] Tryz.func108 rfl Tryz.ntmps108 (by kernel_rfl) (by kernel_rfl) fun a H => ?_
 refine sq (rg ?_)
 refine H.v 6 (.slice none 0 0) fun a H => ?_
 refine nl (tn (sq (rg ?_)))
 refine H.v 10 (pt rb 0) fun a H => ?_
 refine H.callP 11 (by kernel_rfl) (Eq.trans (by kernel_rfl : _ = (callFunc 128 #[(pt rb 0)]).run Tryz.prog w) (Tryz.call128 _ _)) (number_any a0 a1 s k rb w (HP.fact 1 rfl) hsep (HP.at_ 0 rfl) hl hk) ?_
 rintro e w_1 ⟨hag, (⟨hR, rfl, hbx⟩ | ⟨n, k1, hR, hk1, rfl, hbx⟩)⟩
 ·refine .inr ⟨_, rfl, ?_⟩
  intro a H
  have HP := HP.changed1 0 rfl (rC s k) [bx rb 103 (rC s k) false] (by kernel_rfl) hag hbx
  refine then_panic ?_
  refine H.endP ?_
  exact ⟨HP.agree _ (by simp [bx, rowsR]), .inl ⟨10, k, by unfold rdC; rw [hR], .inl rfl, hk, rfl, HP.at_ 0 rfl⟩⟩
 refine .inl ⟨_, rfl, ?_⟩
 intro a H
 have HP := HP.changed1 0 rfl (rC s k1) [bx rb 103 (rC s k1) false] (by kernel_rfl) hag hbx
 obtain ⟨hn1, hn2⟩ := rdInt_in hk hR
 refine H.v 7 (ii n) fun a H => ?_
 refine nl (tn (sq (sq (rg ?_))))
 refine H.v 12 (ii n) fun a H => H.v 13 (.bool (decide (n < 0))) fun a H => H.v 14 (.bool (decide (n < 0))) fun a H => ?_
 refine H.split 14 rfl (fun g14 H => ?_) (fun g14 H => ?_)
 ·have g14p := of_decide_eq_true g14
  iterate 3 refine H.sx rfl fun a H => ?_
  refine H.vx rfl (.bool true) fun a H => ?_
  refine nl (tn ?_)
  refine w_ift H rfl ?_
  refine rg ?_
  refine H.u 19 (.iface 212 (.pointer (some a1))) (ex_l1 ((HP.fact 1 rfl : LaidP a0 a1 _).c1)) fun a H => ?_
  refine H.panic0 (v := (.iface 212 (.pointer (some a1)))) (w' := w_1) (by kernel_rfl) (by kernel_rfl) ?_
  refine then_panic ?_
  refine H.endP ?_
  exact ⟨HP.agree _ (by simp [bx, rowsR]), .inl ⟨80, k1, by unfold rdC; rw [hR]; simp only; rw [if_pos (by omega)], .inr rfl, hk1, rfl, HP.at_ 0 rfl⟩⟩
 have g14p := of_decide_eq_false g14
 refine H.v 15 (ii n) fun a H => H.v 16 (ii 2000) fun a H => H.v 17 (.bool (decide (n > 2000))) fun a H => H.v 18 (.bool (decide (n > 2000))) fun a H => ?_
 refine nl (tn ?_)
 refine w_if H rfl (fun g18 => ?_) (fun g18 => ?_)
 ·have g18p := of_decide_eq_true g18
  refine rg ?_
  refine H.u 19 (.iface 212 (.pointer (some a1))) (ex_l1 ((HP.fact 1 rfl : LaidP a0 a1 _).c1)) fun a H => ?_
  refine H.panic0 (v := (.iface 212 (.pointer (some a1)))) (w' := w_1) (by kernel_rfl) (by kernel_rfl) ?_
  refine then_panic ?_
  refine H.endP ?_
  exact ⟨HP.agree _ (by simp [bx, rowsR]), .inl ⟨80, k1, by unfold rdC; rw [hR]; simp only; rw [if_pos (by omega)], .inr rfl, hk1, rfl, HP.at_ 0 rfl⟩⟩
 have g18p := of_decide_eq_false g18
 refine sk (tn (sq ?_))
 obtain ⟨m, rfl⟩ : ∃ m : Nat, n = m := ⟨n.toNat, by omega⟩
 have hrel0 : rdC s 2000 (rdM bkOf s 7) k = rdL (rdM bkOf s 7) m k1 := by unfold rdC; rw [hR]; simp only; rw [if_neg (by omega), Int.toNat_natCast]
 refine rg ?_
 refine H.v 8 (.slice none 0 0) fun a H => ?_
 refine nl ?_
 have HP := HP.nilRow w.heap.size 47 7 bkC (fun _ _ => True) (fun _ _ => False) elOk_flat
 refine tn (sq (sq (rg ?_)))
 refine H.v 20 (ii m) fun a H => H.v 21 (ii 0) fun a H => ?_
 refine nl (tn (bk ?_))
 refine w_loop (fun mm a wv => ∃ (i : Nat), ∃ (kq : Nat), ∃ (l : List (Bkg)), ∃ (B : Option Addr), ∃ (cc : Nat), m - i = mm ∧ Sl 31 [(21, (ii i)), (20, (ii m)), (8, (.slice B i cc)), (0, (pt rb 0)), (2, (.func (.func 109) #[] #[(pt br 0)]))] a ∧ Hp w wv [(rowsR w.heap.size 47 7 bkC (fun _ _ => True) (fun _ _ => False) (.slice B i cc) l), bx rb 103 (rC s kq) false] [boxK br 148 [.pointer (some ⟨rb, 0, none⟩)], laidK a0 a1] ∧ (i ≤ m) ∧ (l.length = i) ∧ (kq ≤ s.length) ∧ (rdC s 2000 (rdM bkOf s 7) k = pre (l) (rdL (rdM bkOf s 7) (m - i) kq))) (m - 0) ?_ ?_
 ·exact ⟨0, k1, [], none, 0, (by omega), H.keep (by kernel_rfl), HP, (Nat.zero_le _), rfl, hk1, (by rw [hrel0]; exact (pre_nil _).symm)⟩
 rintro mm a w_2 ⟨i, kq, l, B, cc, hmeas, H, HP, hi, hll, hkq, hrel⟩
 refine sq (rg ?_)
 refine H.v 22 (.bool (decide ((i : Int) < (m : Int)))) fun a H => ?_
 refine nl (tn (sq ?_))
 refine w_if H rfl (fun g22 => ?_) (fun g22 => ?_)
 ·have g22p := of_decide_eq_true g22
  refine sk (tn (sq (bk (sq (rg ?_)))))
  refine H.al HP 9 47 [(ii 0), (ii 0), (ii 0), (ii 0), (ii 0), (ii 0), (ii 0)] fun b_3 w_4 a H HP => ?_
  refine nl (tn (sq (rg ?_)))
  refine H.v 23 (.func (.func 109) #[] #[(pt br 0)]) fun a H => ?_
  refine H.callP 24 (by kernel_rfl) (Eq.trans (by kernel_rfl : _ = (callFunc 109 #[(pt b_3 0), (pt br 0)]).run Tryz.prog w_4) (Tryz.call109 _ _)) (rcB_any a0 a1 s kq rb br b_3 w_4 (HP.fact 1 rfl) (fun j hj => ⟨HP.factNe 1 2 rfl rfl j hj, HP.factNe 1 0 rfl rfl j hj⟩) (HP.at_ 2 rfl) (HP.at_ 0 rfl) ((HP.neB 0 2 rfl rfl (by decide)).symm) (HP.fact 0 rfl) ⟨HP.factNe 0 2 rfl rfl br rfl, HP.factNe 0 0 rfl rfl br rfl⟩ hl hkq) ?_
  rintro e w_5 ⟨hag, (⟨E, k2, us2, hE, hE2, hk2, rfl, hb1, hb2⟩ | ⟨x, k2, hE, hk2, rfl, hb1, hb2⟩)⟩
  ·refine .inr ⟨_, rfl, ?_⟩
   intro a H
   have HP := HP.changed2 2 0 rfl rfl (rC s k2) us2 _ rfl (by decide) hag hb1 hb2
   refine then_panic ?_
   refine inb_panic ?_
   refine then_panic ?_
   refine then_panic ?_
   refine inb_panic ?_
   refine then_panic ?_
   refine H.endP ?_
   exact ⟨HP.agree _ (by simp [bx, rowsR]), .inl ⟨E, k2, by rw [hrel, show m - i = (m - (i + 1)) + 1 by omega]; exact rdL_err hE, hE2, hk2, rfl, HP.at_ 2 rfl⟩⟩
  refine .inl ⟨_, rfl, ?_⟩
  intro a H
  have HP := HP.changed2 2 0 rfl rfl (rC s k2) (bkL x) _ rfl (by decide) hag hb1 hb2
  refine nl (tn (rg ?_))
  refine H.v 25 (.slice B i cc) fun a H => H.u 26 (bkV x) (ex_lN (bkL x) (HP.cells 0 rfl 0 7 (by kernel_rfl))) fun a H => H.alloc HP 27 (fun b => (.slice (some ⟨b, 0, none⟩) 1 1)) 47 (bkL x) (by kernel_rfl) (fun w => by kernel_rfl) fun b_6 w_7 a H HP => ?_
  have HP := HP.pend0 2 rfl elOk_flat x [bx b_6 47 (bkL x) true, bx b_3 47 (bkL x) true, (rowsP w.heap.size 47 7 bkC (fun _ _ => True) (fun _ _ => False) (.slice B i cc) l x), bx rb 103 (rC s k2) false] (by kernel_rfl) trivial (fun _ h => h)
  refine H.push HP 28 2 0 (v := (.slice B i cc)) (e := 47) (p := x) (l := l) (cs := bkC) (ok := (fun _ _ => True)) (fe := (fun _ _ => False)) (size := 7) (z := (.agg #[(ii 0), (ii 0), (ii 0), (ii 0), (ii 0), (ii 0), (ii 0)])) (bytes := 56) (bb := b_6) (tb := 47) (fb := true) (by kernel_rfl) elOk_flat (by kernel_rfl) (by kernel_rfl) rfl (by kernel_rfl) (by kernel_rfl) (by kernel_rfl) (by kernel_rfl) (by kernel_rfl) rfl (by kernel_rfl) (by rw [hll]; unfold maxLen; omega) (by rw [hll]; omega) fun B_8 c_9 w_10 a H HP => ?_
  have HP : Hp w w_10 [bx b_6 47 (bkL x) true, bx b_3 47 (bkL x) true, (rowsR w.heap.size 47 7 bkC (fun _ _ => True) (fun _ _ => False) (.slice B_8 (l.length + 1) c_9) (l ++ [x])), bx rb 103 (rC s k2) false] [boxK br 148 [.pointer (some ⟨rb, 0, none⟩)], laidK a0 a1] := HP
  rw [hll] at H HP
  refine H.v 8 (.slice B_8 (i + 1) c_9) fun a H => ?_
  refine nl (ibn (tn (rg ?_)))
  refine H.valE 29 (ii (IntKind.i64.wrap ((i : Int) + 1))) (ii ((i : Int) + 1)) (by kernel_rfl) (by kernel_rfl) ((by rw [wrap_ini64 _ (by omega)])) fun a H => H.v 21 (ii ((i : Int) + 1)) fun a H => ?_
  refine nl (tn ?_)
  have HP := HP.tail rfl
  have HP := HP.tail rfl
  have H := H.as 21 (ii ((i + 1 : Nat) : Int)) rfl rfl
  refine ⟨_, ?_, i + 1, k2, l ++ [x], B_8, c_9, rfl, H.keep (by kernel_rfl), HP, (by omega), (by rw [List.length_append, hll]; rfl), hk2, (by rw [hrel, show m - i = (m - (i + 1)) + 1 by omega]; exact rdL_step hE)⟩
  omega
 have g22p := of_decide_eq_false g22
 refine wp_exit (then_exit (then_exit ?_))
 refine w_exit_here ?_
 refine tn (sq (rg ?_))
 refine H.v 30 (.slice B i cc) fun a H => H.v 6 (.slice B i cc) fun a H => ?_
 refine nl (tn (rt ?_))
 refine H.r1 (.slice B i cc) Tryz.results108 ?_
 have hrow := HP.held 0 rfl
 have hfr := HP.fresh _ (List.mem_of_getElem? (i := 0) rfl) rfl
 have hres : rdC s 2000 (rdM bkOf s 7) k = .ok (l, kq) := by rw [hrel, show m - i = 0 by omega]; exact pre_ok _ _
 subst hll
 exact ⟨HP.agree _ (by simp [bx, rowsR]), .inr ⟨B, cc, l, kq, hres, hkq, rfl, HP.at_ 1 rfl, Rd.of_own hrow.1, flat_new hrow, by omega⟩⟩
theorem listC_any (a0 a1 : Addr) (s : List UInt8) (k rb br : Nat) (w : World) (hL : LaidP a0 a1 w) (hsep : ∀ j, lpFp a0 a1 j → j ≠ rb) (h : Box w rb 103 (rC s k).toArray) (hbr : Box w br 148 #[.pointer (some ⟨rb, 0, none⟩)]) (hbn : br ≠ rb) (hl : s.length ≤ 1000000) (hk : k ≤ s.length) :
  Calls Tryz.prog 110 #[.pointer (some ⟨rb, 0, none⟩), .int .i64 400, .func (.func 111) #[] #[.pointer (some ⟨br, 0, none⟩)]] w (ListPost 8 clC (rdM clOf s 8) 400 a0 a1 s k rb w) := by
 have HP : Hp w w [bx rb 103 (rC s k) false] [boxK br 148 [.pointer (some ⟨rb, 0, none⟩)], laidK a0 a1] := ((Hp.own h).keepF (laidK a0 a1) hL (laidK_ok _ _) (fun j hj => ⟨hL.lt j hj, by simpa [bx] using hsep j hj⟩)).keepF (boxK br 148 [.pointer (some ⟨rb, 0, none⟩)]) hbr (boxK_ok _ _ _) (fun j hj => ⟨by cases hj; exact hbr.lt, by cases hj; simpa [bx] using hbn⟩)
 refine w_enter 31 [(0, (pt rb 0)), (1, (ii 400)), (2, (.func (.func 111) #[] #[(pt br 0)]))] Tryz.func110 rfl Tryz.ntmps110 (by kernel_rfl) (by kernel_rfl) fun a H => ?_
 refine sq (rg ?_)
 refine H.v 6 (.slice none 0 0) fun a H => ?_
 refine nl (tn (sq (rg ?_)))
 refine H.v 10 (pt rb 0) fun a H => ?_
 refine H.callP 11 (by kernel_rfl) (Eq.trans (by kernel_rfl : _ = (callFunc 128 #[(pt rb 0)]).run Tryz.prog w) (Tryz.call128 _ _)) (number_any a0 a1 s k rb w (HP.fact 1 rfl) hsep (HP.at_ 0 rfl) hl hk) ?_
 rintro e w_1 ⟨hag, (⟨hR, rfl, hbx⟩ | ⟨n, k1, hR, hk1, rfl, hbx⟩)⟩
 ·refine .inr ⟨_, rfl, ?_⟩
  intro a H
  have HP := HP.changed1 0 rfl (rC s k) [bx rb 103 (rC s k) false] (by kernel_rfl) hag hbx
  refine then_panic ?_
  refine H.endP ?_
  exact ⟨HP.agree _ (by simp [bx, rowsR]), .inl ⟨10, k, by unfold rdC; rw [hR], .inl rfl, hk, rfl, HP.at_ 0 rfl⟩⟩
 refine .inl ⟨_, rfl, ?_⟩
 intro a H
 have HP := HP.changed1 0 rfl (rC s k1) [bx rb 103 (rC s k1) false] (by kernel_rfl) hag hbx
 obtain ⟨hn1, hn2⟩ := rdInt_in hk hR
 refine H.v 7 (ii n) fun a H => ?_
 refine nl (tn (sq (sq (rg ?_))))
 refine H.v 12 (ii n) fun a H => H.v 13 (.bool (decide (n < 0))) fun a H => H.v 14 (.bool (decide (n < 0))) fun a H => ?_
 refine H.split 14 rfl (fun g14 H => ?_) (fun g14 H => ?_)
 ·have g14p := of_decide_eq_true g14
  iterate 3 refine H.sx rfl fun a H => ?_
  refine H.vx rfl (.bool true) fun a H => ?_
  refine nl (tn ?_)
  refine w_ift H rfl ?_
  refine rg ?_
  refine H.u 19 (.iface 212 (.pointer (some a1))) (ex_l1 ((HP.fact 1 rfl : LaidP a0 a1 _).c1)) fun a H => ?_
  refine H.panic0 (v := (.iface 212 (.pointer (some a1)))) (w' := w_1) (by kernel_rfl) (by kernel_rfl) ?_
  refine then_panic ?_
  refine H.endP ?_
  exact ⟨HP.agree _ (by simp [bx, rowsR]), .inl ⟨80, k1, by unfold rdC; rw [hR]; simp only; rw [if_pos (by omega)], .inr rfl, hk1, rfl, HP.at_ 0 rfl⟩⟩
 have g14p := of_decide_eq_false g14
 refine H.v 15 (ii n) fun a H => H.v 16 (ii 400) fun a H => H.v 17 (.bool (decide (n > 400))) fun a H => H.v 18 (.bool (decide (n > 400))) fun a H => ?_
 refine nl (tn ?_)
 refine w_if H rfl (fun g18 => ?_) (fun g18 => ?_)
 ·have g18p := of_decide_eq_true g18
  refine rg ?_
  refine H.u 19 (.iface 212 (.pointer (some a1))) (ex_l1 ((HP.fact 1 rfl : LaidP a0 a1 _).c1)) fun a H => ?_
  refine H.panic0 (v := (.iface 212 (.pointer (some a1)))) (w' := w_1) (by kernel_rfl) (by kernel_rfl) ?_
  refine then_panic ?_
  refine H.endP ?_
  exact ⟨HP.agree _ (by simp [bx, rowsR]), .inl ⟨80, k1, by unfold rdC; rw [hR]; simp only; rw [if_pos (by omega)], .inr rfl, hk1, rfl, HP.at_ 0 rfl⟩⟩
 have g18p := of_decide_eq_false g18
 refine sk (tn (sq ?_))
 obtain ⟨m, rfl⟩ : ∃ m : Nat, n = m := ⟨n.toNat, by omega⟩
 have hrel0 : rdC s 400 (rdM clOf s 8) k = rdL (rdM clOf s 8) m k1 := by unfold rdC; rw [hR]; simp only; rw [if_neg (by omega), Int.toNat_natCast]
 refine rg ?_
 refine H.v 8 (.slice none 0 0) fun a H => ?_
 refine nl ?_
 have HP := HP.nilRow w.heap.size 73 8 clC (fun _ _ => True) (fun _ _ => False) elOk_flat
 refine tn (sq (sq (rg ?_)))
 refine H.v 20 (ii m) fun a H => H.v 21 (ii 0) fun a H => ?_
 refine nl (tn (bk ?_))
 refine w_loop (fun mm a wv => ∃ (i : Nat), ∃ (kq : Nat), ∃ (l : List (Cls)), ∃ (B : Option Addr), ∃ (cc : Nat), m - i = mm ∧ Sl 31 [(21, (ii i)), (20, (ii m)), (8, (.slice B i cc)), (0, (pt rb 0)), (2, (.func (.func 111) #[] #[(pt br 0)]))] a ∧ Hp w wv [(rowsR w.heap.size 73 8 clC (fun _ _ => True) (fun _ _ => False) (.slice B i cc) l), bx rb 103 (rC s kq) false] [boxK br 148 [.pointer (some ⟨rb, 0, none⟩)], laidK a0 a1] ∧ (i ≤ m) ∧ (l.length = i) ∧ (kq ≤ s.length) ∧ (rdC s 400 (rdM clOf s 8) k = pre (l) (rdL (rdM clOf s 8) (m - i) kq))) (m - 0) ?_ ?_
 ·exact ⟨0, k1, [], none, 0, (by omega), H.keep (by kernel_rfl), HP, (Nat.zero_le _), rfl, hk1, (by rw [hrel0]; exact (pre_nil _).symm)⟩
 rintro mm a w_2 ⟨i, kq, l, B, cc, hmeas, H, HP, hi, hll, hkq, hrel⟩
 refine sq (rg ?_)
 refine H.v 22 (.bool (decide ((i : Int) < (m : Int)))) fun a H => ?_
 refine nl (tn (sq ?_))
 refine w_if H rfl (fun g22 => ?_) (fun g22 => ?_)
 ·have g22p := of_decide_eq_true g22
  refine sk (tn (sq (bk (sq (rg ?_)))))
  refine H.al HP 9 73 [(ii 0), (ii 0), (ii 0), (ii 0), (ii 0), (ii 0), (ii 0), (ii 0)] fun b_3 w_4 a H HP => ?_
  refine nl (tn (sq (rg ?_)))
  refine H.v 23 (.func (.func 111) #[] #[(pt br 0)]) fun a H => ?_
  refine H.callP 24 (by kernel_rfl) (Eq.trans (by kernel_rfl : _ = (callFunc 111 #[(pt b_3 0), (pt br 0)]).run Tryz.prog w_4) (Tryz.call111 _ _)) (rcC_any a0 a1 s kq rb br b_3 w_4 (HP.fact 1 rfl) (fun j hj => ⟨HP.factNe 1 2 rfl rfl j hj, HP.factNe 1 0 rfl rfl j hj⟩) (HP.at_ 2 rfl) (HP.at_ 0 rfl) ((HP.neB 0 2 rfl rfl (by decide)).symm) (HP.fact 0 rfl) ⟨HP.factNe 0 2 rfl rfl br rfl, HP.factNe 0 0 rfl rfl br rfl⟩ hl hkq) ?_
  rintro e w_5 ⟨hag, (⟨E, k2, us2, hE, hE2, hk2, rfl, hb1, hb2⟩ | ⟨x, k2, hE, hk2, rfl, hb1, hb2⟩)⟩
  ·refine .inr ⟨_, rfl, ?_⟩
   intro a H
   have HP := HP.changed2 2 0 rfl rfl (rC s k2) us2 _ rfl (by decide) hag hb1 hb2
   refine then_panic ?_
   refine inb_panic ?_
   refine then_panic ?_
   refine then_panic ?_
   refine inb_panic ?_
   refine then_panic ?_
   refine H.endP ?_
   exact ⟨HP.agree _ (by simp [bx, rowsR]), .inl ⟨E, k2, by rw [hrel, show m - i = (m - (i + 1)) + 1 by omega]; exact rdL_err hE, hE2, hk2, rfl, HP.at_ 2 rfl⟩⟩
  refine .inl ⟨_, rfl, ?_⟩
  intro a H
  have HP := HP.changed2 2 0 rfl rfl (rC s k2) (clL x) _ rfl (by decide) hag hb1 hb2
  refine nl (tn (rg ?_))
  refine H.v 25 (.slice B i cc) fun a H => H.u 26 (clV x) (ex_lN (clL x) (HP.cells 0 rfl 0 8 (by kernel_rfl))) fun a H => H.alloc HP 27 (fun b => (.slice (some ⟨b, 0, none⟩) 1 1)) 73 (clL x) (by kernel_rfl) (fun w => by kernel_rfl) fun b_6 w_7 a H HP => ?_
  have HP := HP.pend0 2 rfl elOk_flat x [bx b_6 73 (clL x) true, bx b_3 73 (clL x) true, (rowsP w.heap.size 73 8 clC (fun _ _ => True) (fun _ _ => False) (.slice B i cc) l x), bx rb 103 (rC s k2) false] (by kernel_rfl) trivial (fun _ h => h)
  refine H.push HP 28 2 0 (v := (.slice B i cc)) (e := 73) (p := x) (l := l) (cs := clC) (ok := (fun _ _ => True)) (fe := (fun _ _ => False)) (size := 8) (z := (.agg #[(ii 0), (ii 0), (ii 0), (ii 0), (ii 0), (ii 0), (ii 0), (ii 0)])) (bytes := 64) (bb := b_6) (tb := 73) (fb := true) (by kernel_rfl) elOk_flat (by kernel_rfl) (by kernel_rfl) rfl (by kernel_rfl) (by kernel_rfl) (by kernel_rfl) (by kernel_rfl) (by kernel_rfl) rfl (by kernel_rfl) (by rw [hll]; unfold maxLen; omega) (by rw [hll]; omega) fun B_8 c_9 w_10 a H HP => ?_
  have HP : Hp w w_10 [bx b_6 73 (clL x) true, bx b_3 73 (clL x) true, (rowsR w.heap.size 73 8 clC (fun _ _ => True) (fun _ _ => False) (.slice B_8 (l.length + 1) c_9) (l ++ [x])), bx rb 103 (rC s k2) false] [boxK br 148 [.pointer (some ⟨rb, 0, none⟩)], laidK a0 a1] := HP
  rw [hll] at H HP
  refine H.v 8 (.slice B_8 (i + 1) c_9) fun a H => ?_
  refine nl (ibn (tn (rg ?_)))
  refine H.valE 29 (ii (IntKind.i64.wrap ((i : Int) + 1))) (ii ((i : Int) + 1)) (by kernel_rfl) (by kernel_rfl) ((by rw [wrap_ini64 _ (by omega)])) fun a H => H.v 21 (ii ((i : Int) + 1)) fun a H => ?_
  refine nl (tn ?_)
  have HP := HP.tail rfl
  have HP := HP.tail rfl
  have H := H.as 21 (ii ((i + 1 : Nat) : Int)) rfl rfl
  refine ⟨_, ?_, i + 1, k2, l ++ [x], B_8, c_9, rfl, H.keep (by kernel_rfl), HP, (by omega), (by rw [List.length_append, hll]; rfl), hk2, (by rw [hrel, show m - i = (m - (i + 1)) + 1 by omega]; exact rdL_step hE)⟩
  omega
 have g22p := of_decide_eq_false g22
 refine wp_exit (then_exit (then_exit ?_))
 refine w_exit_here ?_
 refine tn (sq (rg ?_))
 refine H.v 30 (.slice B i cc) fun a H => H.v 6 (.slice B i cc) fun a H => ?_
 refine nl (tn (rt ?_))
 refine H.r1 (.slice B i cc) Tryz.results110 ?_
 have hrow := HP.held 0 rfl
 have hfr := HP.fresh _ (List.mem_of_getElem? (i := 0) rfl) rfl
 have hres : rdC s 400 (rdM clOf s 8) k = .ok (l, kq) := by rw [hrel, show m - i = 0 by omega]; exact pre_ok _ _
 subst hll
 exact ⟨HP.agree _ (by simp [bx, rowsR]), .inr ⟨B, cc, l, kq, hres, hkq, rfl, HP.at_ 1 rfl, Rd.of_own hrow.1, flat_new hrow, by omega⟩⟩
theorem rcE_any (a0 a1 : Addr) (s : List UInt8) (k rb br b : Nat) (w : World) (hL : LaidP a0 a1 w) (hsep : ∀ j, lpFp a0 a1 j → j ≠ rb ∧ j ≠ b) (h : Box w rb 103 (rC s k).toArray) (hb : Box w b 43 [(ii 0), (ii 0), (ii 0), (ii 0), (ii 0), (ii 0), (.slice none 0 0)].toArray) (hne : rb ≠ b) (hbr : Box w br 148 #[.pointer (some ⟨rb, 0, none⟩)]) (hbn : br ≠ rb ∧ br ≠ b) (hl : s.length ≤ 1000000) (hk : k ≤ s.length) :
  Calls Tryz.prog 105 #[.pointer (some ⟨b, 0, none⟩), .pointer (some ⟨br, 0, none⟩)] w (ElPostE a0 a1 s k rb b 43 w) := by
 have HP : Hp w w [bx rb 103 (rC s k) false, bx b 43 [(ii 0), (ii 0), (ii 0), (ii 0), (ii 0), (ii 0), (.slice none 0 0)] false] [boxK br 148 [.pointer (some ⟨rb, 0, none⟩)], laidK a0 a1] := ((Hp.own2 h hb hne).keepF (laidK a0 a1) hL (laidK_ok _ _) (fun j hj => ⟨hL.lt j hj, by simpa [bx] using hsep j hj⟩)).keepF (boxK br 148 [.pointer (some ⟨rb, 0, none⟩)]) hbr (boxK_ok _ _ _) (fun j hj => ⟨by cases hj; exact hbr.lt, by cases hj; simpa [bx] using hbn⟩)
 refine w_enter 30 [(0, (pt b 0)), (1, (pt br 0))] Tryz.func105 rfl Tryz.ntmps105 (by kernel_rfl) (by kernel_rfl) fun a H => ?_
 refine sq ?_
 refine An.start (fun v => Hp w v [bx rb 103 (rC s k) false, bx b 43 [(ii 0), (ii 0), (ii 0), (ii 0), (ii 0), (ii 0), (.slice none 0 0)] false] [boxK br 148 [.pointer (some ⟨rb, 0, none⟩)], laidK a0 a1]) 20 21 HP wide_follows rfl fun w_1 HP => ?_
 refine An.vw H (HP) 0 3 (pt rb 0) (fun _ hS => ex_l1 ((hS.fact 0 rfl : Box _ br 148 _).cell (i := 0) rfl)) fun a H => ?_
 refine An.p H (.inr HP) 1 4 (pt b 0) fun a H => ?_
 refine An.p H (.inr HP) 2 5 (pt b 0) fun a H => ?_
 refine An.p H (.inr HP) 3 6 (pt b 0) fun a H => ?_
 refine An.p H (.inr HP) 4 7 (pt b 0) fun a H => ?_
 refine An.p H (.inr HP) 5 8 (pt b 0) fun a H => ?_
 refine An.p H (.inr HP) 6 9 (pt b 1) fun a H => ?_
 refine An.p H (.inr HP) 7 10 (pt b 0) fun a H => ?_
 refine An.p H (.inr HP) 8 11 (pt b 0) fun a H => ?_
 refine An.p H (.inr HP) 9 12 (pt b 2) fun a H => ?_
 refine An.p H (.inr HP) 10 13 (pt b 0) fun a H => ?_
 refine An.p H (.inr HP) 11 14 (pt b 0) fun a H => ?_
 refine An.p H (.inr HP) 12 15 (pt b 3) fun a H => ?_
 refine An.p H (.inr HP) 13 16 (pt b 0) fun a H => ?_
 refine An.p H (.inr HP) 14 17 (pt b 0) fun a H => ?_
 refine An.p H (.inr HP) 15 18 (pt b 4) fun a H => ?_
 refine An.p H (.inr HP) 16 19 (pt b 0) fun a H => ?_
 refine An.p H (.inr HP) 17 20 (pt b 0) fun a H => ?_
 refine An.p H (.inr HP) 18 21 (pt b 5) fun a H => ?_
 refine An.one 19 (by kernel_rfl) ?_
 refine Op.alloc H HP 22 (fun b => (.slice (some ⟨b, 0, none⟩) 6 6)) 150 [(pt b 0), (pt b 1), (pt b 2), (pt b 3), (pt b 4), (pt b 5)] rfl (by kernel_rfl) (fun w => by kernel_rfl) fun b_2 w_3 a H HP => ?_
 refine ⟨.inr ((HP.tail rfl)), ?_⟩
 refine An.one 20 (by kernel_rfl) ?_
 refine Op.callP H 23 rfl (by kernel_rfl) (Eq.trans (by kernel_rfl : _ = (callFunc 99 #[(pt rb 0), (.slice (some ⟨b_2, 0, none⟩) 6 6)]).run Tryz.prog w_3) (Tryz.call99 _ _)) (numbers_any a0 a1 s k rb b 43 b_2 [(ii 0), (ii 0), (ii 0), (ii 0), (ii 0), (ii 0), (.slice none 0 0)] [0, 1, 2, 3, 4, 5] w_3 (HP.fact 1 rfl) hsep (HP.at_ 1 rfl) (HP.at_ 2 rfl) (HP.at_ 0 rfl) hne ⟨HP.neB 0 1 rfl rfl (by decide), HP.neB 0 2 rfl rfl (by decide)⟩ (by simp) (by decide) hl hk) ?_
 rintro e w_4 ⟨hag, (⟨k2, us2, hE, hk2, rfl, hb1, hb2, _⟩ | ⟨l, k2, hE, hk2, hll, rfl, hb1, hb2⟩)⟩
 ·refine .inr ⟨_, rfl, ?_⟩
  intro a H
  have HP := HP.changed2 1 2 rfl rfl (rC s k2) us2 _ rfl (by decide) hag hb1 hb2
  refine then_panic ?_
  refine H.endP ?_
  exact ⟨HP.agree _ (by simp [bx, rowsR]), .inl ⟨10, k2, us2, by unfold rdEnt; rw [show rdN s 6 k = .error 10 from hE], .inl rfl, hk2, rfl, HP.at_ 1 rfl, HP.at_ 2 rfl⟩⟩
 refine .inl ⟨_, rfl, ?_⟩
 intro a H
 obtain ⟨z0, z1, z2, z3, z4, z5, rfl⟩ := len6 hll
 have HP := HP.changed2 1 2 rfl rfl (rC s k2) [(ii z0), (ii z1), (ii z2), (ii z3), (ii z4), (ii z5), (.slice none 0 0)] _ rfl (by decide) hag hb1 hb2
 refine ⟨.inl (by kernel_rfl), ?_⟩
 refine An.done (by kernel_rfl) ?_
 refine tn ?_
 have hsz1 := HP.size
 refine rg ?_
 refine H.v 24 (pt b 0) fun a H => H.u 25 (pt rb 0) (ex_l1 ((HP.fact 0 rfl : Box _ br 148 _).cell (i := 0) rfl)) fun a H => H.v 26 (.func (.func 107) #[] #[(pt br 0)]) fun a H => ?_
 have hlt0 := HP.lt
 refine H.callP 27 (by kernel_rfl) (Eq.trans (by kernel_rfl : _ = (callFunc 106 #[(pt rb 0), (ii 7), (.func (.func 107) #[] #[(pt br 0)])]).run Tryz.prog w_4) (Tryz.call106 _ _)) (listA_any a0 a1 s k2 rb br w_4 (HP.fact 1 rfl) (fun j hj => HP.factNe 1 1 rfl rfl j hj) (HP.at_ 1 rfl) (HP.fact 0 rfl) (HP.factNe 0 1 rfl rfl br rfl) hl hk2) ?_
 rintro e w_5 ⟨hag3, (⟨E, k3, hE3, hEE, hk3, rfl, hb3⟩ | ⟨A, c, al, k3, hE3, hk3, rfl, hb3, hrow, hnew, hmost⟩)⟩
 ·refine .inr ⟨_, rfl, ?_⟩
  intro a H
  have HP := HP.changed1 1 rfl (rC s k3) _ rfl hag3 hb3
  refine H.endP ?_
  exact ⟨HP.agree _ (by simp [bx, rowsR]), .inl ⟨E, k3, _, by unfold rdEnt; rw [show rdN s 6 k = .ok ([z0, z1, z2, z3, z4, z5], k2) from hE]; simp only; rw [hE3], hEE, hk3, rfl, HP.at_ 1 rfl, HP.at_ 2 rfl⟩⟩
 refine .inl ⟨_, rfl, ?_⟩
 intro a H
 have HP := HP.changed1 1 rfl (rC s k3) [bx b_2 150 [(pt b 0), (pt b 1), (pt b 2), (pt b 3), (pt b 4), (pt b 5)] true, bx rb 103 (rC s k3) false, bx b 43 [(ii z0), (ii z1), (ii z2), (ii z3), (ii z4), (ii z5), (.slice none 0 0)] false] (by kernel_rfl) hag3 hb3
 have HP := HP.keepF (alK A al) hrow (alK_ok _ _) (fun j hj => ⟨hrow.lt j hj, fun y hy hyk => by simp only [List.mem_cons, List.not_mem_nil, or_false] at hy; rcases hy with rfl | rfl | rfl <;> (first | exact Nat.lt_irrefl _ (Nat.lt_of_lt_of_le (hlt0 _ (List.mem_of_getElem? (i := 0) rfl) j hyk) (hnew j hj)) | exact Nat.lt_irrefl _ (Nat.lt_of_lt_of_le (hlt0 _ (List.mem_of_getElem? (i := 1) rfl) j hyk) (hnew j hj)) | exact Nat.lt_irrefl _ (Nat.lt_of_lt_of_le (hlt0 _ (List.mem_of_getElem? (i := 2) rfl) j hyk) (hnew j hj)))⟩)
 refine H.v 28 (pt b 0) fun a H => H.v 29 (pt b 6) fun a H => H.st HP 2 b 6 1 43 false (.slice A al.length c) [bx b_2 150 [(pt b 0), (pt b 1), (pt b 2), (pt b 3), (pt b 4), (pt b 5)] true, bx rb 103 (rC s k3) false, bx b 43 [(ii z0), (ii z1), (ii z2), (ii z3), (ii z4), (ii z5), (.slice A al.length c)] false] rfl fun w_6 a H HP => ?_
 refine nl ?_
 refine H.end0 (fn := Tryz.f105) Tryz.results105  ?_
 exact ⟨HP.agree _ (by simp [bx, rowsR]), .inr ⟨⟨z0, z1, z2, z3, z4, z5, A, c, al⟩, k3, by unfold rdEnt; rw [show rdN s 6 k = .ok ([z0, z1, z2, z3, z4, z5], k2) from hE]; simp only; rw [hE3]; rfl, hk3, rfl, HP.at_ 1 rfl, HP.at_ 2 rfl, ⟨HP.fact 0 rfl, by unfold maxLen; show al.length ≤ _; omega⟩, fun j hj => Nat.le_trans hsz1 (hnew j hj)⟩⟩
theorem listE_any (a0 a1 : Addr) (s : List UInt8) (k rb br : Nat) (w : World) (hL : LaidP a0 a1 w) (hsep : ∀ j, lpFp a0 a1 j → j ≠ rb) (h : Box w rb 103 (rC s k).toArray) (hbr : Box w br 148 #[.pointer (some ⟨rb, 0, none⟩)]) (hbn : br ≠ rb) (hl : s.length ≤ 1000000) (hk : k ≤ s.length) :
  Calls Tryz.prog 104 #[.pointer (some ⟨rb, 0, none⟩), .int .i64 4000, .func (.func 105) #[] #[.pointer (some ⟨br, 0, none⟩)]] w (ListPostE a0 a1 s k rb w) := by
 have HP : Hp w w [bx rb 103 (rC s k) false] [boxK br 148 [.pointer (some ⟨rb, 0, none⟩)], laidK a0 a1] := ((Hp.own h).keepF (laidK a0 a1) hL (laidK_ok _ _) (fun j hj => ⟨hL.lt j hj, by simpa [bx] using hsep j hj⟩)).keepF (boxK br 148 [.pointer (some ⟨rb, 0, none⟩)]) hbr (boxK_ok _ _ _) (fun j hj => ⟨by cases hj; exact hbr.lt, by cases hj; simpa [bx] using hbn⟩)
 refine w_enter 31 [(0, (pt rb 0)), (1, (ii 4000)), (2, (.func (.func 105) #[] #[(pt br 0)]))] Tryz.func104 rfl Tryz.ntmps104 (by kernel_rfl) (by kernel_rfl) fun a H => ?_
 refine sq (rg ?_)
 refine H.v 6 (.slice none 0 0) fun a H => ?_
 refine nl (tn (sq (rg ?_)))
 refine H.v 10 (pt rb 0) fun a H => ?_
 refine H.callP 11 (by kernel_rfl) (Eq.trans (by kernel_rfl : _ = (callFunc 128 #[(pt rb 0)]).run Tryz.prog w) (Tryz.call128 _ _)) (number_any a0 a1 s k rb w (HP.fact 1 rfl) hsep (HP.at_ 0 rfl) hl hk) ?_
 rintro e w_1 ⟨hag, (⟨hR, rfl, hbx⟩ | ⟨n, k1, hR, hk1, rfl, hbx⟩)⟩
 ·refine .inr ⟨_, rfl, ?_⟩
  intro a H
  have HP := HP.changed1 0 rfl (rC s k) [bx rb 103 (rC s k) false] (by kernel_rfl) hag hbx
  refine then_panic ?_
  refine H.endP ?_
  exact ⟨HP.agree _ (by simp [bx, rowsR]), .inl ⟨10, k, by unfold rdC; rw [hR], .inl rfl, hk, rfl, HP.at_ 0 rfl⟩⟩
 refine .inl ⟨_, rfl, ?_⟩
 intro a H
 have HP := HP.changed1 0 rfl (rC s k1) [bx rb 103 (rC s k1) false] (by kernel_rfl) hag hbx
 obtain ⟨hn1, hn2⟩ := rdInt_in hk hR
 refine H.v 7 (ii n) fun a H => ?_
 refine nl (tn (sq (sq (rg ?_))))
 refine H.v 12 (ii n) fun a H => H.v 13 (.bool (decide (n < 0))) fun a H => H.v 14 (.bool (decide (n < 0))) fun a H => ?_
 refine H.split 14 rfl (fun g14 H => ?_) (fun g14 H => ?_)
 ·have g14p := of_decide_eq_true g14
  iterate 3 refine H.sx rfl fun a H => ?_
  refine H.vx rfl (.bool true) fun a H => ?_
  refine nl (tn ?_)
  refine w_ift H rfl ?_
  refine rg ?_
  refine H.u 19 (.iface 212 (.pointer (some a1))) (ex_l1 ((HP.fact 1 rfl : LaidP a0 a1 _).c1)) fun a H => ?_
  refine H.panic0 (v := (.iface 212 (.pointer (some a1)))) (w' := w_1) (by kernel_rfl) (by kernel_rfl) ?_
  refine then_panic ?_
  refine H.endP ?_
  exact ⟨HP.agree _ (by simp [bx, rowsR]), .inl ⟨80, k1, by unfold rdC; rw [hR]; simp only; rw [if_pos (by omega)], .inr rfl, hk1, rfl, HP.at_ 0 rfl⟩⟩
 have g14p := of_decide_eq_false g14
 refine H.v 15 (ii n) fun a H => H.v 16 (ii 4000) fun a H => H.v 17 (.bool (decide (n > 4000))) fun a H => H.v 18 (.bool (decide (n > 4000))) fun a H => ?_
 refine nl (tn ?_)
 refine w_if H rfl (fun g18 => ?_) (fun g18 => ?_)
 ·have g18p := of_decide_eq_true g18
  refine rg ?_
  refine H.u 19 (.iface 212 (.pointer (some a1))) (ex_l1 ((HP.fact 1 rfl : LaidP a0 a1 _).c1)) fun a H => ?_
  refine H.panic0 (v := (.iface 212 (.pointer (some a1)))) (w' := w_1) (by kernel_rfl) (by kernel_rfl) ?_
  refine then_panic ?_
  refine H.endP ?_
  exact ⟨HP.agree _ (by simp [bx, rowsR]), .inl ⟨80, k1, by unfold rdC; rw [hR]; simp only; rw [if_pos (by omega)], .inr rfl, hk1, rfl, HP.at_ 0 rfl⟩⟩
 have g18p := of_decide_eq_false g18
 refine sk (tn (sq ?_))
 obtain ⟨m, rfl⟩ : ∃ m : Nat, n = m := ⟨n.toNat, by omega⟩
 have hrel0 : rdC s 4000 (rdEnt s) k = rdL (rdEnt s) m k1 := by unfold rdC; rw [hR]; simp only; rw [if_neg (by omega), Int.toNat_natCast]
 refine rg ?_
 refine H.v 8 (.slice none 0 0) fun a H => ?_
 refine nl ?_
 have HP := HP.nilRow w.heap.size 43 7 enC (fun (x : Ent) w => x.ok w) Ent.fp elOk_en
 refine tn (sq (sq (rg ?_)))
 refine H.v 20 (ii m) fun a H => H.v 21 (ii 0) fun a H => ?_
 refine nl (tn (bk ?_))
 refine w_loop (fun mm a wv => ∃ (i : Nat), ∃ (kq : Nat), ∃ (l : List (Ent)), ∃ (B : Option Addr), ∃ (cc : Nat), m - i = mm ∧ Sl 31 [(21, (ii i)), (20, (ii m)), (8, (.slice B i cc)), (0, (pt rb 0)), (2, (.func (.func 105) #[] #[(pt br 0)]))] a ∧ Hp w wv [(rowsR w.heap.size 43 7 enC (fun (x : Ent) w => x.ok w) Ent.fp (.slice B i cc) l), bx rb 103 (rC s kq) false] [boxK br 148 [.pointer (some ⟨rb, 0, none⟩)], laidK a0 a1] ∧ (i ≤ m) ∧ (l.length = i) ∧ (kq ≤ s.length) ∧ (rdC s 4000 (rdEnt s) k = pre ((l).map Ent.nv) (rdL (rdEnt s) (m - i) kq))) (m - 0) ?_ ?_
 ·exact ⟨0, k1, [], none, 0, (by omega), H.keep (by kernel_rfl), HP, (Nat.zero_le _), rfl, hk1, (by rw [hrel0]; exact (pre_nil _).symm)⟩
 rintro mm a w_2 ⟨i, kq, l, B, cc, hmeas, H, HP, hi, hll, hkq, hrel⟩
 refine sq (rg ?_)
 refine H.v 22 (.bool (decide ((i : Int) < (m : Int)))) fun a H => ?_
 refine nl (tn (sq ?_))
 refine w_if H rfl (fun g22 => ?_) (fun g22 => ?_)
 ·have g22p := of_decide_eq_true g22
  refine sk (tn (sq (bk (sq (rg ?_)))))
  refine H.al HP 9 43 [(ii 0), (ii 0), (ii 0), (ii 0), (ii 0), (ii 0), (.slice none 0 0)] fun b_3 w_4 a H HP => ?_
  refine nl (tn (sq (rg ?_)))
  refine H.v 23 (.func (.func 105) #[] #[(pt br 0)]) fun a H => ?_
  have hlt0 := HP.lt
  have hK0 := HP.ltK
  have hsz0 := HP.size
  refine H.callP 24 (by kernel_rfl) (Eq.trans (by kernel_rfl : _ = (callFunc 105 #[(pt b_3 0), (pt br 0)]).run Tryz.prog w_4) (Tryz.call105 _ _)) (rcE_any a0 a1 s kq rb br b_3 w_4 (HP.fact 1 rfl) (fun j hj => ⟨HP.factNe 1 2 rfl rfl j hj, HP.factNe 1 0 rfl rfl j hj⟩) (HP.at_ 2 rfl) (HP.at_ 0 rfl) ((HP.neB 0 2 rfl rfl (by decide)).symm) (HP.fact 0 rfl) ⟨HP.factNe 0 2 rfl rfl br rfl, HP.factNe 0 0 rfl rfl br rfl⟩ hl hkq) ?_
  rintro e w_5 ⟨hag, (⟨E, k2, us2, hE, hE2, hk2, rfl, hb1, hb2⟩ | ⟨x, k2, hE, hk2, rfl, hb1, hb2, hxo, hnew⟩)⟩
  ·refine .inr ⟨_, rfl, ?_⟩
   intro a H
   have HP := HP.changed2 2 0 rfl rfl (rC s k2) us2 _ rfl (by decide) hag hb1 hb2
   refine then_panic ?_
   refine inb_panic ?_
   refine then_panic ?_
   refine then_panic ?_
   refine inb_panic ?_
   refine then_panic ?_
   refine H.endP ?_
   exact ⟨HP.agree _ (by simp [bx, rowsR]), .inl ⟨E, k2, by rw [hrel, show m - i = (m - (i + 1)) + 1 by omega]; exact rdL_err hE, hE2, hk2, rfl, HP.at_ 2 rfl⟩⟩
  refine .inl ⟨_, rfl, ?_⟩
  intro a H
  have HP := HP.changed2 2 0 rfl rfl (rC s k2) (enL x) [bx b_3 43 (enL x) true, (rowsR w.heap.size 43 7 enC (fun (x : Ent) w => x.ok w) Ent.fp (.slice B i cc) l), bx rb 103 (rC s k2) false] (by kernel_rfl) (by decide) hag hb1 hb2
  have hs0 := HP.size
  have HP := HP.pendN 1 rfl elOk_en x [bx b_3 43 (enL x) true, (rowsP w.heap.size 43 7 enC (fun (x : Ent) w => x.ok w) Ent.fp (.slice B i cc) l x), bx rb 103 (rC s k2) false] (by kernel_rfl) hxo (fun j hj => ⟨Nat.le_trans hsz0 (hnew j hj), hxo.1.lt j hj, fun y hy hyk => by simp only [List.mem_cons, List.not_mem_nil, or_false] at hy; rcases hy with rfl | rfl | rfl <;> (first | exact Nat.lt_irrefl _ (Nat.lt_of_lt_of_le (hlt0 _ (List.mem_of_getElem? (i := 0) rfl) j hyk) (hnew j hj)) | exact Nat.lt_irrefl _ (Nat.lt_of_lt_of_le (hlt0 _ (List.mem_of_getElem? (i := 1) rfl) j hyk) (hnew j hj)) | exact Nat.lt_irrefl _ (Nat.lt_of_lt_of_le (hlt0 _ (List.mem_of_getElem? (i := 2) rfl) j hyk) (hnew j hj))), fun q hq hqk => Nat.lt_irrefl _ (Nat.lt_of_lt_of_le (hK0 q hq j hqk) (hnew j hj))⟩)
  refine nl (tn (rg ?_))
  refine H.v 25 (.slice B i cc) fun a H => H.u 26 (enV x) (ex_lN (enL x) (HP.cells 0 rfl 0 7 (by kernel_rfl))) fun a H => H.alloc HP 27 (fun b => (.slice (some ⟨b, 0, none⟩) 1 1)) 43 (enL x) (by kernel_rfl) (fun w => by kernel_rfl) fun b_6 w_7 a H HP => ?_
  refine H.push HP 28 2 0 (v := (.slice B i cc)) (e := 43) (p := x) (l := l) (cs := enC) (ok := (fun (x : Ent) w => x.ok w)) (fe := Ent.fp) (size := 7) (z := (.agg #[(ii 0), (ii 0), (ii 0), (ii 0), (ii 0), (ii 0), (.slice none 0 0)])) (bytes := 72) (bb := b_6) (tb := 43) (fb := true) (by kernel_rfl) elOk_en (by kernel_rfl) (by kernel_rfl) rfl (by kernel_rfl) (by kernel_rfl) (by kernel_rfl) (by kernel_rfl) (by kernel_rfl) rfl (by kernel_rfl) (by rw [hll]; unfold maxLen; omega) (by rw [hll]; omega) fun B_8 c_9 w_10 a H HP => ?_
  have HP : Hp w w_10 [bx b_6 43 (enL x) true, bx b_3 43 (enL x) true, (rowsR w.heap.size 43 7 enC (fun (x : Ent) w => x.ok w) Ent.fp (.slice B_8 (l.length + 1) c_9) (l ++ [x])), bx rb 103 (rC s k2) false] [boxK br 148 [.pointer (some ⟨rb, 0, none⟩)], laidK a0 a1] := HP
  rw [hll] at H HP
  refine H.v 8 (.slice B_8 (i + 1) c_9) fun a H => ?_
  refine nl (ibn (tn (rg ?_)))
  refine H.valE 29 (ii (IntKind.i64.wrap ((i : Int) + 1))) (ii ((i : Int) + 1)) (by kernel_rfl) (by kernel_rfl) ((by rw [wrap_ini64 _ (by omega)])) fun a H => H.v 21 (ii ((i : Int) + 1)) fun a H => ?_
  refine nl (tn ?_)
  have HP := HP.tail rfl
  have HP := HP.tail rfl
  have H := H.as 21 (ii ((i + 1 : Nat) : Int)) rfl rfl
  refine ⟨_, ?_, i + 1, k2, l ++ [x], B_8, c_9, rfl, H.keep (by kernel_rfl), HP, (by omega), (by rw [List.length_append, hll]; rfl), hk2, (by rw [hrel, show m - i = (m - (i + 1)) + 1 by omega, List.map_append]; exact rdL_step hE)⟩
  omega
 have g22p := of_decide_eq_false g22
 refine wp_exit (then_exit (then_exit ?_))
 refine w_exit_here ?_
 refine tn (sq (rg ?_))
 refine H.v 30 (.slice B i cc) fun a H => H.v 6 (.slice B i cc) fun a H => ?_
 refine nl (tn (rt ?_))
 refine H.r1 (.slice B i cc) Tryz.results104 ?_
 have hrow := HP.held 0 rfl
 have hfr := HP.fresh _ (List.mem_of_getElem? (i := 0) rfl) rfl
 have hres : rdC s 4000 (rdEnt s) k = .ok ((l).map Ent.nv, kq) := by rw [hrel, show m - i = 0 by omega]; exact pre_ok _ _
 subst hll
 exact ⟨HP.agree _ (by simp [bx, rowsR]), .inr ⟨B, cc, l, kq, hres, hkq, rfl, HP.at_ 1 rfl, ⟨Rd.of_own hrow.1, fun e he => (hrow.2 e he).1⟩, en_new hrow hfr, by omega⟩⟩
end Go.Proofs.YteeillphhiaopaaGreatDoor
