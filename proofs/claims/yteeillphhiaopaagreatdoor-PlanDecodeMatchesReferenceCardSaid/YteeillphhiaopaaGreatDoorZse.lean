/- Part 5 of the proofs: PlI, PlJ, PlK, RcS. -/
import Derived.Test.YteeillphhiaopaaGreatDoorZsd
namespace Go.Proofs.YteeillphhiaopaaGreatDoor
set_option maxRecDepth 100000
set_option maxHeartbeats 4000000
open Go.ChangeShapes Go.WideShapes Go.ChangeAt Go.RowKit
set_option linter.unusedVariables false
set_option linter.unusedSimpArgs false
theorem alt_ones (l : Alts) : ∀ u ∈ flat altC l, u.oneCell' = true := by
 intro u hu
 simp only [flat, List.mem_flatMap] at hu
 obtain ⟨a, _, ha⟩ := hu
 simp only [altC, List.mem_cons, List.not_mem_nil, or_false] at ha
 rcases ha with rfl | rfl <;> rfl
theorem gE_ok {w : World} {A : Option Addr} {l : List Ent} (h : IsEn w A l) (k : Int) : (gE l k).ok w := by
 unfold gE fE
 cases hf : l.find? fun x => x.id == k with
 | none => exact ⟨IsRow.nil _ _, Nat.zero_le _⟩
 | some x => exact h.ok x (List.mem_of_find?_eq_some hf)
def alK (B : Option Addr) (al : Alts) : FK := ⟨rowFp al.length B, fun w => IsAl w B al⟩
theorem alK_ok (B : Option Addr) (al : Alts) : (alK B al).ok := fun _ _ h hk hs => IsRow.keep h hk hs
theorem clone_nil (c : Nat) (al : Alts) (w : World) (hr : IsAl w none al) (hl : al.length ≤ maxLen) (hb8 : al.length ≤ 1000000000) : Calls Tryz.prog 52 #[.slice none al.length c] w fun e w' => ∃ B cc, e = .returned (.slice B al.length cc) ∧ IsAl w' B al ∧ (∀ k, rowFp al.length B k → w.heap.size ≤ k) ∧ Below w.heap.size w w' := by
 have hn : al.length = 0 := hr.2.elim id (fun ⟨_, _, h, _⟩ => by cases h)
 skip
 have HP := Hp.start w
 refine w_enter 8 [(0, (.slice none al.length c))] Tryz.func52 rfl Tryz.ntmps52 (by kernel_rfl) (by kernel_rfl) fun a H => ?_
 refine sq (rg ?_)
 refine H.v 2 (.slice none 0 0) fun a H => ?_
 refine nl (tn (sq (sq (rg ?_))))
 refine H.v 3 (.slice none al.length c) fun a H => H.v 4 (.bool true) fun a H => ?_
 refine nl (tn ?_)
 refine w_ift H rfl ?_
 refine sq (rg ?_)
 refine H.v 2 (.slice none 0 0) fun a H => ?_
 refine nl (tn (rt (tr ?_)))
 refine H.r1 (.slice none 0 0) Tryz.results52 ?_
 exact ⟨none, 0, by rw [hn], by rw [List.length_eq_zero_iff.1 hn]; exact IsRow.nil _ _, (fun k hk => by have := hk.1; omega), HP.bl⟩
theorem clone_some (q : Addr) (c : Nat) (al : Alts) (w : World) (hr : IsAl w (some q) al) (hl : al.length ≤ maxLen) (hb8 : al.length ≤ 1000000000) : Calls Tryz.prog 52 #[.slice (some q) al.length c] w fun e w' => ∃ B cc, e = .returned (.slice B al.length cc) ∧ IsAl w' B al ∧ (∀ k, rowFp al.length B k → w.heap.size ≤ k) ∧ Below w.heap.size w w' := by
 have HP := Hp.start w
 refine w_enter 8 [(0, (.slice (some q) al.length c))] Tryz.func52 rfl Tryz.ntmps52 (by kernel_rfl) (by kernel_rfl) fun a H => ?_
 refine sq (rg ?_)
 refine H.v 2 (.slice none 0 0) fun a H => ?_
 refine nl (tn (sq (sq (rg ?_))))
 refine H.v 3 (.slice (some q) al.length c) fun a H => H.v 4 (.bool false) fun a H => ?_
 refine nl (tn ?_)
 refine w_iff H rfl ?_
 refine sk (tn (sq (rg ?_)))
 refine H.alloc HP 5 (fun b => (.slice (some ⟨b, 0, none⟩) 0 0)) 62 [] (by kernel_rfl) (fun w => by kernel_rfl) fun b_1 w_2 a H HP => H.v 6 (.slice (some q) al.length c) fun a H => ?_
 have hrd : Rd w_2 2 (some q) al.length (flat altC al) := hr.below HP.bl
 refine H.pushAll HP 7 0 (bb := b_1) (z := .agg #[.int .i64 0, .int .i64 0]) (e := 62) (size := 2) (bytes := 16) (m := al.length) (c := c) (A := some q) (cs := altC) al (by kernel_rfl) (by kernel_rfl) (by kernel_rfl) rfl (by kernel_rfl) (by kernel_rfl) (by kernel_rfl) (fun h => by cases h) rfl rfl hrd (alt_ones _) hl (by omega) fun BB cc w_3 a H HP => ?_
 have HP : Hp w w_3 [(rowsR w.heap.size 62 2 altC (fun _ _ => True) (fun _ _ => False) (.slice BB al.length cc) al)] [] := HP
 refine H.v 2 (.slice BB al.length cc) fun a H => ?_
 refine nl (tn (rt ?_))
 refine H.r1 (.slice BB al.length cc) Tryz.results52 ?_
 exact ⟨_, _, rfl, Rd.of_own (HP.held 0 rfl).1, (fun k hk => by obtain ⟨_, off, rfl⟩ := hk; exact (own_lt (HP.held 0 rfl).1 k rfl).2), HP.bl⟩
theorem clone_any (A : Option Addr) (c : Nat) (al : Alts) (w : World) (hr : IsAl w A al) (hl : al.length ≤ maxLen) (hb8 : al.length ≤ 1000000000) : Calls Tryz.prog 52 #[.slice A al.length c] w fun e w' => ∃ B cc, e = .returned (.slice B al.length cc) ∧ IsAl w' B al ∧ (∀ k, rowFp al.length B k → w.heap.size ≤ k) ∧ Below w.heap.size w w' := by
 cases A with
 | none => exact clone_nil c al w hr hl hb8
 | some q => exact clone_some q c al w hr hl hb8
theorem entry_any (p : Pln) (k : Int) (w : World) (hpl : IsPln w p) (hal : (gE p.es k).al.length ≤ 1000000000) : Calls Tryz.prog 20 #[(plV p), .int .i64 k] w fun e w' => ∃ B cc, e = .returned (.tuple #[(.agg #[(ii ((gE p.es k).id)), (ii ((gE p.es k).item)), (ii ((gE p.es k).frames)), (ii ((gE p.es k).earliest)), (ii ((gE p.es k).latest)), (ii ((gE p.es k).booking)), (.slice B ((gE p.es k).al.length) cc)]), .bool (hE p.es k)]) ∧ (IsAl w' B (gE p.es k).al ∧ ∀ j, rowFp (gE p.es k).al.length B j → w.heap.size ≤ j) ∧ Below w.heap.size w w' := by
 have hok := gE_ok hpl.es k
 have HP := Hp.start w
 refine w_enter 21 [(0, (plV p)), (1, (ii k))] Tryz.func20 rfl Tryz.ntmps20 (by kernel_rfl) (by kernel_rfl) fun a H => ?_
 refine sq (rg ?_)
 refine H.al HP 2 32 (plL p) fun b_1 w_2 a H HP => H.al HP 4 43 [(ii 0), (ii 0), (ii 0), (ii 0), (ii 0), (ii 0), (.slice none 0 0)] fun b_3 w_4 a H HP => H.v 5 (.bool false) fun a H => ?_
 refine nl (tn (sq (rg ?_)))
 refine H.v 9 (pt b_1 10) fun a H => H.u 10 (.slice p.EA p.es.length p.ec) (ex_l1 (HP.cell 1 rfl 10 rfl)) fun a H => H.v 11 (ii k) fun a H => H.cb HP 12 (Tryz.call50 _ _) (findE_any p.EA p.ec p.es k w_4 (hpl.es.row.below HP.bl) hpl.les) fun w_5 hb a H HP => H.v 8 (.tuple #[(.agg #[(ii ((gE p.es k).id)), (ii ((gE p.es k).item)), (ii ((gE p.es k).frames)), (ii ((gE p.es k).earliest)), (ii ((gE p.es k).latest)), (ii ((gE p.es k).booking)), (.slice ((gE p.es k).A) ((gE p.es k).al.length) ((gE p.es k).c))]), (.bool (hE p.es k))]) fun a H => H.v 13 (.agg #[(ii ((gE p.es k).id)), (ii ((gE p.es k).item)), (ii ((gE p.es k).frames)), (ii ((gE p.es k).earliest)), (ii ((gE p.es k).latest)), (ii ((gE p.es k).booking)), (.slice ((gE p.es k).A) ((gE p.es k).al.length) ((gE p.es k).c))]) fun a H => H.v 14 (.bool (hE p.es k)) fun a H => H.al HP 6 43 [(ii 0), (ii 0), (ii 0), (ii 0), (ii 0), (ii 0), (.slice none 0 0)] fun b_6 w_7 a H HP => H.st HP 0 b_6 0 7 43 true (.agg #[(ii ((gE p.es k).id)), (ii ((gE p.es k).item)), (ii ((gE p.es k).frames)), (ii ((gE p.es k).earliest)), (ii ((gE p.es k).latest)), (ii ((gE p.es k).booking)), (.slice ((gE p.es k).A) ((gE p.es k).al.length) ((gE p.es k).c))]) [bx b_6 43 [(ii ((gE p.es k).id)), (ii ((gE p.es k).item)), (ii ((gE p.es k).frames)), (ii ((gE p.es k).earliest)), (ii ((gE p.es k).latest)), (ii ((gE p.es k).booking)), (.slice ((gE p.es k).A) ((gE p.es k).al.length) ((gE p.es k).c))] true, bx b_3 43 [(ii 0), (ii 0), (ii 0), (ii 0), (ii 0), (ii 0), (.slice none 0 0)] true, bx b_1 32 (plL p) true] rfl fun w_8 a H HP => H.v 7 (.bool (hE p.es k)) fun a H => ?_
 refine nl (tn (sq (rg ?_)))
 refine H.v 15 (pt b_6 6) fun a H => H.u 16 (.slice ((gE p.es k).A) ((gE p.es k).al.length) ((gE p.es k).c)) (ex_l1 (HP.cell 0 rfl 6 rfl)) fun a H => ?_
 have hlt0 := HP.lt
 have hsz := HP.size
 refine H.cl 17 (Tryz.call52 _ _) (clone_any (gE p.es k).A (gE p.es k).c (gE p.es k).al w_8 (hok.1.below HP.bl) hok.2 hal) ?_
 rintro e w_9 ⟨B, cc, rfl, hBr, hnew, hb⟩
 refine ⟨_, rfl, ?_⟩
 intro a H
 have HP := HP.next hb
 have HP := HP.keepF (alK B (gE p.es k).al) hBr (alK_ok _ _) (fun k hk => ⟨hBr.lt k hk, fun x hx hxk => by have h1 := hlt0 x hx k hxk; have h2 := hnew k hk; omega⟩)
 refine H.v 18 (pt b_6 6) fun a H => H.st HP 0 b_6 6 1 43 true (.slice B ((gE p.es k).al.length) cc) [bx b_6 43 [(ii ((gE p.es k).id)), (ii ((gE p.es k).item)), (ii ((gE p.es k).frames)), (ii ((gE p.es k).earliest)), (ii ((gE p.es k).latest)), (ii ((gE p.es k).booking)), (.slice B ((gE p.es k).al.length) cc)] true, bx b_3 43 [(ii 0), (ii 0), (ii 0), (ii 0), (ii 0), (ii 0), (.slice none 0 0)] true, bx b_1 32 (plL p) true] rfl fun w_10 a H HP => ?_
 refine nl (tn (sq (rg ?_)))
 refine H.u 19 (.agg #[(ii ((gE p.es k).id)), (ii ((gE p.es k).item)), (ii ((gE p.es k).frames)), (ii ((gE p.es k).earliest)), (ii ((gE p.es k).latest)), (ii ((gE p.es k).booking)), (.slice B ((gE p.es k).al.length) cc)]) (ex_lN [(ii ((gE p.es k).id)), (ii ((gE p.es k).item)), (ii ((gE p.es k).frames)), (ii ((gE p.es k).earliest)), (ii ((gE p.es k).latest)), (ii ((gE p.es k).booking)), (.slice B ((gE p.es k).al.length) cc)] (HP.cells 0 rfl 0 7 (by kernel_rfl))) fun a H => H.v 20 (.bool (hE p.es k)) fun a H => H.st HP 1 b_3 0 7 43 true (.agg #[(ii ((gE p.es k).id)), (ii ((gE p.es k).item)), (ii ((gE p.es k).frames)), (ii ((gE p.es k).earliest)), (ii ((gE p.es k).latest)), (ii ((gE p.es k).booking)), (.slice B ((gE p.es k).al.length) cc)]) [bx b_6 43 [(ii ((gE p.es k).id)), (ii ((gE p.es k).item)), (ii ((gE p.es k).frames)), (ii ((gE p.es k).earliest)), (ii ((gE p.es k).latest)), (ii ((gE p.es k).booking)), (.slice B ((gE p.es k).al.length) cc)] true, bx b_3 43 [(ii ((gE p.es k).id)), (ii ((gE p.es k).item)), (ii ((gE p.es k).frames)), (ii ((gE p.es k).earliest)), (ii ((gE p.es k).latest)), (ii ((gE p.es k).booking)), (.slice B ((gE p.es k).al.length) cc)] true, bx b_1 32 (plL p) true] rfl fun w_11 a H HP => H.v 5 (.bool (hE p.es k)) fun a H => ?_
 refine nl (tn (rt ?_))
 refine H.ret2 (fn := Tryz.f20) Tryz.results20 (RV.cellN (vs := [(ii ((gE p.es k).id)), (ii ((gE p.es k).item)), (ii ((gE p.es k).frames)), (ii ((gE p.es k).earliest)), (ii ((gE p.es k).latest)), (ii ((gE p.es k).booking)), (.slice B ((gE p.es k).al.length) cc)]) (b := b_3) (off := 0) (k := 7) (by kernel_rfl) (by kernel_rfl) (by kernel_rfl) rfl (HP.cells 1 rfl 0 7 (by kernel_rfl))) (RV.tmp_ (v := (.bool (hE p.es k))) (by kernel_rfl)) ?_
 exact ⟨B, cc, rfl, ⟨HP.fact 0 rfl, fun k hk => Nat.le_trans hsz (hnew k hk)⟩, HP.bl⟩
theorem rsame_any (p q : Pln) (w : World) (hp : IsPln w p) (hq : IsPln w q) : Calls Tryz.prog 17 #[(plV p), (plV q)] w fun e w' => e = .returned (.bool (decide (p.nv = q.nv))) ∧ Below w.heap.size w w' := by
 have hp1 := hp.lsh
 have hp2 := hp.lits
 have hp3 := hp.les
 have hp4 := hp.lbs
 have hp5 := hp.lcs
 unfold maxLen at hp1 hp2 hp3 hp4 hp5
 have HP := Hp.start w
 refine w_enter 200 [(0, (plV p)), (1, (plV q))] Tryz.func17 rfl Tryz.ntmps17 (by kernel_rfl) (by kernel_rfl) fun a H => ?_
 refine sq (rg ?_)
 refine H.al HP 2 32 (plL p) fun b_1 w_2 a H HP => H.al HP 3 32 (plL q) fun b_3 w_4 a H HP => H.v 4 (.bool false) fun a H => ?_
 refine nl (tn (sq (sq (rg ?_))))
 refine H.v 11 (pt b_1 0) fun a H => H.u 12 (ii p.channel) (ex_l1 (HP.cell 1 rfl 0 rfl)) fun a H => H.v 13 (pt b_3 0) fun a H => H.u 14 (ii q.channel) (ex_l1 (HP.cell 0 rfl 0 rfl)) fun a H => H.v 15 (.bool (p.channel != q.channel)) fun a H => H.v 16 (.bool (p.channel != q.channel)) fun a H => ?_
 refine H.split 16 rfl (fun g16 H => ?_) (fun g16 H => ?_)
 ·have g16p := bne_iff_ne.1 g16
  iterate 5 refine H.sx rfl fun a H => ?_
  iterate 2 refine H.vx rfl (.bool true) fun a H => ?_
  iterate 7 refine H.sx rfl fun a H => ?_
  iterate 4 ((iterate 2 refine H.vx rfl (.bool true) fun a H => ?_); (iterate 5 refine H.sx rfl fun a H => ?_))
  refine H.vx rfl (.bool true) fun a H => ?_
  refine nl (tn ?_)
  refine w_ift H rfl ?_
  refine sq (rg ?_)
  refine H.v 4 (.bool false) fun a H => ?_
  refine nl (tn (rt (tr ?_)))
  refine H.r1 (.bool false) Tryz.results17 ?_
  refine ⟨?_, HP.bl⟩
  rw [decide_eq_false]
  intro e
  obtain ⟨h1, h2, h3, h4, h5, h6, h7, h8, h9, _⟩ := pln_eq.1 e
  first | omega | (have hh := not_is_true (by assumption : (!(([p.num, p.den] : List Int) == [q.num, q.den])) = true); rw [h2, h3] at hh; simp at hh)
 have g16p := eq_of_bne_false g16
 refine H.v 17 (pt b_1 1) fun a H => H.u 18 (.agg #[(ii p.num), (ii p.den)]) (ex_lN [(ii p.num), (ii p.den)] (HP.cells 1 rfl 1 2 (by kernel_rfl))) fun a H => H.v 19 (pt b_3 1) fun a H => H.u 20 (.agg #[(ii q.num), (ii q.den)]) (ex_lN [(ii q.num), (ii q.den)] (HP.cells 0 rfl 1 2 (by kernel_rfl))) fun a H => H.u 21 (.bool (!(([p.num, p.den] : List Int) == [q.num, q.den]))) (ex_neL (a := [p.num, p.den]) (b := [q.num, q.den]) (by kernel_rfl) (by kernel_rfl) (by kernel_rfl) rfl) fun a H => H.v 22 (.bool (!(([p.num, p.den] : List Int) == [q.num, q.den]))) fun a H => H.v 23 (.bool (!(([p.num, p.den] : List Int) == [q.num, q.den]))) fun a H => ?_
 refine H.split 23 rfl (fun g23 H => ?_) (fun g23 H => ?_)
 ·have g23p := not_is_true g23
  iterate 7 refine H.sx rfl fun a H => ?_
  iterate 4 ((iterate 2 refine H.vx rfl (.bool true) fun a H => ?_); (iterate 5 refine H.sx rfl fun a H => ?_))
  refine H.vx rfl (.bool true) fun a H => ?_
  refine nl (tn ?_)
  refine w_ift H rfl ?_
  refine sq (rg ?_)
  refine H.v 4 (.bool false) fun a H => ?_
  refine nl (tn (rt (tr ?_)))
  refine H.r1 (.bool false) Tryz.results17 ?_
  refine ⟨?_, HP.bl⟩
  rw [decide_eq_false]
  intro e
  obtain ⟨h1, h2, h3, h4, h5, h6, h7, h8, h9, _⟩ := pln_eq.1 e
  first | omega | (have hh := not_is_true (by assumption : (!(([p.num, p.den] : List Int) == [q.num, q.den])) = true); rw [h2, h3] at hh; simp at hh)
 have g23p := not_is_false g23
 refine H.v 24 (pt b_1 3) fun a H => H.v 25 (pt b_1 3) fun a H => H.u 26 (ii p.offset) (ex_l1 (HP.cell 1 rfl 3 rfl)) fun a H => H.v 27 (pt b_3 3) fun a H => H.v 28 (pt b_3 3) fun a H => H.u 29 (ii q.offset) (ex_l1 (HP.cell 0 rfl 3 rfl)) fun a H => H.v 30 (.bool (p.offset != q.offset)) fun a H => H.v 31 (.bool (p.offset != q.offset)) fun a H => H.v 32 (.bool (p.offset != q.offset)) fun a H => ?_
 refine H.split 32 rfl (fun g32 H => ?_) (fun g32 H => ?_)
 ·have g32p := bne_iff_ne.1 g32
  iterate 3 ((iterate 5 refine H.sx rfl fun a H => ?_); (iterate 2 refine H.vx rfl (.bool true) fun a H => ?_))
  iterate 5 refine H.sx rfl fun a H => ?_
  refine H.vx rfl (.bool true) fun a H => ?_
  refine nl (tn ?_)
  refine w_ift H rfl ?_
  refine sq (rg ?_)
  refine H.v 4 (.bool false) fun a H => ?_
  refine nl (tn (rt (tr ?_)))
  refine H.r1 (.bool false) Tryz.results17 ?_
  refine ⟨?_, HP.bl⟩
  rw [decide_eq_false]
  intro e
  obtain ⟨h1, h2, h3, h4, h5, h6, h7, h8, h9, _⟩ := pln_eq.1 e
  first | omega | (have hh := not_is_true (by assumption : (!(([p.num, p.den] : List Int) == [q.num, q.den])) = true); rw [h2, h3] at hh; simp at hh)
 have g32p := eq_of_bne_false g32
 refine H.v 33 (pt b_1 5) fun a H => H.u 34 (ii p.epoch) (ex_l1 (HP.cell 1 rfl 5 rfl)) fun a H => H.v 35 (pt b_3 5) fun a H => H.u 36 (ii q.epoch) (ex_l1 (HP.cell 0 rfl 5 rfl)) fun a H => H.v 37 (.bool (p.epoch != q.epoch)) fun a H => H.v 38 (.bool (p.epoch != q.epoch)) fun a H => H.v 39 (.bool (p.epoch != q.epoch)) fun a H => ?_
 refine H.split 39 rfl (fun g39 H => ?_) (fun g39 H => ?_)
 ·have g39p := bne_iff_ne.1 g39
  iterate 2 ((iterate 5 refine H.sx rfl fun a H => ?_); (iterate 2 refine H.vx rfl (.bool true) fun a H => ?_))
  iterate 5 refine H.sx rfl fun a H => ?_
  refine H.vx rfl (.bool true) fun a H => ?_
  refine nl (tn ?_)
  refine w_ift H rfl ?_
  refine sq (rg ?_)
  refine H.v 4 (.bool false) fun a H => ?_
  refine nl (tn (rt (tr ?_)))
  refine H.r1 (.bool false) Tryz.results17 ?_
  refine ⟨?_, HP.bl⟩
  rw [decide_eq_false]
  intro e
  obtain ⟨h1, h2, h3, h4, h5, h6, h7, h8, h9, _⟩ := pln_eq.1 e
  first | omega | (have hh := not_is_true (by assumption : (!(([p.num, p.den] : List Int) == [q.num, q.den])) = true); rw [h2, h3] at hh; simp at hh)
 have g39p := eq_of_bne_false g39
 refine H.v 40 (pt b_1 6) fun a H => H.u 41 (ii p.regions) (ex_l1 (HP.cell 1 rfl 6 rfl)) fun a H => H.v 42 (pt b_3 6) fun a H => H.u 43 (ii q.regions) (ex_l1 (HP.cell 0 rfl 6 rfl)) fun a H => H.v 44 (.bool (p.regions != q.regions)) fun a H => H.v 45 (.bool (p.regions != q.regions)) fun a H => H.v 46 (.bool (p.regions != q.regions)) fun a H => ?_
 refine H.split 46 rfl (fun g46 H => ?_) (fun g46 H => ?_)
 ·have g46p := bne_iff_ne.1 g46
  iterate 5 refine H.sx rfl fun a H => ?_
  iterate 2 refine H.vx rfl (.bool true) fun a H => ?_
  iterate 5 refine H.sx rfl fun a H => ?_
  refine H.vx rfl (.bool true) fun a H => ?_
  refine nl (tn ?_)
  refine w_ift H rfl ?_
  refine sq (rg ?_)
  refine H.v 4 (.bool false) fun a H => ?_
  refine nl (tn (rt (tr ?_)))
  refine H.r1 (.bool false) Tryz.results17 ?_
  refine ⟨?_, HP.bl⟩
  rw [decide_eq_false]
  intro e
  obtain ⟨h1, h2, h3, h4, h5, h6, h7, h8, h9, _⟩ := pln_eq.1 e
  first | omega | (have hh := not_is_true (by assumption : (!(([p.num, p.den] : List Int) == [q.num, q.den])) = true); rw [h2, h3] at hh; simp at hh)
 have g46p := eq_of_bne_false g46
 refine H.v 47 (pt b_1 7) fun a H => H.u 48 (ii p.length) (ex_l1 (HP.cell 1 rfl 7 rfl)) fun a H => H.v 49 (pt b_3 7) fun a H => H.u 50 (ii q.length) (ex_l1 (HP.cell 0 rfl 7 rfl)) fun a H => H.v 51 (.bool (p.length != q.length)) fun a H => H.v 52 (.bool (p.length != q.length)) fun a H => H.v 53 (.bool (p.length != q.length)) fun a H => ?_
 refine H.split 53 rfl (fun g53 H => ?_) (fun g53 H => ?_)
 ·have g53p := bne_iff_ne.1 g53
  iterate 5 refine H.sx rfl fun a H => ?_
  refine H.vx rfl (.bool true) fun a H => ?_
  refine nl (tn ?_)
  refine w_ift H rfl ?_
  refine sq (rg ?_)
  refine H.v 4 (.bool false) fun a H => ?_
  refine nl (tn (rt (tr ?_)))
  refine H.r1 (.bool false) Tryz.results17 ?_
  refine ⟨?_, HP.bl⟩
  rw [decide_eq_false]
  intro e
  obtain ⟨h1, h2, h3, h4, h5, h6, h7, h8, h9, _⟩ := pln_eq.1 e
  first | omega | (have hh := not_is_true (by assumption : (!(([p.num, p.den] : List Int) == [q.num, q.den])) = true); rw [h2, h3] at hh; simp at hh)
 have g53p := eq_of_bne_false g53
 refine H.v 54 (pt b_1 8) fun a H => H.u 55 (ii p.fill) (ex_l1 (HP.cell 1 rfl 8 rfl)) fun a H => H.v 56 (pt b_3 8) fun a H => H.u 57 (ii q.fill) (ex_l1 (HP.cell 0 rfl 8 rfl)) fun a H => H.v 58 (.bool (p.fill != q.fill)) fun a H => H.v 59 (.bool (p.fill != q.fill)) fun a H => ?_
 refine nl (tn ?_)
 refine w_if H rfl (fun g59 => ?_) (fun g59 => ?_)
 ·have g59p := bne_iff_ne.1 g59
  refine sq (rg ?_)
  refine H.v 4 (.bool false) fun a H => ?_
  refine nl (tn (rt (tr ?_)))
  refine H.r1 (.bool false) Tryz.results17 ?_
  refine ⟨?_, HP.bl⟩
  rw [decide_eq_false]
  intro e
  obtain ⟨h1, h2, h3, h4, h5, h6, h7, h8, h9, _⟩ := pln_eq.1 e
  first | omega | (have hh := not_is_true (by assumption : (!(([p.num, p.den] : List Int) == [q.num, q.den])) = true); rw [h2, h3] at hh; simp at hh)
 have g59p := eq_of_bne_false g59
 refine sk (tn (sq (sq (rg ?_))))
 refine H.v 60 (pt b_1 3) fun a H => H.v 61 (pt b_1 4) fun a H => H.u 62 (.slice p.SA p.sh.length p.sc) (ex_l1 (HP.cell 1 rfl 4 rfl)) fun a H => H.v 63 (ii p.sh.length) fun a H => H.v 64 (pt b_3 3) fun a H => H.v 65 (pt b_3 4) fun a H => H.u 66 (.slice q.SA q.sh.length q.sc) (ex_l1 (HP.cell 0 rfl 4 rfl)) fun a H => H.v 67 (ii q.sh.length) fun a H => H.v 68 (.bool ((p.sh.length : Int) != (q.sh.length : Int))) fun a H => H.v 69 (.bool ((p.sh.length : Int) != (q.sh.length : Int))) fun a H => ?_
 refine H.split 69 rfl (fun g69 H => ?_) (fun g69 H => ?_)
 ·have g69p := bne_iff_ne.1 g69
  iterate 3 ((iterate 7 refine H.sx rfl fun a H => ?_); (iterate 2 refine H.vx rfl (.bool true) fun a H => ?_))
  iterate 7 refine H.sx rfl fun a H => ?_
  refine H.vx rfl (.bool true) fun a H => ?_
  refine nl (tn ?_)
  refine w_ift H rfl ?_
  refine sq (rg ?_)
  refine H.v 4 (.bool false) fun a H => ?_
  refine nl (tn (rt (tr ?_)))
  refine H.r1 (.bool false) Tryz.results17 ?_
  refine ⟨?_, HP.bl⟩
  rw [decide_eq_false]
  intro e
  have h1 := congrArg (fun v => v.sh.length) e; have h2 := congrArg (fun v => v.its.length) e; have h3 := congrArg (fun v => v.es.length) e; have h4 := congrArg (fun v => v.bs.length) e; have h5 := congrArg (fun v => v.cs.length) e
  simp only [Pln.nv, List.length_map] at h1 h2 h3 h4 h5
  omega
 have g69p := eq_of_bne_false g69
 refine H.v 70 (pt b_1 9) fun a H => H.u 71 (.slice p.IA p.its.length p.ic) (ex_l1 (HP.cell 1 rfl 9 rfl)) fun a H => H.v 72 (ii p.its.length) fun a H => H.v 73 (pt b_3 9) fun a H => H.u 74 (.slice q.IA q.its.length q.ic) (ex_l1 (HP.cell 0 rfl 9 rfl)) fun a H => H.v 75 (ii q.its.length) fun a H => H.v 76 (.bool ((p.its.length : Int) != (q.its.length : Int))) fun a H => H.v 77 (.bool ((p.its.length : Int) != (q.its.length : Int))) fun a H => H.v 78 (.bool ((p.its.length : Int) != (q.its.length : Int))) fun a H => ?_
 refine H.split 78 rfl (fun g78 H => ?_) (fun g78 H => ?_)
 ·have g78p := bne_iff_ne.1 g78
  iterate 2 ((iterate 7 refine H.sx rfl fun a H => ?_); (iterate 2 refine H.vx rfl (.bool true) fun a H => ?_))
  iterate 7 refine H.sx rfl fun a H => ?_
  refine H.vx rfl (.bool true) fun a H => ?_
  refine nl (tn ?_)
  refine w_ift H rfl ?_
  refine sq (rg ?_)
  refine H.v 4 (.bool false) fun a H => ?_
  refine nl (tn (rt (tr ?_)))
  refine H.r1 (.bool false) Tryz.results17 ?_
  refine ⟨?_, HP.bl⟩
  rw [decide_eq_false]
  intro e
  have h1 := congrArg (fun v => v.sh.length) e; have h2 := congrArg (fun v => v.its.length) e; have h3 := congrArg (fun v => v.es.length) e; have h4 := congrArg (fun v => v.bs.length) e; have h5 := congrArg (fun v => v.cs.length) e
  simp only [Pln.nv, List.length_map] at h1 h2 h3 h4 h5
  omega
 have g78p := eq_of_bne_false g78
 refine H.v 79 (pt b_1 10) fun a H => H.u 80 (.slice p.EA p.es.length p.ec) (ex_l1 (HP.cell 1 rfl 10 rfl)) fun a H => H.v 81 (ii p.es.length) fun a H => H.v 82 (pt b_3 10) fun a H => H.u 83 (.slice q.EA q.es.length q.ec) (ex_l1 (HP.cell 0 rfl 10 rfl)) fun a H => H.v 84 (ii q.es.length) fun a H => H.v 85 (.bool ((p.es.length : Int) != (q.es.length : Int))) fun a H => H.v 86 (.bool ((p.es.length : Int) != (q.es.length : Int))) fun a H => H.v 87 (.bool ((p.es.length : Int) != (q.es.length : Int))) fun a H => ?_
 refine H.split 87 rfl (fun g87 H => ?_) (fun g87 H => ?_)
 ·have g87p := bne_iff_ne.1 g87
  iterate 7 refine H.sx rfl fun a H => ?_
  iterate 2 refine H.vx rfl (.bool true) fun a H => ?_
  iterate 7 refine H.sx rfl fun a H => ?_
  refine H.vx rfl (.bool true) fun a H => ?_
  refine nl (tn ?_)
  refine w_ift H rfl ?_
  refine sq (rg ?_)
  refine H.v 4 (.bool false) fun a H => ?_
  refine nl (tn (rt (tr ?_)))
  refine H.r1 (.bool false) Tryz.results17 ?_
  refine ⟨?_, HP.bl⟩
  rw [decide_eq_false]
  intro e
  have h1 := congrArg (fun v => v.sh.length) e; have h2 := congrArg (fun v => v.its.length) e; have h3 := congrArg (fun v => v.es.length) e; have h4 := congrArg (fun v => v.bs.length) e; have h5 := congrArg (fun v => v.cs.length) e
  simp only [Pln.nv, List.length_map] at h1 h2 h3 h4 h5
  omega
 have g87p := eq_of_bne_false g87
 refine H.v 88 (pt b_1 11) fun a H => H.u 89 (.slice p.BA p.bs.length p.bc) (ex_l1 (HP.cell 1 rfl 11 rfl)) fun a H => H.v 90 (ii p.bs.length) fun a H => H.v 91 (pt b_3 11) fun a H => H.u 92 (.slice q.BA q.bs.length q.bc) (ex_l1 (HP.cell 0 rfl 11 rfl)) fun a H => H.v 93 (ii q.bs.length) fun a H => H.v 94 (.bool ((p.bs.length : Int) != (q.bs.length : Int))) fun a H => H.v 95 (.bool ((p.bs.length : Int) != (q.bs.length : Int))) fun a H => H.v 96 (.bool ((p.bs.length : Int) != (q.bs.length : Int))) fun a H => ?_
 refine H.split 96 rfl (fun g96 H => ?_) (fun g96 H => ?_)
 ·have g96p := bne_iff_ne.1 g96
  iterate 7 refine H.sx rfl fun a H => ?_
  refine H.vx rfl (.bool true) fun a H => ?_
  refine nl (tn ?_)
  refine w_ift H rfl ?_
  refine sq (rg ?_)
  refine H.v 4 (.bool false) fun a H => ?_
  refine nl (tn (rt (tr ?_)))
  refine H.r1 (.bool false) Tryz.results17 ?_
  refine ⟨?_, HP.bl⟩
  rw [decide_eq_false]
  intro e
  have h1 := congrArg (fun v => v.sh.length) e; have h2 := congrArg (fun v => v.its.length) e; have h3 := congrArg (fun v => v.es.length) e; have h4 := congrArg (fun v => v.bs.length) e; have h5 := congrArg (fun v => v.cs.length) e
  simp only [Pln.nv, List.length_map] at h1 h2 h3 h4 h5
  omega
 have g96p := eq_of_bne_false g96
 refine H.v 97 (pt b_1 12) fun a H => H.u 98 (.slice p.CA p.cs.length p.cc) (ex_l1 (HP.cell 1 rfl 12 rfl)) fun a H => H.v 99 (ii p.cs.length) fun a H => H.v 100 (pt b_3 12) fun a H => H.u 101 (.slice q.CA q.cs.length q.cc) (ex_l1 (HP.cell 0 rfl 12 rfl)) fun a H => H.v 102 (ii q.cs.length) fun a H => H.v 103 (.bool ((p.cs.length : Int) != (q.cs.length : Int))) fun a H => H.v 104 (.bool ((p.cs.length : Int) != (q.cs.length : Int))) fun a H => ?_
 refine nl (tn ?_)
 refine w_if H rfl (fun g104 => ?_) (fun g104 => ?_)
 ·have g104p := bne_iff_ne.1 g104
  refine sq (rg ?_)
  refine H.v 4 (.bool false) fun a H => ?_
  refine nl (tn (rt (tr ?_)))
  refine H.r1 (.bool false) Tryz.results17 ?_
  refine ⟨?_, HP.bl⟩
  rw [decide_eq_false]
  intro e
  have h1 := congrArg (fun v => v.sh.length) e; have h2 := congrArg (fun v => v.its.length) e; have h3 := congrArg (fun v => v.es.length) e; have h4 := congrArg (fun v => v.bs.length) e; have h5 := congrArg (fun v => v.cs.length) e
  simp only [Pln.nv, List.length_map] at h1 h2 h3 h4 h5
  omega
 have g104p := eq_of_bne_false g104
 refine sk (tn (sq (sq (rg ?_))))
 refine H.v 5 (ii 0) fun a H => ?_
 refine nl (tn (bk ?_))
 refine w_loop (fun mm a wv => ∃ (i0 : Nat), p.sh.length - i0 = mm ∧ Sl 200 [(5, (ii i0)), (104, (.bool ((p.cs.length : Int) != (q.cs.length : Int)))), (103, (.bool ((p.cs.length : Int) != (q.cs.length : Int)))), (102, (ii q.cs.length)), (101, (.slice q.CA q.cs.length q.cc)), (100, (pt b_3 12)), (99, (ii p.cs.length)), (98, (.slice p.CA p.cs.length p.cc)), (97, (pt b_1 12)), (96, (.bool false)), (95, (.bool ((p.bs.length : Int) != (q.bs.length : Int)))), (94, (.bool ((p.bs.length : Int) != (q.bs.length : Int)))), (93, (ii q.bs.length)), (92, (.slice q.BA q.bs.length q.bc)), (91, (pt b_3 11)), (90, (ii p.bs.length)), (89, (.slice p.BA p.bs.length p.bc)), (88, (pt b_1 11)), (87, (.bool false)), (86, (.bool ((p.es.length : Int) != (q.es.length : Int)))), (85, (.bool ((p.es.length : Int) != (q.es.length : Int)))), (84, (ii q.es.length)), (83, (.slice q.EA q.es.length q.ec)), (82, (pt b_3 10)), (81, (ii p.es.length)), (80, (.slice p.EA p.es.length p.ec)), (79, (pt b_1 10)), (78, (.bool false)), (77, (.bool ((p.its.length : Int) != (q.its.length : Int)))), (76, (.bool ((p.its.length : Int) != (q.its.length : Int)))), (75, (ii q.its.length)), (74, (.slice q.IA q.its.length q.ic)), (73, (pt b_3 9)), (72, (ii p.its.length)), (71, (.slice p.IA p.its.length p.ic)), (70, (pt b_1 9)), (69, (.bool false)), (68, (.bool ((p.sh.length : Int) != (q.sh.length : Int)))), (67, (ii q.sh.length)), (66, (.slice q.SA q.sh.length q.sc)), (65, (pt b_3 4)), (64, (pt b_3 3)), (63, (ii p.sh.length)), (62, (.slice p.SA p.sh.length p.sc)), (61, (pt b_1 4)), (60, (pt b_1 3)), (59, (.bool (p.fill != q.fill))), (58, (.bool (p.fill != q.fill))), (57, (ii q.fill)), (56, (pt b_3 8)), (55, (ii p.fill)), (54, (pt b_1 8)), (53, (.bool false)), (52, (.bool (p.length != q.length))), (51, (.bool (p.length != q.length))), (50, (ii q.length)), (49, (pt b_3 7)), (48, (ii p.length)), (47, (pt b_1 7)), (46, (.bool false)), (45, (.bool (p.regions != q.regions))), (44, (.bool (p.regions != q.regions))), (43, (ii q.regions)), (42, (pt b_3 6)), (41, (ii p.regions)), (40, (pt b_1 6)), (39, (.bool false)), (38, (.bool (p.epoch != q.epoch))), (37, (.bool (p.epoch != q.epoch))), (36, (ii q.epoch)), (35, (pt b_3 5)), (34, (ii p.epoch)), (33, (pt b_1 5)), (32, (.bool false)), (31, (.bool (p.offset != q.offset))), (30, (.bool (p.offset != q.offset))), (29, (ii q.offset)), (28, (pt b_3 3)), (27, (pt b_3 3)), (26, (ii p.offset)), (25, (pt b_1 3)), (24, (pt b_1 3)), (23, (.bool false)), (22, (.bool (!(([p.num, p.den] : List Int) == [q.num, q.den])))), (21, (.bool (!(([p.num, p.den] : List Int) == [q.num, q.den])))), (20, (.agg #[(ii q.num), (ii q.den)])), (19, (pt b_3 1)), (18, (.agg #[(ii p.num), (ii p.den)])), (17, (pt b_1 1)), (16, (.bool false)), (15, (.bool (p.channel != q.channel))), (14, (ii q.channel)), (13, (pt b_3 0)), (12, (ii p.channel)), (11, (pt b_1 0)), (3, (pt b_3 0)), (2, (pt b_1 0)), (0, (plV p)), (1, (plV q))] a ∧ Hp w wv [bx b_3 32 (plL q) true, bx b_1 32 (plL p) true] [] ∧ (i0 ≤ p.sh.length) ∧ (p.sh.take i0 = q.sh.take i0)) (p.sh.length - 0) ?_ ?_
 ·exact ⟨0, (by omega), H.keep (by kernel_rfl), HP, (Nat.zero_le _), rfl⟩
 rintro mm a w_5 ⟨i0, hmeas, H, HP, hibi0, hrel0⟩
 refine sq (sq (rg ?_))
 refine H.v 105 (ii i0) fun a H => H.v 106 (pt b_1 3) fun a H => H.v 107 (pt b_1 4) fun a H => H.u 108 (.slice p.SA p.sh.length p.sc) (ex_l1 (HP.cell 1 rfl 4 rfl)) fun a H => H.v 109 (ii p.sh.length) fun a H => H.v 110 (.bool (decide ((i0 : Int) < (p.sh.length : Int)))) fun a H => ?_
 refine nl (tn ?_)
 refine w_if H rfl (fun g110 => ?_) (fun g110 => ?_)
 ·have g110p := of_decide_eq_true g110
  refine sk (tn (sq (bk (sq ?_))))
  obtain ⟨bu_7, ou_8, x_6, hA_9, _, hd_11, hx_10, hm_12, _⟩ := IsRow.get altC_size (hp.sh.below HP.bl) (i := i0) (by omega)
  obtain ⟨bu_14, ou_15, x_13, hA_16, _, hd_18, hx_17, hm_19, _⟩ := IsRow.get altC_size (hq.sh.below HP.bl) (i := i0) (by omega)
  refine An.start (fun v => Hp w v [bx b_3 32 (plL q) true, bx b_1 32 (plL p) true] []) 13 13 HP wide_follows rfl fun w_20 HP => ?_
  refine An.p H (.inr HP) 0 113 (pt b_1 3) fun a H => ?_
  refine An.p H (.inr HP) 1 114 (pt b_1 4) fun a H => ?_
  refine An.vw H (HP) 2 115 (.slice p.SA p.sh.length p.sc) (fun _ hS => ex_l1 (hS.cell 1 rfl 4 rfl)) fun a H => ?_
  refine An.p H (.inr HP) 3 116 (ii i0) fun a H => ?_
  refine An.q H (.inr (HP)) 4 117 (.pointer (some ⟨bu_7, ou_8 + i0 * 2, none⟩)) (fun _ => ex_indexA (b := bu_7) (off := ou_8) (len := p.sh.length) (cap := p.sc) (e := 76) (k := 2) (ik := .i64) (i := (i0 : Int)) (m := i0) hA_9 (by kernel_rfl) (by kernel_rfl) (by omega) (by omega) (by kernel_rfl) (by kernel_rfl)) fun a H => ?_
  refine An.vw H (HP) 5 118 (alV x_6) (fun _ hS => ex_lN (alL x_6) (IsRow.cells altC_size (hp.sh.below (hS.below (by kernel_rfl))) hA_9 hx_10)) fun a H => ?_
  refine An.p H (.inr HP) 6 119 (pt b_3 3) fun a H => ?_
  refine An.p H (.inr HP) 7 120 (pt b_3 4) fun a H => ?_
  refine An.vw H (HP) 8 121 (.slice q.SA q.sh.length q.sc) (fun _ hS => ex_l1 (hS.cell 0 rfl 4 rfl)) fun a H => ?_
  refine An.p H (.inr HP) 9 122 (ii i0) fun a H => ?_
  refine An.q H (.inr (HP)) 10 123 (.pointer (some ⟨bu_14, ou_15 + i0 * 2, none⟩)) (fun _ => ex_indexA (b := bu_14) (off := ou_15) (len := q.sh.length) (cap := q.sc) (e := 76) (k := 2) (ik := .i64) (i := (i0 : Int)) (m := i0) hA_16 (by kernel_rfl) (by kernel_rfl) (by omega) (by omega) (by kernel_rfl) (by kernel_rfl)) fun a H => ?_
  refine An.vw H (HP) 11 124 (alV x_13) (fun _ hS => ex_lN (alL x_13) (IsRow.cells altC_size (hq.sh.below (hS.below (by kernel_rfl))) hA_16 hx_17)) fun a H => ?_
  refine An.q H (.inr (HP)) 12 125 (.bool (!(([x_6.1, x_6.2] : List Int) == [x_13.1, x_13.2]))) (fun _ => ex_neL (a := [x_6.1, x_6.2]) (b := [x_13.1, x_13.2]) (by kernel_rfl) (by kernel_rfl) (by kernel_rfl) rfl) fun a H => ?_
  refine An.done (by kernel_rfl) ?_
  refine tn ?_
  refine w_if H rfl (fun g125 => ?_) (fun g125 => ?_)
  ·have g125p := not_is_true g125
   refine sq (rg ?_)
   refine H.v 4 (.bool false) fun a H => ?_
   refine nl (tn (rt (ibr (tr (tr (ibr (tr ?_)))))))
   refine H.r1 (.bool false) Tryz.results17 ?_
   exact ⟨by rw [decide_eq_false (fun e => absurd (pln_eq.1 e).2.2.2.2.1 (ne_at hx_10 hx_17 (fun e => ne_of_beq_false g125p (alt_eq.2 e))))], HP.bl⟩
  have g125p := not_is_false g125
  refine sk (ibn (tn (rg ?_)))
  refine H.v 111 (ii i0) fun a H => H.valE 112 (ii (IntKind.i64.wrap ((i0 : Int) + 1))) (ii ((i0 : Int) + 1)) (by kernel_rfl) (by kernel_rfl) ((by rw [wrap_ini64 _ (by omega)])) fun a H => H.v 5 (ii ((i0 : Int) + 1)) fun a H => ?_
  refine nl (tn ?_)
  have H := H.as 5 (ii ((i0 + 1 : Nat) : Int)) rfl rfl
  refine ⟨_, ?_, i0 + 1, rfl, H.keep (by kernel_rfl), HP, (by omega), (take_eq_snoc hrel0 hx_10 hx_17 (alt_eq.1 (eq_of_beq g125p)))⟩
  omega
 have g110p := of_decide_eq_false g110
 refine wp_exit (then_exit (then_exit ?_))
 refine w_exit_here ?_
 refine tn (sq (sq ?_))
 have heq0 := take_all hrel0 (by omega) (by omega)
 refine rg ?_
 refine H.v 6 (ii 0) fun a H => ?_
 refine nl (tn (bk ?_))
 refine w_loop (fun mm a wv => ∃ (i1 : Nat), p.its.length - i1 = mm ∧ Sl 200 [(6, (ii i1)), (110, (.bool (decide ((i0 : Int) < (p.sh.length : Int))))), (109, (ii p.sh.length)), (108, (.slice p.SA p.sh.length p.sc)), (107, (pt b_1 4)), (106, (pt b_1 3)), (105, (ii i0)), (5, (ii i0)), (104, (.bool ((p.cs.length : Int) != (q.cs.length : Int)))), (103, (.bool ((p.cs.length : Int) != (q.cs.length : Int)))), (102, (ii q.cs.length)), (101, (.slice q.CA q.cs.length q.cc)), (100, (pt b_3 12)), (99, (ii p.cs.length)), (98, (.slice p.CA p.cs.length p.cc)), (97, (pt b_1 12)), (96, (.bool false)), (95, (.bool ((p.bs.length : Int) != (q.bs.length : Int)))), (94, (.bool ((p.bs.length : Int) != (q.bs.length : Int)))), (93, (ii q.bs.length)), (92, (.slice q.BA q.bs.length q.bc)), (91, (pt b_3 11)), (90, (ii p.bs.length)), (89, (.slice p.BA p.bs.length p.bc)), (88, (pt b_1 11)), (87, (.bool false)), (86, (.bool ((p.es.length : Int) != (q.es.length : Int)))), (85, (.bool ((p.es.length : Int) != (q.es.length : Int)))), (84, (ii q.es.length)), (83, (.slice q.EA q.es.length q.ec)), (82, (pt b_3 10)), (81, (ii p.es.length)), (80, (.slice p.EA p.es.length p.ec)), (79, (pt b_1 10)), (78, (.bool false)), (77, (.bool ((p.its.length : Int) != (q.its.length : Int)))), (76, (.bool ((p.its.length : Int) != (q.its.length : Int)))), (75, (ii q.its.length)), (74, (.slice q.IA q.its.length q.ic)), (73, (pt b_3 9)), (72, (ii p.its.length)), (71, (.slice p.IA p.its.length p.ic)), (70, (pt b_1 9)), (69, (.bool false)), (68, (.bool ((p.sh.length : Int) != (q.sh.length : Int)))), (67, (ii q.sh.length)), (66, (.slice q.SA q.sh.length q.sc)), (65, (pt b_3 4)), (64, (pt b_3 3)), (63, (ii p.sh.length)), (62, (.slice p.SA p.sh.length p.sc)), (61, (pt b_1 4)), (60, (pt b_1 3)), (59, (.bool (p.fill != q.fill))), (58, (.bool (p.fill != q.fill))), (57, (ii q.fill)), (56, (pt b_3 8)), (55, (ii p.fill)), (54, (pt b_1 8)), (53, (.bool false)), (52, (.bool (p.length != q.length))), (51, (.bool (p.length != q.length))), (50, (ii q.length)), (49, (pt b_3 7)), (48, (ii p.length)), (47, (pt b_1 7)), (46, (.bool false)), (45, (.bool (p.regions != q.regions))), (44, (.bool (p.regions != q.regions))), (43, (ii q.regions)), (42, (pt b_3 6)), (41, (ii p.regions)), (40, (pt b_1 6)), (39, (.bool false)), (38, (.bool (p.epoch != q.epoch))), (37, (.bool (p.epoch != q.epoch))), (36, (ii q.epoch)), (35, (pt b_3 5)), (34, (ii p.epoch)), (33, (pt b_1 5)), (32, (.bool false)), (31, (.bool (p.offset != q.offset))), (30, (.bool (p.offset != q.offset))), (29, (ii q.offset)), (28, (pt b_3 3)), (27, (pt b_3 3)), (26, (ii p.offset)), (25, (pt b_1 3)), (24, (pt b_1 3)), (23, (.bool false)), (22, (.bool (!(([p.num, p.den] : List Int) == [q.num, q.den])))), (21, (.bool (!(([p.num, p.den] : List Int) == [q.num, q.den])))), (20, (.agg #[(ii q.num), (ii q.den)])), (19, (pt b_3 1)), (18, (.agg #[(ii p.num), (ii p.den)])), (17, (pt b_1 1)), (16, (.bool false)), (15, (.bool (p.channel != q.channel))), (14, (ii q.channel)), (13, (pt b_3 0)), (12, (ii p.channel)), (11, (pt b_1 0)), (3, (pt b_3 0)), (2, (pt b_1 0)), (0, (plV p)), (1, (plV q))] a ∧ Hp w wv [bx b_3 32 (plL q) true, bx b_1 32 (plL p) true] [] ∧ (i1 ≤ p.its.length) ∧ (p.its.take i1 = q.its.take i1)) (p.its.length - 0) ?_ ?_
 ·exact ⟨0, (by omega), H.keep (by kernel_rfl), HP, (Nat.zero_le _), rfl⟩
 rintro mm a w_21 ⟨i1, hmeas, H, HP, hibi1, hrel1⟩
 refine sq (sq (rg ?_))
 refine H.v 126 (ii i1) fun a H => H.v 127 (pt b_1 9) fun a H => H.u 128 (.slice p.IA p.its.length p.ic) (ex_l1 (HP.cell 1 rfl 9 rfl)) fun a H => H.v 129 (ii p.its.length) fun a H => H.v 130 (.bool (decide ((i1 : Int) < (p.its.length : Int)))) fun a H => ?_
 refine nl (tn ?_)
 refine w_if H rfl (fun g130 => ?_) (fun g130 => ?_)
 ·have g130p := of_decide_eq_true g130
  refine sk (tn (sq (bk (sq ?_))))
  obtain ⟨bu_23, ou_24, x_22, hA_25, _, hd_27, hx_26, hm_28, _⟩ := IsRow.get itC_size (hp.its.below HP.bl) (i := i1) (by omega)
  obtain ⟨bu_30, ou_31, x_29, hA_32, _, hd_34, hx_33, hm_35, _⟩ := IsRow.get itC_size (hq.its.below HP.bl) (i := i1) (by omega)
  refine An.start (fun v => Hp w v [bx b_3 32 (plL q) true, bx b_1 32 (plL p) true] []) 11 11 HP wide_follows rfl fun w_36 HP => ?_
  refine An.p H (.inr HP) 0 133 (pt b_1 9) fun a H => ?_
  refine An.vw H (HP) 1 134 (.slice p.IA p.its.length p.ic) (fun _ hS => ex_l1 (hS.cell 1 rfl 9 rfl)) fun a H => ?_
  refine An.p H (.inr HP) 2 135 (ii i1) fun a H => ?_
  refine An.q H (.inr (HP)) 3 136 (.pointer (some ⟨bu_23, ou_24 + i1 * 5, none⟩)) (fun _ => ex_indexA (b := bu_23) (off := ou_24) (len := p.its.length) (cap := p.ic) (e := 38) (k := 5) (ik := .i64) (i := (i1 : Int)) (m := i1) hA_25 (by kernel_rfl) (by kernel_rfl) (by omega) (by omega) (by kernel_rfl) (by kernel_rfl)) fun a H => ?_
  refine An.vw H (HP) 4 137 (itV x_22) (fun _ hS => ex_lN (itL x_22) (IsRow.cells itC_size (hp.its.below (hS.below (by kernel_rfl))) hA_25 hx_26)) fun a H => ?_
  refine An.p H (.inr HP) 5 138 (pt b_3 9) fun a H => ?_
  refine An.vw H (HP) 6 139 (.slice q.IA q.its.length q.ic) (fun _ hS => ex_l1 (hS.cell 0 rfl 9 rfl)) fun a H => ?_
  refine An.p H (.inr HP) 7 140 (ii i1) fun a H => ?_
  refine An.q H (.inr (HP)) 8 141 (.pointer (some ⟨bu_30, ou_31 + i1 * 5, none⟩)) (fun _ => ex_indexA (b := bu_30) (off := ou_31) (len := q.its.length) (cap := q.ic) (e := 38) (k := 5) (ik := .i64) (i := (i1 : Int)) (m := i1) hA_32 (by kernel_rfl) (by kernel_rfl) (by omega) (by omega) (by kernel_rfl) (by kernel_rfl)) fun a H => ?_
  refine An.vw H (HP) 9 142 (itV x_29) (fun _ hS => ex_lN (itL x_29) (IsRow.cells itC_size (hq.its.below (hS.below (by kernel_rfl))) hA_32 hx_33)) fun a H => ?_
  refine An.q H (.inr (HP)) 10 143 (.bool (!(([x_22.id, x_22.kind, x_22.frames, x_22.sponsor, x_22.rating] : List Int) == [x_29.id, x_29.kind, x_29.frames, x_29.sponsor, x_29.rating]))) (fun _ => ex_neL (a := [x_22.id, x_22.kind, x_22.frames, x_22.sponsor, x_22.rating]) (b := [x_29.id, x_29.kind, x_29.frames, x_29.sponsor, x_29.rating]) (by kernel_rfl) (by kernel_rfl) (by kernel_rfl) rfl) fun a H => ?_
  refine An.done (by kernel_rfl) ?_
  refine tn ?_
  refine w_if H rfl (fun g143 => ?_) (fun g143 => ?_)
  ·have g143p := not_is_true g143
   refine sq (rg ?_)
   refine H.v 4 (.bool false) fun a H => ?_
   refine nl (tn (rt (ibr (tr (tr (ibr (tr ?_)))))))
   refine H.r1 (.bool false) Tryz.results17 ?_
   exact ⟨by rw [decide_eq_false (fun e => absurd (pln_eq.1 e).2.2.2.2.2.2.2.2.2.1 (ne_at hx_26 hx_33 (fun e => ne_of_beq_false g143p (itm_eq.2 e))))], HP.bl⟩
  have g143p := not_is_false g143
  refine sk (ibn (tn (rg ?_)))
  refine H.v 131 (ii i1) fun a H => H.valE 132 (ii (IntKind.i64.wrap ((i1 : Int) + 1))) (ii ((i1 : Int) + 1)) (by kernel_rfl) (by kernel_rfl) ((by rw [wrap_ini64 _ (by omega)])) fun a H => H.v 6 (ii ((i1 : Int) + 1)) fun a H => ?_
  refine nl (tn ?_)
  have H := H.as 6 (ii ((i1 + 1 : Nat) : Int)) rfl rfl
  refine ⟨_, ?_, i1 + 1, rfl, H.keep (by kernel_rfl), HP, (by omega), (take_eq_snoc hrel1 hx_26 hx_33 (itm_eq.1 (eq_of_beq g143p)))⟩
  omega
 have g130p := of_decide_eq_false g130
 refine wp_exit (then_exit (then_exit ?_))
 refine w_exit_here ?_
 refine tn (sq (sq ?_))
 have heq1 := take_all hrel1 (by omega) (by omega)
 refine rg ?_
 refine H.v 7 (ii 0) fun a H => ?_
 refine nl (tn (bk ?_))
 refine w_loop (fun mm a wv => ∃ (i2 : Nat), p.es.length - i2 = mm ∧ Sl 200 [(7, (ii i2)), (130, (.bool (decide ((i1 : Int) < (p.its.length : Int))))), (129, (ii p.its.length)), (128, (.slice p.IA p.its.length p.ic)), (127, (pt b_1 9)), (126, (ii i1)), (6, (ii i1)), (110, (.bool (decide ((i0 : Int) < (p.sh.length : Int))))), (109, (ii p.sh.length)), (108, (.slice p.SA p.sh.length p.sc)), (107, (pt b_1 4)), (106, (pt b_1 3)), (105, (ii i0)), (5, (ii i0)), (104, (.bool ((p.cs.length : Int) != (q.cs.length : Int)))), (103, (.bool ((p.cs.length : Int) != (q.cs.length : Int)))), (102, (ii q.cs.length)), (101, (.slice q.CA q.cs.length q.cc)), (100, (pt b_3 12)), (99, (ii p.cs.length)), (98, (.slice p.CA p.cs.length p.cc)), (97, (pt b_1 12)), (96, (.bool false)), (95, (.bool ((p.bs.length : Int) != (q.bs.length : Int)))), (94, (.bool ((p.bs.length : Int) != (q.bs.length : Int)))), (93, (ii q.bs.length)), (92, (.slice q.BA q.bs.length q.bc)), (91, (pt b_3 11)), (90, (ii p.bs.length)), (89, (.slice p.BA p.bs.length p.bc)), (88, (pt b_1 11)), (87, (.bool false)), (86, (.bool ((p.es.length : Int) != (q.es.length : Int)))), (85, (.bool ((p.es.length : Int) != (q.es.length : Int)))), (84, (ii q.es.length)), (83, (.slice q.EA q.es.length q.ec)), (82, (pt b_3 10)), (81, (ii p.es.length)), (80, (.slice p.EA p.es.length p.ec)), (79, (pt b_1 10)), (78, (.bool false)), (77, (.bool ((p.its.length : Int) != (q.its.length : Int)))), (76, (.bool ((p.its.length : Int) != (q.its.length : Int)))), (75, (ii q.its.length)), (74, (.slice q.IA q.its.length q.ic)), (73, (pt b_3 9)), (72, (ii p.its.length)), (71, (.slice p.IA p.its.length p.ic)), (70, (pt b_1 9)), (69, (.bool false)), (68, (.bool ((p.sh.length : Int) != (q.sh.length : Int)))), (67, (ii q.sh.length)), (66, (.slice q.SA q.sh.length q.sc)), (65, (pt b_3 4)), (64, (pt b_3 3)), (63, (ii p.sh.length)), (62, (.slice p.SA p.sh.length p.sc)), (61, (pt b_1 4)), (60, (pt b_1 3)), (59, (.bool (p.fill != q.fill))), (58, (.bool (p.fill != q.fill))), (57, (ii q.fill)), (56, (pt b_3 8)), (55, (ii p.fill)), (54, (pt b_1 8)), (53, (.bool false)), (52, (.bool (p.length != q.length))), (51, (.bool (p.length != q.length))), (50, (ii q.length)), (49, (pt b_3 7)), (48, (ii p.length)), (47, (pt b_1 7)), (46, (.bool false)), (45, (.bool (p.regions != q.regions))), (44, (.bool (p.regions != q.regions))), (43, (ii q.regions)), (42, (pt b_3 6)), (41, (ii p.regions)), (40, (pt b_1 6)), (39, (.bool false)), (38, (.bool (p.epoch != q.epoch))), (37, (.bool (p.epoch != q.epoch))), (36, (ii q.epoch)), (35, (pt b_3 5)), (34, (ii p.epoch)), (33, (pt b_1 5)), (32, (.bool false)), (31, (.bool (p.offset != q.offset))), (30, (.bool (p.offset != q.offset))), (29, (ii q.offset)), (28, (pt b_3 3)), (27, (pt b_3 3)), (26, (ii p.offset)), (25, (pt b_1 3)), (24, (pt b_1 3)), (23, (.bool false)), (22, (.bool (!(([p.num, p.den] : List Int) == [q.num, q.den])))), (21, (.bool (!(([p.num, p.den] : List Int) == [q.num, q.den])))), (20, (.agg #[(ii q.num), (ii q.den)])), (19, (pt b_3 1)), (18, (.agg #[(ii p.num), (ii p.den)])), (17, (pt b_1 1)), (16, (.bool false)), (15, (.bool (p.channel != q.channel))), (14, (ii q.channel)), (13, (pt b_3 0)), (12, (ii p.channel)), (11, (pt b_1 0)), (3, (pt b_3 0)), (2, (pt b_1 0)), (0, (plV p)), (1, (plV q))] a ∧ Hp w wv [bx b_3 32 (plL q) true, bx b_1 32 (plL p) true] [] ∧ (i2 ≤ p.es.length) ∧ ((p.es.map Ent.nv).take i2 = (q.es.map Ent.nv).take i2)) (p.es.length - 0) ?_ ?_
 ·exact ⟨0, (by omega), H.keep (by kernel_rfl), HP, (Nat.zero_le _), rfl⟩
 rintro mm a w_37 ⟨i2, hmeas, H, HP, hibi2, hrel2⟩
 refine sq (sq (rg ?_))
 refine H.v 144 (ii i2) fun a H => H.v 145 (pt b_1 10) fun a H => H.u 146 (.slice p.EA p.es.length p.ec) (ex_l1 (HP.cell 1 rfl 10 rfl)) fun a H => H.v 147 (ii p.es.length) fun a H => H.v 148 (.bool (decide ((i2 : Int) < (p.es.length : Int)))) fun a H => ?_
 refine nl (tn ?_)
 refine w_if H rfl (fun g148 => ?_) (fun g148 => ?_)
 ·have g148p := of_decide_eq_true g148
  refine sk (tn (sq (bk (sq ?_))))
  obtain ⟨bu_39, ou_40, x_38, hA_41, _, hd_43, hx_42, hm_44, _⟩ := IsRow.get enC_size (hp.es.below HP.bl).row (i := i2) (by omega)
  obtain ⟨bu_46, ou_47, x_45, hA_48, _, hd_50, hx_49, hm_51, _⟩ := IsRow.get enC_size (hq.es.below HP.bl).row (i := i2) (by omega)
  refine An.start (fun v => Hp w v [bx b_3 32 (plL q) true, bx b_1 32 (plL p) true] []) 12 12 HP wide_follows rfl fun w_52 HP => ?_
  refine An.p H (.inr HP) 0 151 (pt b_1 10) fun a H => ?_
  refine An.vw H (HP) 1 152 (.slice p.EA p.es.length p.ec) (fun _ hS => ex_l1 (hS.cell 1 rfl 10 rfl)) fun a H => ?_
  refine An.p H (.inr HP) 2 153 (ii i2) fun a H => ?_
  refine An.q H (.inr (HP)) 3 154 (.pointer (some ⟨bu_39, ou_40 + i2 * 7, none⟩)) (fun _ => ex_indexA (b := bu_39) (off := ou_40) (len := p.es.length) (cap := p.ec) (e := 43) (k := 7) (ik := .i64) (i := (i2 : Int)) (m := i2) hA_41 (by kernel_rfl) (by kernel_rfl) (by omega) (by omega) (by kernel_rfl) (by kernel_rfl)) fun a H => ?_
  refine An.vw H (HP) 4 155 (enV x_38) (fun _ hS => ex_lN (enL x_38) (IsRow.cells enC_size (hp.es.below (hS.below (by kernel_rfl))).row hA_41 hx_42)) fun a H => ?_
  refine An.p H (.inr HP) 5 156 (pt b_3 10) fun a H => ?_
  refine An.vw H (HP) 6 157 (.slice q.EA q.es.length q.ec) (fun _ hS => ex_l1 (hS.cell 0 rfl 10 rfl)) fun a H => ?_
  refine An.p H (.inr HP) 7 158 (ii i2) fun a H => ?_
  refine An.q H (.inr (HP)) 8 159 (.pointer (some ⟨bu_46, ou_47 + i2 * 7, none⟩)) (fun _ => ex_indexA (b := bu_46) (off := ou_47) (len := q.es.length) (cap := q.ec) (e := 43) (k := 7) (ik := .i64) (i := (i2 : Int)) (m := i2) hA_48 (by kernel_rfl) (by kernel_rfl) (by omega) (by omega) (by kernel_rfl) (by kernel_rfl)) fun a H => ?_
  refine An.vw H (HP) 9 160 (enV x_45) (fun _ hS => ex_lN (enL x_45) (IsRow.cells enC_size (hq.es.below (hS.below (by kernel_rfl))).row hA_48 hx_49)) fun a H => ?_
  refine An.one 10 (by kernel_rfl) ?_
  refine Op.call H 161 rfl (by kernel_rfl) (Eq.trans (by kernel_rfl : _ = (callFunc 24 #[(enV x_38), (enV x_45)]).run Tryz.prog w_52) (Tryz.call24 _ _)) (rsameE_any x_38 x_45 w_52 ((hp.es.below HP.bl).ok _ hm_44) ((hq.es.below HP.bl).ok _ hm_51)) ?_
  rintro e w_53 ⟨rfl, hb⟩
  refine ⟨_, rfl, ?_⟩
  intro a H
  have HP := HP.next hb
  refine ⟨.inr (HP), ?_⟩
  refine An.p H (.inr HP) 11 8 (.bool (decide (x_38.nv = x_45.nv))) fun a H => ?_
  refine An.done (by kernel_rfl) ?_
  refine tn (sq (rg ?_))
  refine H.v 162 (.bool (decide (x_38.nv = x_45.nv))) fun a H => H.v 163 (.bool (!(decide (x_38.nv = x_45.nv)))) fun a H => ?_
  refine nl (tn ?_)
  refine w_if H rfl (fun g163 => ?_) (fun g163 => ?_)
  ·have g163p := not_is_true g163
   refine sq (rg ?_)
   refine H.v 4 (.bool false) fun a H => ?_
   refine nl (tn (rt (ibr (tr (tr (ibr (tr ?_)))))))
   refine H.r1 (.bool false) Tryz.results17 ?_
   exact ⟨by rw [decide_eq_false (fun e => absurd (pln_eq.1 e).2.2.2.2.2.2.2.2.2.2.1 (ne_at (map_at hx_42) (map_at hx_49) (of_decide_eq_false g163p)))], HP.bl⟩
  have g163p := not_is_false g163
  refine sk (ibn (tn (rg ?_)))
  refine H.v 149 (ii i2) fun a H => H.valE 150 (ii (IntKind.i64.wrap ((i2 : Int) + 1))) (ii ((i2 : Int) + 1)) (by kernel_rfl) (by kernel_rfl) ((by rw [wrap_ini64 _ (by omega)])) fun a H => H.v 7 (ii ((i2 : Int) + 1)) fun a H => ?_
  refine nl (tn ?_)
  have H := H.as 7 (ii ((i2 + 1 : Nat) : Int)) rfl rfl
  refine ⟨_, ?_, i2 + 1, rfl, H.keep (by kernel_rfl), HP, (by omega), (take_eq_snoc hrel2 (map_at hx_42) (map_at hx_49) (of_decide_eq_true g163p))⟩
  omega
 have g148p := of_decide_eq_false g148
 refine wp_exit (then_exit (then_exit ?_))
 refine w_exit_here ?_
 refine tn (sq (sq ?_))
 have heq2 := take_all hrel2 (by rw [List.length_map]; omega) (by rw [List.length_map, List.length_map]; omega)
 refine rg ?_
 refine H.v 9 (ii 0) fun a H => ?_
 refine nl (tn (bk ?_))
 refine w_loop (fun mm a wv => ∃ (i3 : Nat), p.bs.length - i3 = mm ∧ Sl 200 [(9, (ii i3)), (148, (.bool (decide ((i2 : Int) < (p.es.length : Int))))), (147, (ii p.es.length)), (146, (.slice p.EA p.es.length p.ec)), (145, (pt b_1 10)), (144, (ii i2)), (7, (ii i2)), (130, (.bool (decide ((i1 : Int) < (p.its.length : Int))))), (129, (ii p.its.length)), (128, (.slice p.IA p.its.length p.ic)), (127, (pt b_1 9)), (126, (ii i1)), (6, (ii i1)), (110, (.bool (decide ((i0 : Int) < (p.sh.length : Int))))), (109, (ii p.sh.length)), (108, (.slice p.SA p.sh.length p.sc)), (107, (pt b_1 4)), (106, (pt b_1 3)), (105, (ii i0)), (5, (ii i0)), (104, (.bool ((p.cs.length : Int) != (q.cs.length : Int)))), (103, (.bool ((p.cs.length : Int) != (q.cs.length : Int)))), (102, (ii q.cs.length)), (101, (.slice q.CA q.cs.length q.cc)), (100, (pt b_3 12)), (99, (ii p.cs.length)), (98, (.slice p.CA p.cs.length p.cc)), (97, (pt b_1 12)), (96, (.bool false)), (95, (.bool ((p.bs.length : Int) != (q.bs.length : Int)))), (94, (.bool ((p.bs.length : Int) != (q.bs.length : Int)))), (93, (ii q.bs.length)), (92, (.slice q.BA q.bs.length q.bc)), (91, (pt b_3 11)), (90, (ii p.bs.length)), (89, (.slice p.BA p.bs.length p.bc)), (88, (pt b_1 11)), (87, (.bool false)), (86, (.bool ((p.es.length : Int) != (q.es.length : Int)))), (85, (.bool ((p.es.length : Int) != (q.es.length : Int)))), (84, (ii q.es.length)), (83, (.slice q.EA q.es.length q.ec)), (82, (pt b_3 10)), (81, (ii p.es.length)), (80, (.slice p.EA p.es.length p.ec)), (79, (pt b_1 10)), (78, (.bool false)), (77, (.bool ((p.its.length : Int) != (q.its.length : Int)))), (76, (.bool ((p.its.length : Int) != (q.its.length : Int)))), (75, (ii q.its.length)), (74, (.slice q.IA q.its.length q.ic)), (73, (pt b_3 9)), (72, (ii p.its.length)), (71, (.slice p.IA p.its.length p.ic)), (70, (pt b_1 9)), (69, (.bool false)), (68, (.bool ((p.sh.length : Int) != (q.sh.length : Int)))), (67, (ii q.sh.length)), (66, (.slice q.SA q.sh.length q.sc)), (65, (pt b_3 4)), (64, (pt b_3 3)), (63, (ii p.sh.length)), (62, (.slice p.SA p.sh.length p.sc)), (61, (pt b_1 4)), (60, (pt b_1 3)), (59, (.bool (p.fill != q.fill))), (58, (.bool (p.fill != q.fill))), (57, (ii q.fill)), (56, (pt b_3 8)), (55, (ii p.fill)), (54, (pt b_1 8)), (53, (.bool false)), (52, (.bool (p.length != q.length))), (51, (.bool (p.length != q.length))), (50, (ii q.length)), (49, (pt b_3 7)), (48, (ii p.length)), (47, (pt b_1 7)), (46, (.bool false)), (45, (.bool (p.regions != q.regions))), (44, (.bool (p.regions != q.regions))), (43, (ii q.regions)), (42, (pt b_3 6)), (41, (ii p.regions)), (40, (pt b_1 6)), (39, (.bool false)), (38, (.bool (p.epoch != q.epoch))), (37, (.bool (p.epoch != q.epoch))), (36, (ii q.epoch)), (35, (pt b_3 5)), (34, (ii p.epoch)), (33, (pt b_1 5)), (32, (.bool false)), (31, (.bool (p.offset != q.offset))), (30, (.bool (p.offset != q.offset))), (29, (ii q.offset)), (28, (pt b_3 3)), (27, (pt b_3 3)), (26, (ii p.offset)), (25, (pt b_1 3)), (24, (pt b_1 3)), (23, (.bool false)), (22, (.bool (!(([p.num, p.den] : List Int) == [q.num, q.den])))), (21, (.bool (!(([p.num, p.den] : List Int) == [q.num, q.den])))), (20, (.agg #[(ii q.num), (ii q.den)])), (19, (pt b_3 1)), (18, (.agg #[(ii p.num), (ii p.den)])), (17, (pt b_1 1)), (16, (.bool false)), (15, (.bool (p.channel != q.channel))), (14, (ii q.channel)), (13, (pt b_3 0)), (12, (ii p.channel)), (11, (pt b_1 0)), (3, (pt b_3 0)), (2, (pt b_1 0)), (0, (plV p)), (1, (plV q))] a ∧ Hp w wv [bx b_3 32 (plL q) true, bx b_1 32 (plL p) true] [] ∧ (i3 ≤ p.bs.length) ∧ (p.bs.take i3 = q.bs.take i3)) (p.bs.length - 0) ?_ ?_
 ·exact ⟨0, (by omega), H.keep (by kernel_rfl), HP, (Nat.zero_le _), rfl⟩
 rintro mm a w_54 ⟨i3, hmeas, H, HP, hibi3, hrel3⟩
 refine sq (sq (rg ?_))
 refine H.v 164 (ii i3) fun a H => H.v 165 (pt b_1 11) fun a H => H.u 166 (.slice p.BA p.bs.length p.bc) (ex_l1 (HP.cell 1 rfl 11 rfl)) fun a H => H.v 167 (ii p.bs.length) fun a H => H.v 168 (.bool (decide ((i3 : Int) < (p.bs.length : Int)))) fun a H => ?_
 refine nl (tn ?_)
 refine w_if H rfl (fun g168 => ?_) (fun g168 => ?_)
 ·have g168p := of_decide_eq_true g168
  refine sk (tn (sq (bk (sq ?_))))
  obtain ⟨bu_56, ou_57, x_55, hA_58, _, hd_60, hx_59, hm_61, _⟩ := IsRow.get bkC_size (hp.bs.below HP.bl) (i := i3) (by omega)
  obtain ⟨bu_63, ou_64, x_62, hA_65, _, hd_67, hx_66, hm_68, _⟩ := IsRow.get bkC_size (hq.bs.below HP.bl) (i := i3) (by omega)
  refine An.start (fun v => Hp w v [bx b_3 32 (plL q) true, bx b_1 32 (plL p) true] []) 11 11 HP wide_follows rfl fun w_69 HP => ?_
  refine An.p H (.inr HP) 0 171 (pt b_1 11) fun a H => ?_
  refine An.vw H (HP) 1 172 (.slice p.BA p.bs.length p.bc) (fun _ hS => ex_l1 (hS.cell 1 rfl 11 rfl)) fun a H => ?_
  refine An.p H (.inr HP) 2 173 (ii i3) fun a H => ?_
  refine An.q H (.inr (HP)) 3 174 (.pointer (some ⟨bu_56, ou_57 + i3 * 7, none⟩)) (fun _ => ex_indexA (b := bu_56) (off := ou_57) (len := p.bs.length) (cap := p.bc) (e := 47) (k := 7) (ik := .i64) (i := (i3 : Int)) (m := i3) hA_58 (by kernel_rfl) (by kernel_rfl) (by omega) (by omega) (by kernel_rfl) (by kernel_rfl)) fun a H => ?_
  refine An.vw H (HP) 4 175 (bkV x_55) (fun _ hS => ex_lN (bkL x_55) (IsRow.cells bkC_size (hp.bs.below (hS.below (by kernel_rfl))) hA_58 hx_59)) fun a H => ?_
  refine An.p H (.inr HP) 5 176 (pt b_3 11) fun a H => ?_
  refine An.vw H (HP) 6 177 (.slice q.BA q.bs.length q.bc) (fun _ hS => ex_l1 (hS.cell 0 rfl 11 rfl)) fun a H => ?_
  refine An.p H (.inr HP) 7 178 (ii i3) fun a H => ?_
  refine An.q H (.inr (HP)) 8 179 (.pointer (some ⟨bu_63, ou_64 + i3 * 7, none⟩)) (fun _ => ex_indexA (b := bu_63) (off := ou_64) (len := q.bs.length) (cap := q.bc) (e := 47) (k := 7) (ik := .i64) (i := (i3 : Int)) (m := i3) hA_65 (by kernel_rfl) (by kernel_rfl) (by omega) (by omega) (by kernel_rfl) (by kernel_rfl)) fun a H => ?_
  refine An.vw H (HP) 9 180 (bkV x_62) (fun _ hS => ex_lN (bkL x_62) (IsRow.cells bkC_size (hq.bs.below (hS.below (by kernel_rfl))) hA_65 hx_66)) fun a H => ?_
  refine An.q H (.inr (HP)) 10 181 (.bool (!(([x_55.id, x_55.item, x_55.region, x_55.from_, x_55.to_, x_55.until_, x_55.price] : List Int) == [x_62.id, x_62.item, x_62.region, x_62.from_, x_62.to_, x_62.until_, x_62.price]))) (fun _ => ex_neL (a := [x_55.id, x_55.item, x_55.region, x_55.from_, x_55.to_, x_55.until_, x_55.price]) (b := [x_62.id, x_62.item, x_62.region, x_62.from_, x_62.to_, x_62.until_, x_62.price]) (by kernel_rfl) (by kernel_rfl) (by kernel_rfl) rfl) fun a H => ?_
  refine An.done (by kernel_rfl) ?_
  refine tn ?_
  refine w_if H rfl (fun g181 => ?_) (fun g181 => ?_)
  ·have g181p := not_is_true g181
   refine sq (rg ?_)
   refine H.v 4 (.bool false) fun a H => ?_
   refine nl (tn (rt (ibr (tr (tr (ibr (tr ?_)))))))
   refine H.r1 (.bool false) Tryz.results17 ?_
   exact ⟨by rw [decide_eq_false (fun e => absurd (pln_eq.1 e).2.2.2.2.2.2.2.2.2.2.2.1 (ne_at hx_59 hx_66 (fun e => ne_of_beq_false g181p (bkg_eq.2 e))))], HP.bl⟩
  have g181p := not_is_false g181
  refine sk (ibn (tn (rg ?_)))
  refine H.v 169 (ii i3) fun a H => H.valE 170 (ii (IntKind.i64.wrap ((i3 : Int) + 1))) (ii ((i3 : Int) + 1)) (by kernel_rfl) (by kernel_rfl) ((by rw [wrap_ini64 _ (by omega)])) fun a H => H.v 9 (ii ((i3 : Int) + 1)) fun a H => ?_
  refine nl (tn ?_)
  have H := H.as 9 (ii ((i3 + 1 : Nat) : Int)) rfl rfl
  refine ⟨_, ?_, i3 + 1, rfl, H.keep (by kernel_rfl), HP, (by omega), (take_eq_snoc hrel3 hx_59 hx_66 (bkg_eq.1 (eq_of_beq g181p)))⟩
  omega
 have g168p := of_decide_eq_false g168
 refine wp_exit (then_exit (then_exit ?_))
 refine w_exit_here ?_
 refine tn (sq (sq ?_))
 have heq3 := take_all hrel3 (by omega) (by omega)
 refine rg ?_
 refine H.v 10 (ii 0) fun a H => ?_
 refine nl (tn (bk ?_))
 refine w_loop (fun mm a wv => ∃ (i4 : Nat), p.cs.length - i4 = mm ∧ Sl 200 [(10, (ii i4)), (168, (.bool (decide ((i3 : Int) < (p.bs.length : Int))))), (167, (ii p.bs.length)), (166, (.slice p.BA p.bs.length p.bc)), (165, (pt b_1 11)), (164, (ii i3)), (9, (ii i3)), (148, (.bool (decide ((i2 : Int) < (p.es.length : Int))))), (147, (ii p.es.length)), (146, (.slice p.EA p.es.length p.ec)), (145, (pt b_1 10)), (144, (ii i2)), (7, (ii i2)), (130, (.bool (decide ((i1 : Int) < (p.its.length : Int))))), (129, (ii p.its.length)), (128, (.slice p.IA p.its.length p.ic)), (127, (pt b_1 9)), (126, (ii i1)), (6, (ii i1)), (110, (.bool (decide ((i0 : Int) < (p.sh.length : Int))))), (109, (ii p.sh.length)), (108, (.slice p.SA p.sh.length p.sc)), (107, (pt b_1 4)), (106, (pt b_1 3)), (105, (ii i0)), (5, (ii i0)), (104, (.bool ((p.cs.length : Int) != (q.cs.length : Int)))), (103, (.bool ((p.cs.length : Int) != (q.cs.length : Int)))), (102, (ii q.cs.length)), (101, (.slice q.CA q.cs.length q.cc)), (100, (pt b_3 12)), (99, (ii p.cs.length)), (98, (.slice p.CA p.cs.length p.cc)), (97, (pt b_1 12)), (96, (.bool false)), (95, (.bool ((p.bs.length : Int) != (q.bs.length : Int)))), (94, (.bool ((p.bs.length : Int) != (q.bs.length : Int)))), (93, (ii q.bs.length)), (92, (.slice q.BA q.bs.length q.bc)), (91, (pt b_3 11)), (90, (ii p.bs.length)), (89, (.slice p.BA p.bs.length p.bc)), (88, (pt b_1 11)), (87, (.bool false)), (86, (.bool ((p.es.length : Int) != (q.es.length : Int)))), (85, (.bool ((p.es.length : Int) != (q.es.length : Int)))), (84, (ii q.es.length)), (83, (.slice q.EA q.es.length q.ec)), (82, (pt b_3 10)), (81, (ii p.es.length)), (80, (.slice p.EA p.es.length p.ec)), (79, (pt b_1 10)), (78, (.bool false)), (77, (.bool ((p.its.length : Int) != (q.its.length : Int)))), (76, (.bool ((p.its.length : Int) != (q.its.length : Int)))), (75, (ii q.its.length)), (74, (.slice q.IA q.its.length q.ic)), (73, (pt b_3 9)), (72, (ii p.its.length)), (71, (.slice p.IA p.its.length p.ic)), (70, (pt b_1 9)), (69, (.bool false)), (68, (.bool ((p.sh.length : Int) != (q.sh.length : Int)))), (67, (ii q.sh.length)), (66, (.slice q.SA q.sh.length q.sc)), (65, (pt b_3 4)), (64, (pt b_3 3)), (63, (ii p.sh.length)), (62, (.slice p.SA p.sh.length p.sc)), (61, (pt b_1 4)), (60, (pt b_1 3)), (59, (.bool (p.fill != q.fill))), (58, (.bool (p.fill != q.fill))), (57, (ii q.fill)), (56, (pt b_3 8)), (55, (ii p.fill)), (54, (pt b_1 8)), (53, (.bool false)), (52, (.bool (p.length != q.length))), (51, (.bool (p.length != q.length))), (50, (ii q.length)), (49, (pt b_3 7)), (48, (ii p.length)), (47, (pt b_1 7)), (46, (.bool false)), (45, (.bool (p.regions != q.regions))), (44, (.bool (p.regions != q.regions))), (43, (ii q.regions)), (42, (pt b_3 6)), (41, (ii p.regions)), (40, (pt b_1 6)), (39, (.bool false)), (38, (.bool (p.epoch != q.epoch))), (37, (.bool (p.epoch != q.epoch))), (36, (ii q.epoch)), (35, (pt b_3 5)), (34, (ii p.epoch)), (33, (pt b_1 5)), (32, (.bool false)), (31, (.bool (p.offset != q.offset))), (30, (.bool (p.offset != q.offset))), (29, (ii q.offset)), (28, (pt b_3 3)), (27, (pt b_3 3)), (26, (ii p.offset)), (25, (pt b_1 3)), (24, (pt b_1 3)), (23, (.bool false)), (22, (.bool (!(([p.num, p.den] : List Int) == [q.num, q.den])))), (21, (.bool (!(([p.num, p.den] : List Int) == [q.num, q.den])))), (20, (.agg #[(ii q.num), (ii q.den)])), (19, (pt b_3 1)), (18, (.agg #[(ii p.num), (ii p.den)])), (17, (pt b_1 1)), (16, (.bool false)), (15, (.bool (p.channel != q.channel))), (14, (ii q.channel)), (13, (pt b_3 0)), (12, (ii p.channel)), (11, (pt b_1 0)), (3, (pt b_3 0)), (2, (pt b_1 0)), (0, (plV p)), (1, (plV q))] a ∧ Hp w wv [bx b_3 32 (plL q) true, bx b_1 32 (plL p) true] [] ∧ (i4 ≤ p.cs.length) ∧ (p.cs.take i4 = q.cs.take i4)) (p.cs.length - 0) ?_ ?_
 ·exact ⟨0, (by omega), H.keep (by kernel_rfl), HP, (Nat.zero_le _), rfl⟩
 rintro mm a w_70 ⟨i4, hmeas, H, HP, hibi4, hrel4⟩
 refine sq (sq (rg ?_))
 refine H.v 182 (ii i4) fun a H => H.v 183 (pt b_1 12) fun a H => H.u 184 (.slice p.CA p.cs.length p.cc) (ex_l1 (HP.cell 1 rfl 12 rfl)) fun a H => H.v 185 (ii p.cs.length) fun a H => H.v 186 (.bool (decide ((i4 : Int) < (p.cs.length : Int)))) fun a H => ?_
 refine nl (tn ?_)
 refine w_if H rfl (fun g186 => ?_) (fun g186 => ?_)
 ·have g186p := of_decide_eq_true g186
  refine sk (tn (sq (bk (sq ?_))))
  obtain ⟨bu_72, ou_73, x_71, hA_74, _, hd_76, hx_75, hm_77, _⟩ := IsRow.get clC_size (hp.cs.below HP.bl) (i := i4) (by omega)
  obtain ⟨bu_79, ou_80, x_78, hA_81, _, hd_83, hx_82, hm_84, _⟩ := IsRow.get clC_size (hq.cs.below HP.bl) (i := i4) (by omega)
  refine An.start (fun v => Hp w v [bx b_3 32 (plL q) true, bx b_1 32 (plL p) true] []) 11 11 HP wide_follows rfl fun w_85 HP => ?_
  refine An.p H (.inr HP) 0 189 (pt b_1 12) fun a H => ?_
  refine An.vw H (HP) 1 190 (.slice p.CA p.cs.length p.cc) (fun _ hS => ex_l1 (hS.cell 1 rfl 12 rfl)) fun a H => ?_
  refine An.p H (.inr HP) 2 191 (ii i4) fun a H => ?_
  refine An.q H (.inr (HP)) 3 192 (.pointer (some ⟨bu_72, ou_73 + i4 * 8, none⟩)) (fun _ => ex_indexA (b := bu_72) (off := ou_73) (len := p.cs.length) (cap := p.cc) (e := 73) (k := 8) (ik := .i64) (i := (i4 : Int)) (m := i4) hA_74 (by kernel_rfl) (by kernel_rfl) (by omega) (by omega) (by kernel_rfl) (by kernel_rfl)) fun a H => ?_
  refine An.vw H (HP) 4 193 (clV x_71) (fun _ hS => ex_lN (clL x_71) (IsRow.cells clC_size (hp.cs.below (hS.below (by kernel_rfl))) hA_74 hx_75)) fun a H => ?_
  refine An.p H (.inr HP) 5 194 (pt b_3 12) fun a H => ?_
  refine An.vw H (HP) 6 195 (.slice q.CA q.cs.length q.cc) (fun _ hS => ex_l1 (hS.cell 0 rfl 12 rfl)) fun a H => ?_
  refine An.p H (.inr HP) 7 196 (ii i4) fun a H => ?_
  refine An.q H (.inr (HP)) 8 197 (.pointer (some ⟨bu_79, ou_80 + i4 * 8, none⟩)) (fun _ => ex_indexA (b := bu_79) (off := ou_80) (len := q.cs.length) (cap := q.cc) (e := 73) (k := 8) (ik := .i64) (i := (i4 : Int)) (m := i4) hA_81 (by kernel_rfl) (by kernel_rfl) (by omega) (by omega) (by kernel_rfl) (by kernel_rfl)) fun a H => ?_
  refine An.vw H (HP) 9 198 (clV x_78) (fun _ hS => ex_lN (clL x_78) (IsRow.cells clC_size (hq.cs.below (hS.below (by kernel_rfl))) hA_81 hx_82)) fun a H => ?_
  refine An.q H (.inr (HP)) 10 199 (.bool (!(([x_71.kind, x_71.item, x_71.from_, x_71.to_, x_71.regions, x_71.n, x_71.a, x_71.b] : List Int) == [x_78.kind, x_78.item, x_78.from_, x_78.to_, x_78.regions, x_78.n, x_78.a, x_78.b]))) (fun _ => ex_neL (a := [x_71.kind, x_71.item, x_71.from_, x_71.to_, x_71.regions, x_71.n, x_71.a, x_71.b]) (b := [x_78.kind, x_78.item, x_78.from_, x_78.to_, x_78.regions, x_78.n, x_78.a, x_78.b]) (by kernel_rfl) (by kernel_rfl) (by kernel_rfl) rfl) fun a H => ?_
  refine An.done (by kernel_rfl) ?_
  refine tn ?_
  refine w_if H rfl (fun g199 => ?_) (fun g199 => ?_)
  ·have g199p := not_is_true g199
   refine sq (rg ?_)
   refine H.v 4 (.bool false) fun a H => ?_
   refine nl (tn (rt (ibr (tr (tr (ibr (tr ?_)))))))
   refine H.r1 (.bool false) Tryz.results17 ?_
   exact ⟨by rw [decide_eq_false (fun e => absurd (pln_eq.1 e).2.2.2.2.2.2.2.2.2.2.2.2 (ne_at hx_75 hx_82 (fun e => ne_of_beq_false g199p (cls_eq.2 e))))], HP.bl⟩
  have g199p := not_is_false g199
  refine sk (ibn (tn (rg ?_)))
  refine H.v 187 (ii i4) fun a H => H.valE 188 (ii (IntKind.i64.wrap ((i4 : Int) + 1))) (ii ((i4 : Int) + 1)) (by kernel_rfl) (by kernel_rfl) ((by rw [wrap_ini64 _ (by omega)])) fun a H => H.v 10 (ii ((i4 : Int) + 1)) fun a H => ?_
  refine nl (tn ?_)
  have H := H.as 10 (ii ((i4 + 1 : Nat) : Int)) rfl rfl
  refine ⟨_, ?_, i4 + 1, rfl, H.keep (by kernel_rfl), HP, (by omega), (take_eq_snoc hrel4 hx_75 hx_82 (cls_eq.1 (eq_of_beq g199p)))⟩
  omega
 have g186p := of_decide_eq_false g186
 refine wp_exit (then_exit (then_exit ?_))
 refine w_exit_here ?_
 refine tn (sq ?_)
 have heq4 := take_all hrel4 (by omega) (by omega)
 refine rg ?_
 refine H.v 4 (.bool true) fun a H => ?_
 refine nl (tn (rt ?_))
 refine H.r1 (.bool true) Tryz.results17 ?_
 have hv : decide (p.nv = q.nv) = true := by rw [decide_eq_true_eq, pln_eq]; refine ⟨by omega, ?_, ?_, by omega, heq0, by omega, by omega, by omega, by omega, heq1, heq2, heq3, heq4⟩ <;> (have hh := eq_of_beq (not_is_false g23); simp at hh; omega)
 exact ⟨by rw [hv], HP.bl⟩
theorem asc_step {last : Int} {x : Itm} {l : List Itm} (h : last < x.id ∧ x.id ≤ 1000000) (hp : itemP x = true) : (asc last 1000000 ((x :: l).map (fun x => x.id)) && (x :: l).all itemP) = (asc x.id 1000000 (l.map (fun x => x.id)) && l.all itemP) := by
 simp only [List.map_cons, asc, List.all_cons, hp, decide_eq_true h.1, decide_eq_true h.2, Bool.true_and]
theorem asc_bad {last : Int} {x : Itm} {l : List Itm} (h : last < x.id → x.id ≤ 1000000 → itemP x = true → False) : (asc last 1000000 ((x :: l).map (fun x => x.id)) && (x :: l).all itemP) = false := by
 rw [Bool.eq_false_iff]
 intro hh
 simp only [List.map_cons, asc, List.all_cons, Bool.and_eq_true, decide_eq_true_eq] at hh
 exact h hh.1.1.1 hh.1.1.2 hh.2.1
theorem asc_stepB {last : Int} {x : Bkg} {l : List Bkg} {P : Bkg → Bool} (h : last < x.id ∧ x.id ≤ 1000000) (hp : P x = true) : (asc last 1000000 ((x :: l).map (fun x => x.id)) && (x :: l).all P) = (asc x.id 1000000 (l.map (fun x => x.id)) && l.all P) := by
 simp only [List.map_cons, asc, List.all_cons, hp, decide_eq_true h.1, decide_eq_true h.2, Bool.true_and]
theorem asc_badB {last : Int} {x : Bkg} {l : List Bkg} {P : Bkg → Bool} (h : last < x.id → x.id ≤ 1000000 → P x = true → False) : (asc last 1000000 ((x :: l).map (fun x => x.id)) && (x :: l).all P) = false := by
 rw [Bool.eq_false_iff]
 intro hh
 simp only [List.map_cons, asc, List.all_cons, Bool.and_eq_true, decide_eq_true_eq] at hh
 exact h hh.1.1.1 hh.1.1.2 hh.2.1
theorem its_split (l : List Itm) (fill : Int) : itsP l fill = (decide ((l.length : Int) ≤ 4000) && (asc 0 1000000 (l.map (fun x => x.id)) && l.all itemP) && (gI l fill).kind == 5) := by
 unfold itsP; rw [Bool.and_assoc (decide _) _ _]
theorem bks_split (its : List Itm) (r : Int) (l : List Bkg) : bksP its r l = (decide ((l.length : Int) ≤ 2000) && (asc 0 1000000 (l.map (fun x => x.id)) && l.all (bookP its r))) := by
 unfold bksP; rw [Bool.and_assoc (decide _) _ _]
theorem gI_known {l : List Itm} {k n : Int} (h : (gI l k).kind = n) (hn : n ≠ 0) : hI l k = true := by
 unfold gI at h
 unfold hI
 cases hf : fI l k with
 | none => rw [hf] at h; exact absurd h.symm hn
 | some x => rfl
theorem its_kind (l : List Itm) (k : Int) : ((gI l k).kind == 5) = (hI l k && (gI l k).kind == 5) := by
 cases h : hI l k with
 | true => rfl
 | false =>
  rw [Bool.false_and]
  simp only [beq_eq_false_iff_ne]
  intro hk
  rw [gI_known hk (by decide)] at h
  cases h
def rfulP (x : Ent) (y : Bkg) : Bool := if y.region = 0 then x.item == y.item else x.al.any fun a => a.1 == y.region && a.2 == y.item
theorem rful_eq (bs : List Bkg) (x : Ent) : fulP bs x = (x.booking == 0 || (hB bs x.booking && rfulP x (gB bs x.booking))) := by
 unfold fulP rfulP
 rw [show ((gB bs x.booking).item == x.item) = (x.item == (gB bs x.booking).item) from by rw [Bool.eq_iff_iff]; simp; exact eq_comm]
def raltsP (its : List Itm) (regions kind : Int) (e : Ent) : Bool :=
 !(kind == 4 && decide (0 < (e.al.length : Int))) && asc 0 (regions - 1) (e.al.map (fun a : Int × Int => a.1)) && !e.al.any (unfitP its e.frames)
theorem ralts_eq (its : List Itm) (regions : Int) (e : Ent) : altsP its regions e = raltsP its regions (gI its e.item).kind e := by
 unfold altsP raltsP
 rw [Bool.and_comm (asc _ _ _)]
theorem alt_step {last hi : Int} {a : Int × Int} {l : Alts} {q : Int × Int → Bool} (h : last < a.1 ∧ a.1 ≤ hi) (hp : q a = false) : (asc last hi ((a :: l).map (fun a : Int × Int => a.1)) && !(a :: l).any q) = (asc a.1 hi (l.map (fun a : Int × Int => a.1)) && !l.any q) := by
 simp only [List.map_cons, asc, List.any_cons, hp, decide_eq_true h.1, decide_eq_true h.2, Bool.true_and, Bool.false_or]
theorem alt_bad {last hi : Int} {a : Int × Int} {l : Alts} {q : Int × Int → Bool} (h : last < a.1 → a.1 ≤ hi → q a = false → False) : (asc last hi ((a :: l).map (fun a : Int × Int => a.1)) && !(a :: l).any q) = false := by
 rw [Bool.eq_false_iff]
 intro hh
 simp only [List.map_cons, asc, List.any_cons, Bool.and_eq_true, decide_eq_true_eq, Bool.not_eq_true', Bool.or_eq_false_iff] at hh
 exact h hh.1.1.1 hh.1.1.2 hh.2.1
theorem unfit_no {its : List Itm} {fr : Int} {a : Int × Int} (h1 : hI its a.2 = true) (h2 : (gI its a.2).frames = fr) (h3 : (gI its a.2).kind ≠ 5) (h4 : (gI its a.2).kind ≠ 4) : unfitP its fr a = false := by
 simp [unfitP, h1, h2, h3, h4]
theorem unfit_has {its : List Itm} {fr : Int} {a : Int × Int} (h : unfitP its fr a = false) : hI its a.2 = true ∧ (gI its a.2).frames = fr ∧ (gI its a.2).kind ≠ 5 ∧ (gI its a.2).kind ≠ 4 := by
 simp [unfitP] at h
 exact ⟨h.1.1.1, h.1.1.2, h.1.2, h.2⟩
theorem ritems_any (p : Pln) (w : World) (hpl : IsPln w p) : Calls Tryz.prog 38 #[(plV p)] w fun e w' => e = .returned (.bool (itsP p.its p.fill)) ∧ Below w.heap.size w w' := by
 have hl := hpl.lits
 unfold maxLen at hl
 have HP := Hp.start w
 refine w_enter 88 [(0, (plV p))] Tryz.func38 rfl Tryz.ntmps38 (by kernel_rfl) (by kernel_rfl) fun a H => ?_
 refine sq (rg ?_)
 refine H.al HP 1 32 (plL p) fun b_1 w_2 a H HP => H.v 2 (.bool false) fun a H => ?_
 refine nl (tn (sq (sq (rg ?_))))
 refine H.v 8 (pt b_1 9) fun a H => H.u 9 (.slice p.IA p.its.length p.ic) (ex_l1 (HP.cell 0 rfl 9 rfl)) fun a H => H.v 10 (ii p.its.length) fun a H => H.v 11 (.bool (decide ((p.its.length : Int) > 4000))) fun a H => ?_
 refine nl (tn ?_)
 refine w_if H rfl (fun g11 => ?_) (fun g11 => ?_)
 ·have g11p := of_decide_eq_true g11
  refine sq (rg ?_)
  refine H.v 2 (.bool false) fun a H => ?_
  refine nl (tn (rt (tr ?_)))
  refine H.r1 (.bool false) Tryz.results38 ?_
  exact ⟨by rw [show itsP p.its p.fill = false from by simp [itsP, show ¬ (p.its.length : Int) ≤ 4000 by omega]], HP.bl⟩
 have g11p := of_decide_eq_false g11
 refine sk (tn (sq (rg ?_)))
 refine H.v 3 (ii 0) fun a H => ?_
 refine nl (tn (sq (sq (rg ?_))))
 refine H.v 4 (ii 0) fun a H => ?_
 refine nl (tn (bk ?_))
 refine w_loop (fun mm a wv => ∃ (i : Nat), ∃ (last : Int), p.its.length - i = mm ∧ Sl 88 [(4, (ii i)), (3, (ii last)), (11, (.bool (decide ((p.its.length : Int) > 4000)))), (10, (ii p.its.length)), (9, (.slice p.IA p.its.length p.ic)), (8, (pt b_1 9)), (1, (pt b_1 0)), (0, (plV p))] a ∧ Hp w wv [bx b_1 32 (plL p) true] [] ∧ (i ≤ p.its.length) ∧ ((asc 0 1000000 (p.its.map (fun x => x.id)) && p.its.all itemP) = (asc last 1000000 ((p.its.drop i).map (fun x => x.id)) && (p.its.drop i).all itemP))) (p.its.length - 0) ?_ ?_
 ·exact ⟨0, 0, (by omega), H.keep (by kernel_rfl), HP, (Nat.zero_le _), rfl⟩
 rintro mm a w_3 ⟨i, last, hmeas, H, HP, hib, hrel⟩
 refine sq (sq (rg ?_))
 refine H.v 12 (ii i) fun a H => H.v 13 (pt b_1 9) fun a H => H.u 14 (.slice p.IA p.its.length p.ic) (ex_l1 (HP.cell 0 rfl 9 rfl)) fun a H => H.v 15 (ii p.its.length) fun a H => H.v 16 (.bool (decide ((i : Int) < (p.its.length : Int)))) fun a H => ?_
 refine nl (tn ?_)
 refine w_if H rfl (fun g16 => ?_) (fun g16 => ?_)
 ·have g16p := of_decide_eq_true g16
  refine sk (tn (sq (bk (sq ?_))))
  obtain ⟨bu_5, ou_6, x_4, hA_7, _, hd_9, hx_8, hm_10, _⟩ := IsRow.get itC_size (hpl.its.below HP.bl) (i := i) (by omega)
  refine rg ?_
  refine H.v 19 (pt b_1 9) fun a H => H.u 20 (.slice p.IA p.its.length p.ic) (ex_l1 (HP.cell 0 rfl 9 rfl)) fun a H => H.v 21 (ii i) fun a H => H.u 22 (.pointer (some ⟨bu_5, ou_6 + i * 5, none⟩)) (ex_indexA (b := bu_5) (off := ou_6) (len := p.its.length) (cap := p.ic) (e := 38) (k := 5) (ik := .i64) (i := (i : Int)) (m := i) hA_7 (by kernel_rfl) (by kernel_rfl) (by omega) (by omega) (by kernel_rfl) (by kernel_rfl)) fun a H => H.u 23 (itV x_4) (ex_lN (itL x_4) (IsRow.cells itC_size (hpl.its.below HP.bl) hA_7 hx_8)) fun a H => H.al HP 5 38 [(ii 0), (ii 0), (ii 0), (ii 0), (ii 0)] fun b_11 w_12 a H HP => H.st HP 0 b_11 0 5 38 true (itV x_4) [bx b_11 38 (itL x_4) true, bx b_1 32 (plL p) true] rfl fun w_13 a H HP => ?_
  refine nl (tn (sq (sq (rg ?_))))
  refine H.v 24 (pt b_11 0) fun a H => H.u 25 (ii x_4.id) (ex_l1 (HP.cell 0 rfl 0 rfl)) fun a H => H.v 26 (ii last) fun a H => H.v 27 (.bool (decide (x_4.id ≤ last))) fun a H => H.v 28 (.bool (decide (x_4.id ≤ last))) fun a H => ?_
  refine H.split 28 rfl (fun g28 H => ?_) (fun g28 H => ?_)
  ·have g28p := of_decide_eq_true g28
   iterate 8 ((iterate 3 refine H.sx rfl fun a H => ?_); (iterate 2 refine H.vx rfl (.bool true) fun a H => ?_))
   iterate 3 refine H.sx rfl fun a H => ?_
   refine H.vx rfl (.bool true) fun a H => ?_
   refine nl (tn ?_)
   refine w_ift H rfl ?_
   refine sq (rg ?_)
   refine H.v 2 (.bool false) fun a H => ?_
   refine nl (tn (rt (tr (ibr (tr (tr (ibr (tr ?_))))))))
   refine H.r1 (.bool false) Tryz.results38 ?_
   have hbad : (asc 0 1000000 (p.its.map (fun x => x.id)) && p.its.all itemP) = false := by rw [hrel, hd_9]; exact asc_bad (fun h1 h2 h3 => by simp only [itemP, Bool.and_eq_true, inR_iff] at h3; omega)
   exact ⟨by rw [its_split, hbad]; simp, HP.bl⟩
  have g28p := of_decide_eq_false g28
  refine H.v 29 (pt b_11 0) fun a H => H.u 30 (ii x_4.id) (ex_l1 (HP.cell 0 rfl 0 rfl)) fun a H => H.v 31 (.bool (decide (x_4.id > 1000000))) fun a H => H.v 32 (.bool (decide (x_4.id > 1000000))) fun a H => H.v 33 (.bool (decide (x_4.id > 1000000))) fun a H => ?_
  refine H.split 33 rfl (fun g33 H => ?_) (fun g33 H => ?_)
  ·have g33p := of_decide_eq_true g33
   iterate 7 ((iterate 3 refine H.sx rfl fun a H => ?_); (iterate 2 refine H.vx rfl (.bool true) fun a H => ?_))
   iterate 3 refine H.sx rfl fun a H => ?_
   refine H.vx rfl (.bool true) fun a H => ?_
   refine nl (tn ?_)
   refine w_ift H rfl ?_
   refine sq (rg ?_)
   refine H.v 2 (.bool false) fun a H => ?_
   refine nl (tn (rt (tr (ibr (tr (tr (ibr (tr ?_))))))))
   refine H.r1 (.bool false) Tryz.results38 ?_
   have hbad : (asc 0 1000000 (p.its.map (fun x => x.id)) && p.its.all itemP) = false := by rw [hrel, hd_9]; exact asc_bad (fun h1 h2 h3 => by simp only [itemP, Bool.and_eq_true, inR_iff] at h3; omega)
   exact ⟨by rw [its_split, hbad]; simp, HP.bl⟩
  have g33p := of_decide_eq_false g33
  refine H.v 34 (pt b_11 1) fun a H => H.u 35 (ii x_4.kind) (ex_l1 (HP.cell 0 rfl 1 rfl)) fun a H => H.v 36 (.bool (decide (x_4.kind < 1))) fun a H => H.v 37 (.bool (decide (x_4.kind < 1))) fun a H => H.v 38 (.bool (decide (x_4.kind < 1))) fun a H => ?_
  refine H.split 38 rfl (fun g38 H => ?_) (fun g38 H => ?_)
  ·have g38p := of_decide_eq_true g38
   iterate 6 ((iterate 3 refine H.sx rfl fun a H => ?_); (iterate 2 refine H.vx rfl (.bool true) fun a H => ?_))
   iterate 3 refine H.sx rfl fun a H => ?_
   refine H.vx rfl (.bool true) fun a H => ?_
   refine nl (tn ?_)
   refine w_ift H rfl ?_
   refine sq (rg ?_)
   refine H.v 2 (.bool false) fun a H => ?_
   refine nl (tn (rt (tr (ibr (tr (tr (ibr (tr ?_))))))))
   refine H.r1 (.bool false) Tryz.results38 ?_
   have hbad : (asc 0 1000000 (p.its.map (fun x => x.id)) && p.its.all itemP) = false := by rw [hrel, hd_9]; exact asc_bad (fun h1 h2 h3 => by simp only [itemP, Bool.and_eq_true, inR_iff] at h3; omega)
   exact ⟨by rw [its_split, hbad]; simp, HP.bl⟩
  have g38p := of_decide_eq_false g38
  refine H.v 39 (pt b_11 1) fun a H => H.u 40 (ii x_4.kind) (ex_l1 (HP.cell 0 rfl 1 rfl)) fun a H => H.v 41 (.bool (decide (x_4.kind > 5))) fun a H => H.v 42 (.bool (decide (x_4.kind > 5))) fun a H => H.v 43 (.bool (decide (x_4.kind > 5))) fun a H => ?_
  refine H.split 43 rfl (fun g43 H => ?_) (fun g43 H => ?_)
  ·have g43p := of_decide_eq_true g43
   iterate 5 ((iterate 3 refine H.sx rfl fun a H => ?_); (iterate 2 refine H.vx rfl (.bool true) fun a H => ?_))
   iterate 3 refine H.sx rfl fun a H => ?_
   refine H.vx rfl (.bool true) fun a H => ?_
   refine nl (tn ?_)
   refine w_ift H rfl ?_
   refine sq (rg ?_)
   refine H.v 2 (.bool false) fun a H => ?_
   refine nl (tn (rt (tr (ibr (tr (tr (ibr (tr ?_))))))))
   refine H.r1 (.bool false) Tryz.results38 ?_
   have hbad : (asc 0 1000000 (p.its.map (fun x => x.id)) && p.its.all itemP) = false := by rw [hrel, hd_9]; exact asc_bad (fun h1 h2 h3 => by simp only [itemP, Bool.and_eq_true, inR_iff] at h3; omega)
   exact ⟨by rw [its_split, hbad]; simp, HP.bl⟩
  have g43p := of_decide_eq_false g43
  refine H.v 44 (pt b_11 2) fun a H => H.u 45 (ii x_4.frames) (ex_l1 (HP.cell 0 rfl 2 rfl)) fun a H => H.v 46 (.bool (decide (x_4.frames < 1))) fun a H => H.v 47 (.bool (decide (x_4.frames < 1))) fun a H => H.v 48 (.bool (decide (x_4.frames < 1))) fun a H => ?_
  refine H.split 48 rfl (fun g48 H => ?_) (fun g48 H => ?_)
  ·have g48p := of_decide_eq_true g48
   iterate 4 ((iterate 3 refine H.sx rfl fun a H => ?_); (iterate 2 refine H.vx rfl (.bool true) fun a H => ?_))
   iterate 3 refine H.sx rfl fun a H => ?_
   refine H.vx rfl (.bool true) fun a H => ?_
   refine nl (tn ?_)
   refine w_ift H rfl ?_
   refine sq (rg ?_)
   refine H.v 2 (.bool false) fun a H => ?_
   refine nl (tn (rt (tr (ibr (tr (tr (ibr (tr ?_))))))))
   refine H.r1 (.bool false) Tryz.results38 ?_
   have hbad : (asc 0 1000000 (p.its.map (fun x => x.id)) && p.its.all itemP) = false := by rw [hrel, hd_9]; exact asc_bad (fun h1 h2 h3 => by simp only [itemP, Bool.and_eq_true, inR_iff] at h3; omega)
   exact ⟨by rw [its_split, hbad]; simp, HP.bl⟩
  have g48p := of_decide_eq_false g48
  refine H.v 49 (pt b_11 2) fun a H => H.u 50 (ii x_4.frames) (ex_l1 (HP.cell 0 rfl 2 rfl)) fun a H => H.v 51 (.bool (decide (x_4.frames > 100000000))) fun a H => H.v 52 (.bool (decide (x_4.frames > 100000000))) fun a H => H.v 53 (.bool (decide (x_4.frames > 100000000))) fun a H => ?_
  refine H.split 53 rfl (fun g53 H => ?_) (fun g53 H => ?_)
  ·have g53p := of_decide_eq_true g53
   iterate 3 ((iterate 3 refine H.sx rfl fun a H => ?_); (iterate 2 refine H.vx rfl (.bool true) fun a H => ?_))
   iterate 3 refine H.sx rfl fun a H => ?_
   refine H.vx rfl (.bool true) fun a H => ?_
   refine nl (tn ?_)
   refine w_ift H rfl ?_
   refine sq (rg ?_)
   refine H.v 2 (.bool false) fun a H => ?_
   refine nl (tn (rt (tr (ibr (tr (tr (ibr (tr ?_))))))))
   refine H.r1 (.bool false) Tryz.results38 ?_
   have hbad : (asc 0 1000000 (p.its.map (fun x => x.id)) && p.its.all itemP) = false := by rw [hrel, hd_9]; exact asc_bad (fun h1 h2 h3 => by simp only [itemP, Bool.and_eq_true, inR_iff] at h3; omega)
   exact ⟨by rw [its_split, hbad]; simp, HP.bl⟩
  have g53p := of_decide_eq_false g53
  refine H.v 54 (pt b_11 3) fun a H => H.u 55 (ii x_4.sponsor) (ex_l1 (HP.cell 0 rfl 3 rfl)) fun a H => H.v 56 (.bool (decide (x_4.sponsor < 0))) fun a H => H.v 57 (.bool (decide (x_4.sponsor < 0))) fun a H => H.v 58 (.bool (decide (x_4.sponsor < 0))) fun a H => ?_
  refine H.split 58 rfl (fun g58 H => ?_) (fun g58 H => ?_)
  ·have g58p := of_decide_eq_true g58
   iterate 2 ((iterate 3 refine H.sx rfl fun a H => ?_); (iterate 2 refine H.vx rfl (.bool true) fun a H => ?_))
   iterate 3 refine H.sx rfl fun a H => ?_
   refine H.vx rfl (.bool true) fun a H => ?_
   refine nl (tn ?_)
   refine w_ift H rfl ?_
   refine sq (rg ?_)
   refine H.v 2 (.bool false) fun a H => ?_
   refine nl (tn (rt (tr (ibr (tr (tr (ibr (tr ?_))))))))
   refine H.r1 (.bool false) Tryz.results38 ?_
   have hbad : (asc 0 1000000 (p.its.map (fun x => x.id)) && p.its.all itemP) = false := by rw [hrel, hd_9]; exact asc_bad (fun h1 h2 h3 => by simp only [itemP, Bool.and_eq_true, inR_iff] at h3; omega)
   exact ⟨by rw [its_split, hbad]; simp, HP.bl⟩
  have g58p := of_decide_eq_false g58
  refine H.v 59 (pt b_11 3) fun a H => H.u 60 (ii x_4.sponsor) (ex_l1 (HP.cell 0 rfl 3 rfl)) fun a H => H.v 61 (.bool (decide (x_4.sponsor > 200))) fun a H => H.v 62 (.bool (decide (x_4.sponsor > 200))) fun a H => H.v 63 (.bool (decide (x_4.sponsor > 200))) fun a H => ?_
  refine H.split 63 rfl (fun g63 H => ?_) (fun g63 H => ?_)
  ·have g63p := of_decide_eq_true g63
   iterate 3 refine H.sx rfl fun a H => ?_
   iterate 2 refine H.vx rfl (.bool true) fun a H => ?_
   iterate 3 refine H.sx rfl fun a H => ?_
   refine H.vx rfl (.bool true) fun a H => ?_
   refine nl (tn ?_)
   refine w_ift H rfl ?_
   refine sq (rg ?_)
   refine H.v 2 (.bool false) fun a H => ?_
   refine nl (tn (rt (tr (ibr (tr (tr (ibr (tr ?_))))))))
   refine H.r1 (.bool false) Tryz.results38 ?_
   have hbad : (asc 0 1000000 (p.its.map (fun x => x.id)) && p.its.all itemP) = false := by rw [hrel, hd_9]; exact asc_bad (fun h1 h2 h3 => by simp only [itemP, Bool.and_eq_true, inR_iff] at h3; omega)
   exact ⟨by rw [its_split, hbad]; simp, HP.bl⟩
  have g63p := of_decide_eq_false g63
  refine H.v 64 (pt b_11 4) fun a H => H.u 65 (ii x_4.rating) (ex_l1 (HP.cell 0 rfl 4 rfl)) fun a H => H.v 66 (.bool (decide (x_4.rating < 0))) fun a H => H.v 67 (.bool (decide (x_4.rating < 0))) fun a H => H.v 68 (.bool (decide (x_4.rating < 0))) fun a H => ?_
  refine H.split 68 rfl (fun g68 H => ?_) (fun g68 H => ?_)
  ·have g68p := of_decide_eq_true g68
   iterate 3 refine H.sx rfl fun a H => ?_
   refine H.vx rfl (.bool true) fun a H => ?_
   refine nl (tn ?_)
   refine w_ift H rfl ?_
   refine sq (rg ?_)
   refine H.v 2 (.bool false) fun a H => ?_
   refine nl (tn (rt (tr (ibr (tr (tr (ibr (tr ?_))))))))
   refine H.r1 (.bool false) Tryz.results38 ?_
   have hbad : (asc 0 1000000 (p.its.map (fun x => x.id)) && p.its.all itemP) = false := by rw [hrel, hd_9]; exact asc_bad (fun h1 h2 h3 => by simp only [itemP, Bool.and_eq_true, inR_iff] at h3; omega)
   exact ⟨by rw [its_split, hbad]; simp, HP.bl⟩
  have g68p := of_decide_eq_false g68
  refine H.v 69 (pt b_11 4) fun a H => H.u 70 (ii x_4.rating) (ex_l1 (HP.cell 0 rfl 4 rfl)) fun a H => H.v 71 (.bool (decide (x_4.rating > 3))) fun a H => H.v 72 (.bool (decide (x_4.rating > 3))) fun a H => ?_
  refine nl (tn ?_)
  refine w_if H rfl (fun g72 => ?_) (fun g72 => ?_)
  ·have g72p := of_decide_eq_true g72
   refine sq (rg ?_)
   refine H.v 2 (.bool false) fun a H => ?_
   refine nl (tn (rt (tr (ibr (tr (tr (ibr (tr ?_))))))))
   refine H.r1 (.bool false) Tryz.results38 ?_
   have hbad : (asc 0 1000000 (p.its.map (fun x => x.id)) && p.its.all itemP) = false := by rw [hrel, hd_9]; exact asc_bad (fun h1 h2 h3 => by simp only [itemP, Bool.and_eq_true, inR_iff] at h3; omega)
   exact ⟨by rw [its_split, hbad]; simp, HP.bl⟩
  have g72p := of_decide_eq_false g72
  refine sk (tn (rg ?_))
  refine H.v 73 (pt b_11 0) fun a H => H.u 74 (ii x_4.id) (ex_l1 (HP.cell 0 rfl 0 rfl)) fun a H => H.v 3 (ii x_4.id) fun a H => ?_
  refine nl (ibn (tn (rg ?_)))
  refine H.v 17 (ii i) fun a H => H.valE 18 (ii (IntKind.i64.wrap ((i : Int) + 1))) (ii ((i : Int) + 1)) (by kernel_rfl) (by kernel_rfl) ((by rw [wrap_ini64 _ (by omega)])) fun a H => H.v 4 (ii ((i : Int) + 1)) fun a H => ?_
  refine nl (tn ?_)
  have H := H.as 4 (ii ((i + 1 : Nat) : Int)) rfl rfl
  refine ⟨_, ?_, i + 1, x_4.id, rfl, H.keep (by kernel_rfl), (HP.tail rfl), (by omega), (by rw [hrel, hd_9]; exact asc_step (by omega) (by simp only [itemP, Bool.and_eq_true, inR_iff]; omega))⟩
  omega
 have g16p := of_decide_eq_false g16
 refine wp_exit (then_exit (then_exit ?_))
 refine w_exit_here ?_
 refine tn (sq (rg ?_))
 refine H.u 76 (plV p) (ex_lN (plL p) (HP.cells 0 rfl 0 13 (by kernel_rfl))) fun a H => H.v 77 (pt b_1 8) fun a H => H.u 78 (ii p.fill) (ex_l1 (HP.cell 0 rfl 8 rfl)) fun a H => H.cb HP 79 (Tryz.call19 _ _) (ritem_any p p.fill w_3 (hpl.below HP.bl)) fun w_14 hb a H HP => H.v 75 (.tuple #[(itV (gI p.its p.fill)), (.bool (hI p.its p.fill))]) fun a H => H.v 80 (itV (gI p.its p.fill)) fun a H => H.v 81 (.bool (hI p.its p.fill)) fun a H => H.al HP 6 38 [(ii 0), (ii 0), (ii 0), (ii 0), (ii 0)] fun b_15 w_16 a H HP => H.st HP 0 b_15 0 5 38 true (itV (gI p.its p.fill)) [bx b_15 38 (itL (gI p.its p.fill)) true, bx b_1 32 (plL p) true] rfl fun w_17 a H HP => H.v 7 (.bool (hI p.its p.fill)) fun a H => ?_
 refine nl (tn (sq (rg ?_)))
 refine H.v 82 (.bool (hI p.its p.fill)) fun a H => H.v 83 (.bool (hI p.its p.fill)) fun a H => ?_
 refine H.split 83 rfl (fun g83 H => ?_) (fun g83 H => ?_)
 ·have g83p := g83
  refine H.v 84 (pt b_15 1) fun a H => H.u 85 (ii ((gI p.its p.fill).kind)) (ex_l1 (HP.cell 0 rfl 1 rfl)) fun a H => H.v 86 (.bool (((gI p.its p.fill).kind) == 5)) fun a H => H.v 87 (.bool (((gI p.its p.fill).kind) == 5)) fun a H => H.v 2 (.bool (((gI p.its p.fill).kind) == 5)) fun a H => ?_
  refine nl (tn (rt ?_))
  refine H.r1 (.bool (((gI p.its p.fill).kind) == 5)) Tryz.results38 ?_
  have hgood : (asc 0 1000000 (p.its.map (fun x => x.id)) && p.its.all itemP) = true := by rw [hrel, List.drop_eq_nil_of_le (by omega)]; rfl
  exact ⟨by rw [its_split, hgood, its_kind]; simp only [g83, show (p.its.length : Int) ≤ 4000 by omega, decide_true, Bool.true_and, Bool.and_true, Bool.false_and], HP.bl⟩
 have g83p := g83
 iterate 3 refine H.sx rfl fun a H => ?_
 refine H.v 87 (.bool false) fun a H => H.v 2 (.bool false) fun a H => ?_
 refine nl (tn (rt ?_))
 refine H.r1 (.bool false) Tryz.results38 ?_
 have hgood : (asc 0 1000000 (p.its.map (fun x => x.id)) && p.its.all itemP) = true := by rw [hrel, List.drop_eq_nil_of_le (by omega)]; rfl
 exact ⟨by rw [its_split, hgood, its_kind]; simp only [g83, show (p.its.length : Int) ≤ 4000 by omega, decide_true, Bool.true_and, Bool.and_true, Bool.false_and], HP.bl⟩
theorem rbookings_any (p : Pln) (w : World) (hpl : IsPln w p) : Calls Tryz.prog 39 #[(plV p)] w fun e w' => e = .returned (.bool (bksP p.its p.regions p.bs)) ∧ Below w.heap.size w w' := by
 have hl := hpl.lbs
 unfold maxLen at hl
 have HP := Hp.start w
 refine w_enter 97 [(0, (plV p))] Tryz.func39 rfl Tryz.ntmps39 (by kernel_rfl) (by kernel_rfl) fun a H => ?_
 refine sq (rg ?_)
 refine H.al HP 1 32 (plL p) fun b_1 w_2 a H HP => H.v 2 (.bool false) fun a H => ?_
 refine nl (tn (sq (sq (rg ?_))))
 refine H.v 8 (pt b_1 11) fun a H => H.u 9 (.slice p.BA p.bs.length p.bc) (ex_l1 (HP.cell 0 rfl 11 rfl)) fun a H => H.v 10 (ii p.bs.length) fun a H => H.v 11 (.bool (decide ((p.bs.length : Int) > 2000))) fun a H => ?_
 refine nl (tn ?_)
 refine w_if H rfl (fun g11 => ?_) (fun g11 => ?_)
 ·have g11p := of_decide_eq_true g11
  refine sq (rg ?_)
  refine H.v 2 (.bool false) fun a H => ?_
  refine nl (tn (rt (tr ?_)))
  refine H.r1 (.bool false) Tryz.results39 ?_
  exact ⟨by rw [show bksP p.its p.regions p.bs = false from by simp [bksP, show ¬ (p.bs.length : Int) ≤ 2000 by omega]], HP.bl⟩
 have g11p := of_decide_eq_false g11
 refine sk (tn (sq (rg ?_)))
 refine H.v 3 (ii 0) fun a H => ?_
 refine nl (tn (sq (sq (rg ?_))))
 refine H.v 4 (ii 0) fun a H => ?_
 refine nl (tn (bk ?_))
 refine w_loop (fun mm a wv => ∃ (i : Nat), ∃ (last : Int), p.bs.length - i = mm ∧ Sl 97 [(4, (ii i)), (3, (ii last)), (11, (.bool (decide ((p.bs.length : Int) > 2000)))), (10, (ii p.bs.length)), (9, (.slice p.BA p.bs.length p.bc)), (8, (pt b_1 11)), (1, (pt b_1 0)), (0, (plV p))] a ∧ Hp w wv [bx b_1 32 (plL p) true] [] ∧ (i ≤ p.bs.length) ∧ ((asc 0 1000000 (p.bs.map (fun x => x.id)) && p.bs.all (bookP p.its p.regions)) = (asc last 1000000 ((p.bs.drop i).map (fun x => x.id)) && (p.bs.drop i).all (bookP p.its p.regions)))) (p.bs.length - 0) ?_ ?_
 ·exact ⟨0, 0, (by omega), H.keep (by kernel_rfl), HP, (Nat.zero_le _), rfl⟩
 rintro mm a w_3 ⟨i, last, hmeas, H, HP, hib, hrel⟩
 refine sq (sq (rg ?_))
 refine H.v 12 (ii i) fun a H => H.v 13 (pt b_1 11) fun a H => H.u 14 (.slice p.BA p.bs.length p.bc) (ex_l1 (HP.cell 0 rfl 11 rfl)) fun a H => H.v 15 (ii p.bs.length) fun a H => H.v 16 (.bool (decide ((i : Int) < (p.bs.length : Int)))) fun a H => ?_
 refine nl (tn ?_)
 refine w_if H rfl (fun g16 => ?_) (fun g16 => ?_)
 ·have g16p := of_decide_eq_true g16
  refine sk (tn (sq (bk (sq ?_))))
  obtain ⟨bu_5, ou_6, x_4, hA_7, _, hd_9, hx_8, hm_10, _⟩ := IsRow.get bkC_size (hpl.bs.below HP.bl) (i := i) (by omega)
  refine rg ?_
  refine H.v 19 (pt b_1 11) fun a H => H.u 20 (.slice p.BA p.bs.length p.bc) (ex_l1 (HP.cell 0 rfl 11 rfl)) fun a H => H.v 21 (ii i) fun a H => H.u 22 (.pointer (some ⟨bu_5, ou_6 + i * 7, none⟩)) (ex_indexA (b := bu_5) (off := ou_6) (len := p.bs.length) (cap := p.bc) (e := 47) (k := 7) (ik := .i64) (i := (i : Int)) (m := i) hA_7 (by kernel_rfl) (by kernel_rfl) (by omega) (by omega) (by kernel_rfl) (by kernel_rfl)) fun a H => H.u 23 (bkV x_4) (ex_lN (bkL x_4) (IsRow.cells bkC_size (hpl.bs.below HP.bl) hA_7 hx_8)) fun a H => H.al HP 5 47 [(ii 0), (ii 0), (ii 0), (ii 0), (ii 0), (ii 0), (ii 0)] fun b_11 w_12 a H HP => H.st HP 0 b_11 0 7 47 true (bkV x_4) [bx b_11 47 (bkL x_4) true, bx b_1 32 (plL p) true] rfl fun w_13 a H HP => ?_
  refine nl (tn (sq (rg ?_)))
  refine H.u 25 (plV p) (ex_lN (plL p) (HP.cells 1 rfl 0 13 (by kernel_rfl))) fun a H => H.v 26 (pt b_11 1) fun a H => H.u 27 (ii x_4.item) (ex_l1 (HP.cell 0 rfl 1 rfl)) fun a H => H.cb HP 28 (Tryz.call19 _ _) (ritem_any p x_4.item w_13 (hpl.below HP.bl)) fun w_14 hb a H HP => H.v 24 (.tuple #[(itV (gI p.its x_4.item)), (.bool (hI p.its x_4.item))]) fun a H => H.v 29 (itV (gI p.its x_4.item)) fun a H => H.v 30 (.bool (hI p.its x_4.item)) fun a H => H.al HP 6 38 [(ii 0), (ii 0), (ii 0), (ii 0), (ii 0)] fun b_15 w_16 a H HP => H.st HP 0 b_15 0 5 38 true (itV (gI p.its x_4.item)) [bx b_15 38 (itL (gI p.its x_4.item)) true, bx b_11 47 (bkL x_4) true, bx b_1 32 (plL p) true] rfl fun w_17 a H HP => H.v 7 (.bool (hI p.its x_4.item)) fun a H => ?_
  refine nl (tn (sq (sq (rg ?_))))
  refine H.v 31 (pt b_11 0) fun a H => H.u 32 (ii x_4.id) (ex_l1 (HP.cell 1 rfl 0 rfl)) fun a H => H.v 33 (ii last) fun a H => H.v 34 (.bool (decide (x_4.id ≤ last))) fun a H => H.v 35 (.bool (decide (x_4.id ≤ last))) fun a H => ?_
  refine H.split 35 rfl (fun g35 H => ?_) (fun g35 H => ?_)
  ·have g35p := of_decide_eq_true g35
   iterate 3 refine H.sx rfl fun a H => ?_
   iterate 2 refine H.vx rfl (.bool true) fun a H => ?_
   iterate 2 refine H.sx rfl fun a H => ?_
   iterate 2 ((iterate 2 refine H.vx rfl (.bool true) fun a H => ?_); (iterate 3 refine H.sx rfl fun a H => ?_))
   iterate 2 refine H.vx rfl (.bool true) fun a H => ?_
   iterate 5 refine H.sx rfl fun a H => ?_
   iterate 2 refine H.vx rfl (.bool true) fun a H => ?_
   iterate 3 refine H.sx rfl fun a H => ?_
   iterate 2 ((iterate 2 refine H.vx rfl (.bool true) fun a H => ?_); (iterate 5 refine H.sx rfl fun a H => ?_))
   iterate 3 ((iterate 2 refine H.vx rfl (.bool true) fun a H => ?_); (iterate 3 refine H.sx rfl fun a H => ?_))
   refine H.vx rfl (.bool true) fun a H => ?_
   refine nl (tn ?_)
   refine w_ift H rfl ?_
   refine sq (rg ?_)
   refine H.v 2 (.bool false) fun a H => ?_
   refine nl (tn (rt (tr (ibr (tr (tr (ibr (tr ?_))))))))
   refine H.r1 (.bool false) Tryz.results39 ?_
   have hbad : (asc 0 1000000 (p.bs.map (fun x => x.id)) && p.bs.all (bookP p.its p.regions)) = false := by rw [hrel, hd_9]; exact asc_badB (fun h1 h2 h3 => by simp only [bookP, Bool.and_eq_true, inR_iff, beq_iff_eq, decide_eq_true_eq] at h3; first | omega | (have hk := gI_known h3.1.1.1 (by decide); simp_all))
   exact ⟨by rw [bks_split, hbad]; simp, HP.bl⟩
  have g35p := of_decide_eq_false g35
  refine H.v 36 (pt b_11 0) fun a H => H.u 37 (ii x_4.id) (ex_l1 (HP.cell 1 rfl 0 rfl)) fun a H => H.v 38 (.bool (decide (x_4.id > 1000000))) fun a H => H.v 39 (.bool (decide (x_4.id > 1000000))) fun a H => H.v 40 (.bool (decide (x_4.id > 1000000))) fun a H => ?_
  refine H.split 40 rfl (fun g40 H => ?_) (fun g40 H => ?_)
  ·have g40p := of_decide_eq_true g40
   iterate 2 refine H.sx rfl fun a H => ?_
   iterate 2 ((iterate 2 refine H.vx rfl (.bool true) fun a H => ?_); (iterate 3 refine H.sx rfl fun a H => ?_))
   iterate 2 refine H.vx rfl (.bool true) fun a H => ?_
   iterate 5 refine H.sx rfl fun a H => ?_
   iterate 2 refine H.vx rfl (.bool true) fun a H => ?_
   iterate 3 refine H.sx rfl fun a H => ?_
   iterate 2 ((iterate 2 refine H.vx rfl (.bool true) fun a H => ?_); (iterate 5 refine H.sx rfl fun a H => ?_))
   iterate 3 ((iterate 2 refine H.vx rfl (.bool true) fun a H => ?_); (iterate 3 refine H.sx rfl fun a H => ?_))
   refine H.vx rfl (.bool true) fun a H => ?_
   refine nl (tn ?_)
   refine w_ift H rfl ?_
   refine sq (rg ?_)
   refine H.v 2 (.bool false) fun a H => ?_
   refine nl (tn (rt (tr (ibr (tr (tr (ibr (tr ?_))))))))
   refine H.r1 (.bool false) Tryz.results39 ?_
   have hbad : (asc 0 1000000 (p.bs.map (fun x => x.id)) && p.bs.all (bookP p.its p.regions)) = false := by rw [hrel, hd_9]; exact asc_badB (fun h1 h2 h3 => by simp only [bookP, Bool.and_eq_true, inR_iff, beq_iff_eq, decide_eq_true_eq] at h3; first | omega | (have hk := gI_known h3.1.1.1 (by decide); simp_all))
   exact ⟨by rw [bks_split, hbad]; simp, HP.bl⟩
  have g40p := of_decide_eq_false g40
  refine H.v 41 (.bool (hI p.its x_4.item)) fun a H => H.v 42 (.bool (!(hI p.its x_4.item))) fun a H => H.v 43 (.bool (!(hI p.its x_4.item))) fun a H => H.v 44 (.bool (!(hI p.its x_4.item))) fun a H => ?_
  refine H.split 44 rfl (fun g44 H => ?_) (fun g44 H => ?_)
  ·have g44p := not_is_true g44
   iterate 2 ((iterate 3 refine H.sx rfl fun a H => ?_); (iterate 2 refine H.vx rfl (.bool true) fun a H => ?_))
   iterate 5 refine H.sx rfl fun a H => ?_
   iterate 2 refine H.vx rfl (.bool true) fun a H => ?_
   iterate 3 refine H.sx rfl fun a H => ?_
   iterate 2 ((iterate 2 refine H.vx rfl (.bool true) fun a H => ?_); (iterate 5 refine H.sx rfl fun a H => ?_))
   iterate 3 ((iterate 2 refine H.vx rfl (.bool true) fun a H => ?_); (iterate 3 refine H.sx rfl fun a H => ?_))
   refine H.vx rfl (.bool true) fun a H => ?_
   refine nl (tn ?_)
   refine w_ift H rfl ?_
   refine sq (rg ?_)
   refine H.v 2 (.bool false) fun a H => ?_
   refine nl (tn (rt (tr (ibr (tr (tr (ibr (tr ?_))))))))
   refine H.r1 (.bool false) Tryz.results39 ?_
   have hbad : (asc 0 1000000 (p.bs.map (fun x => x.id)) && p.bs.all (bookP p.its p.regions)) = false := by rw [hrel, hd_9]; exact asc_badB (fun h1 h2 h3 => by simp only [bookP, Bool.and_eq_true, inR_iff, beq_iff_eq, decide_eq_true_eq] at h3; first | omega | (have hk := gI_known h3.1.1.1 (by decide); simp_all))
   exact ⟨by rw [bks_split, hbad]; simp, HP.bl⟩
  have g44p := not_is_false g44
  refine H.v 45 (pt b_15 1) fun a H => H.u 46 (ii ((gI p.its x_4.item).kind)) (ex_l1 (HP.cell 0 rfl 1 rfl)) fun a H => H.v 47 (.bool (((gI p.its x_4.item).kind) != 2)) fun a H => H.v 48 (.bool (((gI p.its x_4.item).kind) != 2)) fun a H => H.v 49 (.bool (((gI p.its x_4.item).kind) != 2)) fun a H => ?_
  refine H.split 49 rfl (fun g49 H => ?_) (fun g49 H => ?_)
  ·have g49p := bne_iff_ne.1 g49
   iterate 3 refine H.sx rfl fun a H => ?_
   iterate 2 refine H.vx rfl (.bool true) fun a H => ?_
   iterate 5 refine H.sx rfl fun a H => ?_
   iterate 2 refine H.vx rfl (.bool true) fun a H => ?_
   iterate 3 refine H.sx rfl fun a H => ?_
   iterate 2 ((iterate 2 refine H.vx rfl (.bool true) fun a H => ?_); (iterate 5 refine H.sx rfl fun a H => ?_))
   iterate 3 ((iterate 2 refine H.vx rfl (.bool true) fun a H => ?_); (iterate 3 refine H.sx rfl fun a H => ?_))
   refine H.vx rfl (.bool true) fun a H => ?_
   refine nl (tn ?_)
   refine w_ift H rfl ?_
   refine sq (rg ?_)
   refine H.v 2 (.bool false) fun a H => ?_
   refine nl (tn (rt (tr (ibr (tr (tr (ibr (tr ?_))))))))
   refine H.r1 (.bool false) Tryz.results39 ?_
   have hbad : (asc 0 1000000 (p.bs.map (fun x => x.id)) && p.bs.all (bookP p.its p.regions)) = false := by rw [hrel, hd_9]; exact asc_badB (fun h1 h2 h3 => by simp only [bookP, Bool.and_eq_true, inR_iff, beq_iff_eq, decide_eq_true_eq] at h3; first | omega | (have hk := gI_known h3.1.1.1 (by decide); simp_all))
   exact ⟨by rw [bks_split, hbad]; simp, HP.bl⟩
  have g49p := eq_of_bne_false g49
  refine H.v 50 (pt b_11 2) fun a H => H.u 51 (ii x_4.region) (ex_l1 (HP.cell 1 rfl 2 rfl)) fun a H => H.v 52 (.bool (decide (x_4.region < 0))) fun a H => H.v 53 (.bool (decide (x_4.region < 0))) fun a H => H.v 54 (.bool (decide (x_4.region < 0))) fun a H => ?_
  refine H.split 54 rfl (fun g54 H => ?_) (fun g54 H => ?_)
  ·have g54p := of_decide_eq_true g54
   iterate 5 refine H.sx rfl fun a H => ?_
   iterate 2 refine H.vx rfl (.bool true) fun a H => ?_
   iterate 3 refine H.sx rfl fun a H => ?_
   iterate 2 ((iterate 2 refine H.vx rfl (.bool true) fun a H => ?_); (iterate 5 refine H.sx rfl fun a H => ?_))
   iterate 3 ((iterate 2 refine H.vx rfl (.bool true) fun a H => ?_); (iterate 3 refine H.sx rfl fun a H => ?_))
   refine H.vx rfl (.bool true) fun a H => ?_
   refine nl (tn ?_)
   refine w_ift H rfl ?_
   refine sq (rg ?_)
   refine H.v 2 (.bool false) fun a H => ?_
   refine nl (tn (rt (tr (ibr (tr (tr (ibr (tr ?_))))))))
   refine H.r1 (.bool false) Tryz.results39 ?_
   have hbad : (asc 0 1000000 (p.bs.map (fun x => x.id)) && p.bs.all (bookP p.its p.regions)) = false := by rw [hrel, hd_9]; exact asc_badB (fun h1 h2 h3 => by simp only [bookP, Bool.and_eq_true, inR_iff, beq_iff_eq, decide_eq_true_eq] at h3; first | omega | (have hk := gI_known h3.1.1.1 (by decide); simp_all))
   exact ⟨by rw [bks_split, hbad]; simp, HP.bl⟩
  have g54p := of_decide_eq_false g54
  refine H.v 55 (pt b_11 2) fun a H => H.u 56 (ii x_4.region) (ex_l1 (HP.cell 1 rfl 2 rfl)) fun a H => H.v 57 (pt b_1 6) fun a H => H.u 58 (ii p.regions) (ex_l1 (HP.cell 2 rfl 6 rfl)) fun a H => H.v 59 (.bool (decide (x_4.region ≥ p.regions))) fun a H => H.v 60 (.bool (decide (x_4.region ≥ p.regions))) fun a H => H.v 61 (.bool (decide (x_4.region ≥ p.regions))) fun a H => ?_
  refine H.split 61 rfl (fun g61 H => ?_) (fun g61 H => ?_)
  ·have g61p := of_decide_eq_true g61
   iterate 3 refine H.sx rfl fun a H => ?_
   iterate 2 ((iterate 2 refine H.vx rfl (.bool true) fun a H => ?_); (iterate 5 refine H.sx rfl fun a H => ?_))
   iterate 3 ((iterate 2 refine H.vx rfl (.bool true) fun a H => ?_); (iterate 3 refine H.sx rfl fun a H => ?_))
   refine H.vx rfl (.bool true) fun a H => ?_
   refine nl (tn ?_)
   refine w_ift H rfl ?_
   refine sq (rg ?_)
   refine H.v 2 (.bool false) fun a H => ?_
   refine nl (tn (rt (tr (ibr (tr (tr (ibr (tr ?_))))))))
   refine H.r1 (.bool false) Tryz.results39 ?_
   have hbad : (asc 0 1000000 (p.bs.map (fun x => x.id)) && p.bs.all (bookP p.its p.regions)) = false := by rw [hrel, hd_9]; exact asc_badB (fun h1 h2 h3 => by simp only [bookP, Bool.and_eq_true, inR_iff, beq_iff_eq, decide_eq_true_eq] at h3; first | omega | (have hk := gI_known h3.1.1.1 (by decide); simp_all))
   exact ⟨by rw [bks_split, hbad]; simp, HP.bl⟩
  have g61p := of_decide_eq_false g61
  refine H.v 62 (pt b_11 3) fun a H => H.u 63 (ii x_4.from_) (ex_l1 (HP.cell 1 rfl 3 rfl)) fun a H => H.v 64 (.bool (decide (x_4.from_ < 0))) fun a H => H.v 65 (.bool (decide (x_4.from_ < 0))) fun a H => H.v 66 (.bool (decide (x_4.from_ < 0))) fun a H => ?_
  refine H.split 66 rfl (fun g66 H => ?_) (fun g66 H => ?_)
  ·have g66p := of_decide_eq_true g66
   iterate 2 ((iterate 5 refine H.sx rfl fun a H => ?_); (iterate 2 refine H.vx rfl (.bool true) fun a H => ?_))
   iterate 2 ((iterate 3 refine H.sx rfl fun a H => ?_); (iterate 2 refine H.vx rfl (.bool true) fun a H => ?_))
   iterate 3 refine H.sx rfl fun a H => ?_
   refine H.vx rfl (.bool true) fun a H => ?_
   refine nl (tn ?_)
   refine w_ift H rfl ?_
   refine sq (rg ?_)
   refine H.v 2 (.bool false) fun a H => ?_
   refine nl (tn (rt (tr (ibr (tr (tr (ibr (tr ?_))))))))
   refine H.r1 (.bool false) Tryz.results39 ?_
   have hbad : (asc 0 1000000 (p.bs.map (fun x => x.id)) && p.bs.all (bookP p.its p.regions)) = false := by rw [hrel, hd_9]; exact asc_badB (fun h1 h2 h3 => by simp only [bookP, Bool.and_eq_true, inR_iff, beq_iff_eq, decide_eq_true_eq] at h3; first | omega | (have hk := gI_known h3.1.1.1 (by decide); simp_all))
   exact ⟨by rw [bks_split, hbad]; simp, HP.bl⟩
  have g66p := of_decide_eq_false g66
  refine H.v 67 (pt b_11 3) fun a H => H.u 68 (ii x_4.from_) (ex_l1 (HP.cell 1 rfl 3 rfl)) fun a H => H.v 69 (pt b_11 4) fun a H => H.u 70 (ii x_4.to_) (ex_l1 (HP.cell 1 rfl 4 rfl)) fun a H => H.v 71 (.bool (decide (x_4.from_ ≥ x_4.to_))) fun a H => H.v 72 (.bool (decide (x_4.from_ ≥ x_4.to_))) fun a H => H.v 73 (.bool (decide (x_4.from_ ≥ x_4.to_))) fun a H => ?_
  refine H.split 73 rfl (fun g73 H => ?_) (fun g73 H => ?_)
  ·have g73p := of_decide_eq_true g73
   iterate 5 refine H.sx rfl fun a H => ?_
   iterate 3 ((iterate 2 refine H.vx rfl (.bool true) fun a H => ?_); (iterate 3 refine H.sx rfl fun a H => ?_))
   refine H.vx rfl (.bool true) fun a H => ?_
   refine nl (tn ?_)
   refine w_ift H rfl ?_
   refine sq (rg ?_)
   refine H.v 2 (.bool false) fun a H => ?_
   refine nl (tn (rt (tr (ibr (tr (tr (ibr (tr ?_))))))))
   refine H.r1 (.bool false) Tryz.results39 ?_
   have hbad : (asc 0 1000000 (p.bs.map (fun x => x.id)) && p.bs.all (bookP p.its p.regions)) = false := by rw [hrel, hd_9]; exact asc_badB (fun h1 h2 h3 => by simp only [bookP, Bool.and_eq_true, inR_iff, beq_iff_eq, decide_eq_true_eq] at h3; first | omega | (have hk := gI_known h3.1.1.1 (by decide); simp_all))
   exact ⟨by rw [bks_split, hbad]; simp, HP.bl⟩
  have g73p := of_decide_eq_false g73
  refine H.v 74 (pt b_11 4) fun a H => H.u 75 (ii x_4.to_) (ex_l1 (HP.cell 1 rfl 4 rfl)) fun a H => H.v 76 (pt b_11 5) fun a H => H.u 77 (ii x_4.until_) (ex_l1 (HP.cell 1 rfl 5 rfl)) fun a H => H.v 78 (.bool (decide (x_4.to_ > x_4.until_))) fun a H => H.v 79 (.bool (decide (x_4.to_ > x_4.until_))) fun a H => H.v 80 (.bool (decide (x_4.to_ > x_4.until_))) fun a H => ?_
  refine H.split 80 rfl (fun g80 H => ?_) (fun g80 H => ?_)
  ·have g80p := of_decide_eq_true g80
   iterate 2 ((iterate 3 refine H.sx rfl fun a H => ?_); (iterate 2 refine H.vx rfl (.bool true) fun a H => ?_))
   iterate 3 refine H.sx rfl fun a H => ?_
   refine H.vx rfl (.bool true) fun a H => ?_
   refine nl (tn ?_)
   refine w_ift H rfl ?_
   refine sq (rg ?_)
   refine H.v 2 (.bool false) fun a H => ?_
   refine nl (tn (rt (tr (ibr (tr (tr (ibr (tr ?_))))))))
   refine H.r1 (.bool false) Tryz.results39 ?_
   have hbad : (asc 0 1000000 (p.bs.map (fun x => x.id)) && p.bs.all (bookP p.its p.regions)) = false := by rw [hrel, hd_9]; exact asc_badB (fun h1 h2 h3 => by simp only [bookP, Bool.and_eq_true, inR_iff, beq_iff_eq, decide_eq_true_eq] at h3; first | omega | (have hk := gI_known h3.1.1.1 (by decide); simp_all))
   exact ⟨by rw [bks_split, hbad]; simp, HP.bl⟩
  have g80p := of_decide_eq_false g80
  refine H.v 81 (pt b_11 5) fun a H => H.u 82 (ii x_4.until_) (ex_l1 (HP.cell 1 rfl 5 rfl)) fun a H => H.v 83 (.bool (decide (x_4.until_ > 100000000))) fun a H => H.v 84 (.bool (decide (x_4.until_ > 100000000))) fun a H => H.v 85 (.bool (decide (x_4.until_ > 100000000))) fun a H => ?_
  refine H.split 85 rfl (fun g85 H => ?_) (fun g85 H => ?_)
  ·have g85p := of_decide_eq_true g85
   iterate 3 refine H.sx rfl fun a H => ?_
   iterate 2 refine H.vx rfl (.bool true) fun a H => ?_
   iterate 3 refine H.sx rfl fun a H => ?_
   refine H.vx rfl (.bool true) fun a H => ?_
   refine nl (tn ?_)
   refine w_ift H rfl ?_
   refine sq (rg ?_)
   refine H.v 2 (.bool false) fun a H => ?_
   refine nl (tn (rt (tr (ibr (tr (tr (ibr (tr ?_))))))))
   refine H.r1 (.bool false) Tryz.results39 ?_
   have hbad : (asc 0 1000000 (p.bs.map (fun x => x.id)) && p.bs.all (bookP p.its p.regions)) = false := by rw [hrel, hd_9]; exact asc_badB (fun h1 h2 h3 => by simp only [bookP, Bool.and_eq_true, inR_iff, beq_iff_eq, decide_eq_true_eq] at h3; first | omega | (have hk := gI_known h3.1.1.1 (by decide); simp_all))
   exact ⟨by rw [bks_split, hbad]; simp, HP.bl⟩
  have g85p := of_decide_eq_false g85
  refine H.v 86 (pt b_11 6) fun a H => H.u 87 (ii x_4.price) (ex_l1 (HP.cell 1 rfl 6 rfl)) fun a H => H.v 88 (.bool (decide (x_4.price < 0))) fun a H => H.v 89 (.bool (decide (x_4.price < 0))) fun a H => H.v 90 (.bool (decide (x_4.price < 0))) fun a H => ?_
  refine H.split 90 rfl (fun g90 H => ?_) (fun g90 H => ?_)
  ·have g90p := of_decide_eq_true g90
   iterate 3 refine H.sx rfl fun a H => ?_
   refine H.vx rfl (.bool true) fun a H => ?_
   refine nl (tn ?_)
   refine w_ift H rfl ?_
   refine sq (rg ?_)
   refine H.v 2 (.bool false) fun a H => ?_
   refine nl (tn (rt (tr (ibr (tr (tr (ibr (tr ?_))))))))
   refine H.r1 (.bool false) Tryz.results39 ?_
   have hbad : (asc 0 1000000 (p.bs.map (fun x => x.id)) && p.bs.all (bookP p.its p.regions)) = false := by rw [hrel, hd_9]; exact asc_badB (fun h1 h2 h3 => by simp only [bookP, Bool.and_eq_true, inR_iff, beq_iff_eq, decide_eq_true_eq] at h3; first | omega | (have hk := gI_known h3.1.1.1 (by decide); simp_all))
   exact ⟨by rw [bks_split, hbad]; simp, HP.bl⟩
  have g90p := of_decide_eq_false g90
  refine H.v 91 (pt b_11 6) fun a H => H.u 92 (ii x_4.price) (ex_l1 (HP.cell 1 rfl 6 rfl)) fun a H => H.v 93 (.bool (decide (x_4.price > 1000000000))) fun a H => H.v 94 (.bool (decide (x_4.price > 1000000000))) fun a H => ?_
  refine nl (tn ?_)
  refine w_if H rfl (fun g94 => ?_) (fun g94 => ?_)
  ·have g94p := of_decide_eq_true g94
   refine sq (rg ?_)
   refine H.v 2 (.bool false) fun a H => ?_
   refine nl (tn (rt (tr (ibr (tr (tr (ibr (tr ?_))))))))
   refine H.r1 (.bool false) Tryz.results39 ?_
   have hbad : (asc 0 1000000 (p.bs.map (fun x => x.id)) && p.bs.all (bookP p.its p.regions)) = false := by rw [hrel, hd_9]; exact asc_badB (fun h1 h2 h3 => by simp only [bookP, Bool.and_eq_true, inR_iff, beq_iff_eq, decide_eq_true_eq] at h3; first | omega | (have hk := gI_known h3.1.1.1 (by decide); simp_all))
   exact ⟨by rw [bks_split, hbad]; simp, HP.bl⟩
  have g94p := of_decide_eq_false g94
  refine sk (tn (rg ?_))
  refine H.v 95 (pt b_11 0) fun a H => H.u 96 (ii x_4.id) (ex_l1 (HP.cell 1 rfl 0 rfl)) fun a H => H.v 3 (ii x_4.id) fun a H => ?_
  refine nl (ibn (tn (rg ?_)))
  refine H.v 17 (ii i) fun a H => H.valE 18 (ii (IntKind.i64.wrap ((i : Int) + 1))) (ii ((i : Int) + 1)) (by kernel_rfl) (by kernel_rfl) ((by rw [wrap_ini64 _ (by omega)])) fun a H => H.v 4 (ii ((i : Int) + 1)) fun a H => ?_
  refine nl (tn ?_)
  have H := H.as 4 (ii ((i + 1 : Nat) : Int)) rfl rfl
  refine ⟨_, ?_, i + 1, x_4.id, rfl, H.keep (by kernel_rfl), ((HP.tail rfl).tail rfl), (by omega), (by rw [hrel, hd_9]; exact asc_stepB (by omega) (by simp only [bookP, Bool.and_eq_true, inR_iff, beq_iff_eq, decide_eq_true_eq]; omega))⟩
  omega
 have g16p := of_decide_eq_false g16
 refine wp_exit (then_exit (then_exit ?_))
 refine w_exit_here ?_
 refine tn (sq (rg ?_))
 refine H.v 2 (.bool true) fun a H => ?_
 refine nl (tn (rt ?_))
 refine H.r1 (.bool true) Tryz.results39 ?_
 have hgood : (asc 0 1000000 (p.bs.map (fun x => x.id)) && p.bs.all (bookP p.its p.regions)) = true := by rw [hrel, List.drop_eq_nil_of_le (by omega)]; rfl
 exact ⟨by rw [bks_split, hgood]; simp [show (p.bs.length : Int) ≤ 2000 by omega], HP.bl⟩
theorem rful_any (x : Ent) (y : Bkg) (w : World) (hx : x.ok w) : Calls Tryz.prog 77 #[(enV x), (bkV y)] w fun e w' => e = .returned (.bool (rfulP x y)) ∧ Below w.heap.size w w' := by
 have hl := hx.2
 unfold maxLen at hl
 have HP := Hp.start w
 refine w_enter 41 [(0, (enV x)), (1, (bkV y))] Tryz.func77 rfl Tryz.ntmps77 (by kernel_rfl) (by kernel_rfl) fun a H => ?_
 refine sq (rg ?_)
 refine H.al HP 2 43 (enL x) fun b_1 w_2 a H HP => H.al HP 3 47 (bkL y) fun b_3 w_4 a H HP => H.v 4 (.bool false) fun a H => ?_
 refine nl (tn (sq (sq (rg ?_))))
 refine H.v 6 (pt b_3 2) fun a H => H.u 7 (ii y.region) (ex_l1 (HP.cell 0 rfl 2 rfl)) fun a H => H.v 8 (.bool (y.region == 0)) fun a H => ?_
 refine nl (tn ?_)
 refine w_if H rfl (fun g8 => ?_) (fun g8 => ?_)
 ·have g8p := eq_of_beq g8
  refine sq (rg ?_)
  refine H.v 9 (pt b_1 1) fun a H => H.u 10 (ii x.item) (ex_l1 (HP.cell 1 rfl 1 rfl)) fun a H => H.v 11 (pt b_3 1) fun a H => H.u 12 (ii y.item) (ex_l1 (HP.cell 0 rfl 1 rfl)) fun a H => H.v 13 (.bool (x.item == y.item)) fun a H => H.v 4 (.bool (x.item == y.item)) fun a H => ?_
  refine nl (tn (rt (tr ?_)))
  refine H.r1 (.bool (x.item == y.item)) Tryz.results77 ?_
  exact ⟨by rw [show rfulP x y = (x.item == y.item) from by unfold rfulP; rw [if_pos (by omega)]], HP.bl⟩
 have g8p := ne_of_beq_false g8
 refine sk (tn (sq (sq (rg ?_))))
 refine H.v 5 (ii 0) fun a H => ?_
 refine nl (tn (bk ?_))
 refine w_loop (fun mm a wv => ∃ (i : Nat), x.al.length - i = mm ∧ Sl 41 [(5, (ii i)), (8, (.bool (y.region == 0))), (7, (ii y.region)), (6, (pt b_3 2)), (3, (pt b_3 0)), (2, (pt b_1 0)), (0, (enV x)), (1, (bkV y))] a ∧ Hp w wv [bx b_3 47 (bkL y) true, bx b_1 43 (enL x) true] [] ∧ (i ≤ x.al.length) ∧ (x.al.any (fun a : Int × Int => a.1 == y.region && a.2 == y.item) = (x.al.drop i).any (fun a : Int × Int => a.1 == y.region && a.2 == y.item))) (x.al.length - 0) ?_ ?_
 ·exact ⟨0, (by omega), H.keep (by kernel_rfl), HP, (Nat.zero_le _), rfl⟩
 rintro mm a w_5 ⟨i, hmeas, H, HP, hib, hrel⟩
 refine sq (sq (rg ?_))
 refine H.v 14 (ii i) fun a H => H.v 15 (pt b_1 6) fun a H => H.u 16 (.slice x.A x.al.length x.c) (ex_l1 (HP.cell 1 rfl 6 rfl)) fun a H => H.v 17 (ii x.al.length) fun a H => H.v 18 (.bool (decide ((i : Int) < (x.al.length : Int)))) fun a H => ?_
 refine nl (tn ?_)
 refine w_if H rfl (fun g18 => ?_) (fun g18 => ?_)
 ·have g18p := of_decide_eq_true g18
  refine sk (tn (sq (bk (sq ?_))))
  obtain ⟨bu_7, ou_8, x_6, hA_9, _, hd_11, hx_10, hm_12, _⟩ := IsRow.get altC_size (hx.1.below HP.bl) (i := i) (by omega)
  refine An.start (fun v => Hp w v [bx b_3 47 (bkL y) true, bx b_1 43 (enL x) true] []) 20 20 HP wide_follows rfl fun w_13 HP => ?_
  refine An.p H (.inr HP) 0 21 (pt b_1 6) fun a H => ?_
  refine An.vw H (HP) 1 22 (.slice x.A x.al.length x.c) (fun _ hS => ex_l1 (hS.cell 1 rfl 6 rfl)) fun a H => ?_
  refine An.p H (.inr HP) 2 23 (ii i) fun a H => ?_
  refine An.q H (.inr (HP)) 3 24 (.pointer (some ⟨bu_7, ou_8 + i * 2, none⟩)) (fun _ => ex_indexA (b := bu_7) (off := ou_8) (len := x.al.length) (cap := x.c) (e := 62) (k := 2) (ik := .i64) (i := (i : Int)) (m := i) hA_9 (by kernel_rfl) (by kernel_rfl) (by omega) (by omega) (by kernel_rfl) (by kernel_rfl)) fun a H => ?_
  refine An.p H (.inr HP) 4 25 (.pointer (some ⟨bu_7, ou_8 + i * 2, none⟩)) fun a H => ?_
  refine An.vw H (HP) 5 26 (ii x_6.1) (fun _ hS => ex_l1 (IsRow.cells altC_size (hx.1.below (hS.below (by kernel_rfl))) hA_9 hx_10 0 _ rfl)) fun a H => ?_
  refine An.p H (.inr HP) 6 27 (pt b_3 2) fun a H => ?_
  refine An.vw H (HP) 7 28 (ii y.region) (fun _ hS => ex_l1 (hS.cell 0 rfl 2 rfl)) fun a H => ?_
  refine An.p H (.inr HP) 8 29 (.bool (x_6.1 == y.region)) fun a H => ?_
  refine An.p H (.inr HP) 9 30 (.bool (x_6.1 == y.region)) fun a H => ?_
  refine H.split 30 rfl (fun g30 H => ?_) (fun g30 H => ?_)
  ·have g30p := eq_of_beq g30
   refine An.p H (.inr HP) 10 31 (pt b_1 6) fun a H => ?_
   refine An.vw H (HP) 11 32 (.slice x.A x.al.length x.c) (fun _ hS => ex_l1 (hS.cell 1 rfl 6 rfl)) fun a H => ?_
   refine An.p H (.inr HP) 12 33 (ii i) fun a H => ?_
   refine An.q H (.inr (HP)) 13 34 (.pointer (some ⟨bu_7, ou_8 + i * 2, none⟩)) (fun _ => ex_indexA (b := bu_7) (off := ou_8) (len := x.al.length) (cap := x.c) (e := 62) (k := 2) (ik := .i64) (i := (i : Int)) (m := i) hA_9 (by kernel_rfl) (by kernel_rfl) (by omega) (by omega) (by kernel_rfl) (by kernel_rfl)) fun a H => ?_
   refine An.p H (.inr HP) 14 35 (.pointer (some ⟨bu_7, ou_8 + i * 2 + 1, none⟩)) fun a H => ?_
   refine An.vw H (HP) 15 36 (ii x_6.2) (fun _ hS => ex_l1 (IsRow.cells altC_size (hx.1.below (hS.below (by kernel_rfl))) hA_9 hx_10 1 _ rfl)) fun a H => ?_
   refine An.p H (.inr HP) 16 37 (pt b_3 1) fun a H => ?_
   refine An.vw H (HP) 17 38 (ii y.item) (fun _ hS => ex_l1 (hS.cell 0 rfl 1 rfl)) fun a H => ?_
   refine An.p H (.inr HP) 18 39 (.bool (x_6.2 == y.item)) fun a H => ?_
   refine An.p H (.inr HP) 19 40 (.bool (x_6.2 == y.item)) fun a H => ?_
   refine An.done (by kernel_rfl) ?_
   refine tn ?_
   refine w_if H rfl (fun g40 => ?_) (fun g40 => ?_)
   ·have g40p := eq_of_beq g40
    refine sq (rg ?_)
    refine H.v 4 (.bool true) fun a H => ?_
    refine nl (tn (rt (ibr (tr (tr (ibr (tr ?_)))))))
    refine H.r1 (.bool true) Tryz.results77 ?_
    exact ⟨by rw [show rfulP x y = true from by unfold rfulP; rw [if_neg (by omega), hrel, hd_11, List.any_cons, show (x_6.1 == y.region && x_6.2 == y.item) = true from by simp only [g30, g40, Bool.true_and, Bool.false_and]]; rfl], HP.bl⟩
   have g40p := ne_of_beq_false g40
   refine sk (ibn (tn (rg ?_)))
   refine H.v 19 (ii i) fun a H => H.valE 20 (ii (IntKind.i64.wrap ((i : Int) + 1))) (ii ((i : Int) + 1)) (by kernel_rfl) (by kernel_rfl) ((by rw [wrap_ini64 _ (by omega)])) fun a H => H.v 5 (ii ((i : Int) + 1)) fun a H => ?_
   refine nl (tn ?_)
   have H := H.as 5 (ii ((i + 1 : Nat) : Int)) rfl rfl
   refine ⟨_, ?_, i + 1, rfl, H.keep (by kernel_rfl), HP, (by omega), (by rw [hrel, hd_11, List.any_cons, show (x_6.1 == y.region && x_6.2 == y.item) = false from by simp only [g30, g40, Bool.true_and, Bool.false_and]]; rfl)⟩
   omega
  have g30p := ne_of_beq_false g30
  refine An.s H (.inr HP) 10 31 fun a H => ?_
  refine An.s H (.inr HP) 11 32 fun a H => ?_
  refine An.s H (.inr HP) 12 33 fun a H => ?_
  refine An.s H (.inr HP) 13 34 fun a H => ?_
  refine An.s H (.inr HP) 14 35 fun a H => ?_
  refine An.s H (.inr HP) 15 36 fun a H => ?_
  refine An.s H (.inr HP) 16 37 fun a H => ?_
  refine An.s H (.inr HP) 17 38 fun a H => ?_
  refine An.s H (.inr HP) 18 39 fun a H => ?_
  refine An.p H (.inr HP) 19 40 (.bool false) fun a H => ?_
  refine An.done (by kernel_rfl) ?_
  refine tn ?_
  refine w_iff H rfl ?_
  refine sk (ibn (tn (rg ?_)))
  refine H.v 19 (ii i) fun a H => H.valE 20 (ii (IntKind.i64.wrap ((i : Int) + 1))) (ii ((i : Int) + 1)) (by kernel_rfl) (by kernel_rfl) ((by rw [wrap_ini64 _ (by omega)])) fun a H => H.v 5 (ii ((i : Int) + 1)) fun a H => ?_
  refine nl (tn ?_)
  have H := H.as 5 (ii ((i + 1 : Nat) : Int)) rfl rfl
  refine ⟨_, ?_, i + 1, rfl, H.keep (by kernel_rfl), HP, (by omega), (by rw [hrel, hd_11, List.any_cons, show (x_6.1 == y.region && x_6.2 == y.item) = false from by simp only [g30, Bool.true_and, Bool.false_and]]; rfl)⟩
  omega
 have g18p := of_decide_eq_false g18
 refine wp_exit (then_exit (then_exit ?_))
 refine w_exit_here ?_
 refine tn (sq (rg ?_))
 refine H.v 4 (.bool false) fun a H => ?_
 refine nl (tn (rt ?_))
 refine H.r1 (.bool false) Tryz.results77 ?_
 exact ⟨by rw [show rfulP x y = false from by unfold rfulP; rw [if_neg (by omega), hrel, List.drop_eq_nil_of_le (by omega)]; rfl], HP.bl⟩
theorem ralts_any (p : Pln) (x : Ent) (y : Itm) (w : World) (hpl : IsPln w p) (hx : x.ok w) : Calls Tryz.prog 78 #[(plV p), (enV x), (itV y)] w fun e w' => e = .returned (.bool (raltsP p.its p.regions y.kind x)) ∧ Below w.heap.size w w' := by
 have hl := hx.2
 unfold maxLen at hl
 have HP := Hp.start w
 refine w_enter 74 [(0, (plV p)), (1, (enV x)), (2, (itV y))] Tryz.func78 rfl Tryz.ntmps78 (by kernel_rfl) (by kernel_rfl) fun a H => ?_
 refine sq (rg ?_)
 refine H.al HP 3 32 (plL p) fun b_1 w_2 a H HP => H.al HP 4 43 (enL x) fun b_3 w_4 a H HP => H.al HP 5 38 (itL y) fun b_5 w_6 a H HP => H.v 6 (.bool false) fun a H => ?_
 refine nl (tn (sq (sq (rg ?_))))
 refine H.v 12 (pt b_5 1) fun a H => H.u 13 (ii y.kind) (ex_l1 (HP.cell 0 rfl 1 rfl)) fun a H => H.v 14 (.bool (y.kind == 4)) fun a H => H.v 15 (.bool (y.kind == 4)) fun a H => ?_
 refine H.split 15 rfl (fun g15 H => ?_) (fun g15 H => ?_)
 ·have g15p := eq_of_beq g15
  refine H.v 16 (pt b_3 6) fun a H => H.u 17 (.slice x.A x.al.length x.c) (ex_l1 (HP.cell 1 rfl 6 rfl)) fun a H => H.v 18 (ii x.al.length) fun a H => H.v 19 (.bool (decide ((x.al.length : Int) > 0))) fun a H => H.v 20 (.bool (decide ((x.al.length : Int) > 0))) fun a H => ?_
  refine nl (tn ?_)
  refine w_if H rfl (fun g20 => ?_) (fun g20 => ?_)
  ·have g20p := of_decide_eq_true g20
   refine sq (rg ?_)
   refine H.v 6 (.bool false) fun a H => ?_
   refine nl (tn (rt (tr ?_)))
   refine H.r1 (.bool false) Tryz.results78 ?_
   exact ⟨by rw [show raltsP p.its p.regions y.kind x = false from by unfold raltsP; rw [show (y.kind == 4 && decide (0 < (x.al.length : Int))) = true from by rw [show y.kind = 4 from by omega]; simp; omega]; simp], HP.bl⟩
  have g20p := of_decide_eq_false g20
  refine sk (tn (sq (rg ?_)))
  refine H.v 7 (ii 0) fun a H => ?_
  refine nl (tn (sq (sq (rg ?_))))
  refine H.v 8 (ii 0) fun a H => ?_
  refine nl (tn (bk ?_))
  refine w_loop (fun mm a wv => ∃ (i : Nat), ∃ (last : Int), x.al.length - i = mm ∧ Sl 74 [(8, (ii i)), (7, (ii last)), (20, (.bool (decide ((x.al.length : Int) > 0)))), (19, (.bool (decide ((x.al.length : Int) > 0)))), (18, (ii x.al.length)), (17, (.slice x.A x.al.length x.c)), (16, (pt b_3 6)), (15, (.bool true)), (14, (.bool (y.kind == 4))), (13, (ii y.kind)), (12, (pt b_5 1)), (5, (pt b_5 0)), (4, (pt b_3 0)), (3, (pt b_1 0)), (0, (plV p)), (1, (enV x)), (2, (itV y))] a ∧ Hp w wv [bx b_5 38 (itL y) true, bx b_3 43 (enL x) true, bx b_1 32 (plL p) true] [] ∧ (i ≤ x.al.length) ∧ ((asc 0 (p.regions - 1) (x.al.map (fun a : Int × Int => a.1)) && !x.al.any (unfitP p.its x.frames)) = (asc last (p.regions - 1) ((x.al.drop i).map (fun a : Int × Int => a.1)) && !(x.al.drop i).any (unfitP p.its x.frames)))) (x.al.length - 0) ?_ ?_
  ·exact ⟨0, 0, (by omega), H.keep (by kernel_rfl), HP, (Nat.zero_le _), rfl⟩
  rintro mm a w_7 ⟨i, last, hmeas, H, HP, hib, hrel⟩
  refine sq (sq (rg ?_))
  refine H.v 21 (ii i) fun a H => H.v 22 (pt b_3 6) fun a H => H.u 23 (.slice x.A x.al.length x.c) (ex_l1 (HP.cell 1 rfl 6 rfl)) fun a H => H.v 24 (ii x.al.length) fun a H => H.v 25 (.bool (decide ((i : Int) < (x.al.length : Int)))) fun a H => ?_
  refine nl (tn ?_)
  refine w_if H rfl (fun g25 => ?_) (fun g25 => ?_)
  ·have g25p := of_decide_eq_true g25
   refine sk (tn (sq (bk (sq ?_))))
   obtain ⟨bu_9, ou_10, x_8, hA_11, _, hd_13, hx_12, hm_14, _⟩ := IsRow.get altC_size (hx.1.below HP.bl) (i := i) (by omega)
   refine rg ?_
   refine H.v 28 (pt b_3 6) fun a H => H.u 29 (.slice x.A x.al.length x.c) (ex_l1 (HP.cell 1 rfl 6 rfl)) fun a H => H.v 30 (ii i) fun a H => H.u 31 (.pointer (some ⟨bu_9, ou_10 + i * 2, none⟩)) (ex_indexA (b := bu_9) (off := ou_10) (len := x.al.length) (cap := x.c) (e := 62) (k := 2) (ik := .i64) (i := (i : Int)) (m := i) hA_11 (by kernel_rfl) (by kernel_rfl) (by omega) (by omega) (by kernel_rfl) (by kernel_rfl)) fun a H => H.u 32 (alV x_8) (ex_lN (alL x_8) (IsRow.cells altC_size (hx.1.below HP.bl) hA_11 hx_12)) fun a H => H.al HP 9 62 [(ii 0), (ii 0)] fun b_15 w_16 a H HP => H.st HP 0 b_15 0 2 62 true (alV x_8) [bx b_15 62 (alL x_8) true, bx b_5 38 (itL y) true, bx b_3 43 (enL x) true, bx b_1 32 (plL p) true] rfl fun w_17 a H HP => ?_
   refine nl (tn (sq (rg ?_)))
   refine H.u 34 (plV p) (ex_lN (plL p) (HP.cells 3 rfl 0 13 (by kernel_rfl))) fun a H => H.v 35 (pt b_15 1) fun a H => H.u 36 (ii x_8.2) (ex_l1 (HP.cell 0 rfl 1 rfl)) fun a H => H.cb HP 37 (Tryz.call19 _ _) (ritem_any p x_8.2 w_17 (hpl.below HP.bl)) fun w_18 hb a H HP => H.v 33 (.tuple #[(itV (gI p.its x_8.2)), (.bool (hI p.its x_8.2))]) fun a H => H.v 38 (itV (gI p.its x_8.2)) fun a H => H.v 39 (.bool (hI p.its x_8.2)) fun a H => H.al HP 10 38 [(ii 0), (ii 0), (ii 0), (ii 0), (ii 0)] fun b_19 w_20 a H HP => H.st HP 0 b_19 0 5 38 true (itV (gI p.its x_8.2)) [bx b_19 38 (itL (gI p.its x_8.2)) true, bx b_15 62 (alL x_8) true, bx b_5 38 (itL y) true, bx b_3 43 (enL x) true, bx b_1 32 (plL p) true] rfl fun w_21 a H HP => H.v 11 (.bool (hI p.its x_8.2)) fun a H => ?_
   refine nl (tn (sq (sq (rg ?_))))
   refine H.v 40 (pt b_15 0) fun a H => H.u 41 (ii x_8.1) (ex_l1 (HP.cell 1 rfl 0 rfl)) fun a H => H.v 42 (ii last) fun a H => H.v 43 (.bool (decide (x_8.1 ≤ last))) fun a H => H.v 44 (.bool (decide (x_8.1 ≤ last))) fun a H => ?_
   refine H.split 44 rfl (fun g44 H => ?_) (fun g44 H => ?_)
   ·have g44p := of_decide_eq_true g44
    iterate 5 refine H.sx rfl fun a H => ?_
    iterate 2 refine H.vx rfl (.bool true) fun a H => ?_
    iterate 2 refine H.sx rfl fun a H => ?_
    iterate 2 refine H.vx rfl (.bool true) fun a H => ?_
    iterate 5 refine H.sx rfl fun a H => ?_
    iterate 2 ((iterate 2 refine H.vx rfl (.bool true) fun a H => ?_); (iterate 3 refine H.sx rfl fun a H => ?_))
    refine H.vx rfl (.bool true) fun a H => ?_
    refine nl (tn ?_)
    refine w_ift H rfl ?_
    refine sq (rg ?_)
    refine H.v 6 (.bool false) fun a H => ?_
    refine nl (tn (rt (tr (ibr (tr (tr (ibr (tr ?_))))))))
    refine H.r1 (.bool false) Tryz.results78 ?_
    have hbad : (asc 0 (p.regions - 1) (x.al.map (fun a : Int × Int => a.1)) && !x.al.any (unfitP p.its x.frames)) = false := by rw [hrel, hd_13]; exact alt_bad (fun h1 h2 h3 => by have hu := unfit_has h3; first | omega | (rw [hu.1] at *; simp at *; done) | simp_all)
    exact ⟨by rw [show raltsP p.its p.regions y.kind x = false from by unfold raltsP; rw [Bool.and_assoc, hbad]; simp], HP.bl⟩
   have g44p := of_decide_eq_false g44
   refine H.v 45 (pt b_15 0) fun a H => H.u 46 (ii x_8.1) (ex_l1 (HP.cell 1 rfl 0 rfl)) fun a H => H.v 47 (pt b_1 6) fun a H => H.u 48 (ii p.regions) (ex_l1 (HP.cell 4 rfl 6 rfl)) fun a H => H.v 49 (.bool (decide (x_8.1 ≥ p.regions))) fun a H => H.v 50 (.bool (decide (x_8.1 ≥ p.regions))) fun a H => H.v 51 (.bool (decide (x_8.1 ≥ p.regions))) fun a H => ?_
   refine H.split 51 rfl (fun g51 H => ?_) (fun g51 H => ?_)
   ·have g51p := of_decide_eq_true g51
    iterate 2 refine H.sx rfl fun a H => ?_
    iterate 2 refine H.vx rfl (.bool true) fun a H => ?_
    iterate 5 refine H.sx rfl fun a H => ?_
    iterate 2 ((iterate 2 refine H.vx rfl (.bool true) fun a H => ?_); (iterate 3 refine H.sx rfl fun a H => ?_))
    refine H.vx rfl (.bool true) fun a H => ?_
    refine nl (tn ?_)
    refine w_ift H rfl ?_
    refine sq (rg ?_)
    refine H.v 6 (.bool false) fun a H => ?_
    refine nl (tn (rt (tr (ibr (tr (tr (ibr (tr ?_))))))))
    refine H.r1 (.bool false) Tryz.results78 ?_
    have hbad : (asc 0 (p.regions - 1) (x.al.map (fun a : Int × Int => a.1)) && !x.al.any (unfitP p.its x.frames)) = false := by rw [hrel, hd_13]; exact alt_bad (fun h1 h2 h3 => by have hu := unfit_has h3; first | omega | (rw [hu.1] at *; simp at *; done) | simp_all)
    exact ⟨by rw [show raltsP p.its p.regions y.kind x = false from by unfold raltsP; rw [Bool.and_assoc, hbad]; simp], HP.bl⟩
   have g51p := of_decide_eq_false g51
   refine H.v 52 (.bool (hI p.its x_8.2)) fun a H => H.v 53 (.bool (!(hI p.its x_8.2))) fun a H => H.v 54 (.bool (!(hI p.its x_8.2))) fun a H => H.v 55 (.bool (!(hI p.its x_8.2))) fun a H => ?_
   refine H.split 55 rfl (fun g55 H => ?_) (fun g55 H => ?_)
   ·have g55p := not_is_true g55
    iterate 5 refine H.sx rfl fun a H => ?_
    iterate 2 ((iterate 2 refine H.vx rfl (.bool true) fun a H => ?_); (iterate 3 refine H.sx rfl fun a H => ?_))
    refine H.vx rfl (.bool true) fun a H => ?_
    refine nl (tn ?_)
    refine w_ift H rfl ?_
    refine sq (rg ?_)
    refine H.v 6 (.bool false) fun a H => ?_
    refine nl (tn (rt (tr (ibr (tr (tr (ibr (tr ?_))))))))
    refine H.r1 (.bool false) Tryz.results78 ?_
    have hbad : (asc 0 (p.regions - 1) (x.al.map (fun a : Int × Int => a.1)) && !x.al.any (unfitP p.its x.frames)) = false := by rw [hrel, hd_13]; exact alt_bad (fun h1 h2 h3 => by have hu := unfit_has h3; first | omega | (rw [hu.1] at *; simp at *; done) | simp_all)
    exact ⟨by rw [show raltsP p.its p.regions y.kind x = false from by unfold raltsP; rw [Bool.and_assoc, hbad]; simp], HP.bl⟩
   have g55p := not_is_false g55
   refine H.v 56 (pt b_19 2) fun a H => H.u 57 (ii ((gI p.its x_8.2).frames)) (ex_l1 (HP.cell 0 rfl 2 rfl)) fun a H => H.v 58 (pt b_3 2) fun a H => H.u 59 (ii x.frames) (ex_l1 (HP.cell 3 rfl 2 rfl)) fun a H => H.v 60 (.bool (((gI p.its x_8.2).frames) != x.frames)) fun a H => H.v 61 (.bool (((gI p.its x_8.2).frames) != x.frames)) fun a H => H.v 62 (.bool (((gI p.its x_8.2).frames) != x.frames)) fun a H => ?_
   refine H.split 62 rfl (fun g62 H => ?_) (fun g62 H => ?_)
   ·have g62p := bne_iff_ne.1 g62
    iterate 3 refine H.sx rfl fun a H => ?_
    iterate 2 refine H.vx rfl (.bool true) fun a H => ?_
    iterate 3 refine H.sx rfl fun a H => ?_
    refine H.vx rfl (.bool true) fun a H => ?_
    refine nl (tn ?_)
    refine w_ift H rfl ?_
    refine sq (rg ?_)
    refine H.v 6 (.bool false) fun a H => ?_
    refine nl (tn (rt (tr (ibr (tr (tr (ibr (tr ?_))))))))
    refine H.r1 (.bool false) Tryz.results78 ?_
    have hbad : (asc 0 (p.regions - 1) (x.al.map (fun a : Int × Int => a.1)) && !x.al.any (unfitP p.its x.frames)) = false := by rw [hrel, hd_13]; exact alt_bad (fun h1 h2 h3 => by have hu := unfit_has h3; first | omega | (rw [hu.1] at *; simp at *; done) | simp_all)
    exact ⟨by rw [show raltsP p.its p.regions y.kind x = false from by unfold raltsP; rw [Bool.and_assoc, hbad]; simp], HP.bl⟩
   have g62p := eq_of_bne_false g62
   refine H.v 63 (pt b_19 1) fun a H => H.u 64 (ii ((gI p.its x_8.2).kind)) (ex_l1 (HP.cell 0 rfl 1 rfl)) fun a H => H.v 65 (.bool (((gI p.its x_8.2).kind) == 5)) fun a H => H.v 66 (.bool (((gI p.its x_8.2).kind) == 5)) fun a H => H.v 67 (.bool (((gI p.its x_8.2).kind) == 5)) fun a H => ?_
   refine H.split 67 rfl (fun g67 H => ?_) (fun g67 H => ?_)
   ·have g67p := eq_of_beq g67
    iterate 3 refine H.sx rfl fun a H => ?_
    refine H.vx rfl (.bool true) fun a H => ?_
    refine nl (tn ?_)
    refine w_ift H rfl ?_
    refine sq (rg ?_)
    refine H.v 6 (.bool false) fun a H => ?_
    refine nl (tn (rt (tr (ibr (tr (tr (ibr (tr ?_))))))))
    refine H.r1 (.bool false) Tryz.results78 ?_
    have hbad : (asc 0 (p.regions - 1) (x.al.map (fun a : Int × Int => a.1)) && !x.al.any (unfitP p.its x.frames)) = false := by rw [hrel, hd_13]; exact alt_bad (fun h1 h2 h3 => by have hu := unfit_has h3; first | omega | (rw [hu.1] at *; simp at *; done) | simp_all)
    exact ⟨by rw [show raltsP p.its p.regions y.kind x = false from by unfold raltsP; rw [Bool.and_assoc, hbad]; simp], HP.bl⟩
   have g67p := ne_of_beq_false g67
   refine H.v 68 (pt b_19 1) fun a H => H.u 69 (ii ((gI p.its x_8.2).kind)) (ex_l1 (HP.cell 0 rfl 1 rfl)) fun a H => H.v 70 (.bool (((gI p.its x_8.2).kind) == 4)) fun a H => H.v 71 (.bool (((gI p.its x_8.2).kind) == 4)) fun a H => ?_
   refine nl (tn ?_)
   refine w_if H rfl (fun g71 => ?_) (fun g71 => ?_)
   ·have g71p := eq_of_beq g71
    refine sq (rg ?_)
    refine H.v 6 (.bool false) fun a H => ?_
    refine nl (tn (rt (tr (ibr (tr (tr (ibr (tr ?_))))))))
    refine H.r1 (.bool false) Tryz.results78 ?_
    have hbad : (asc 0 (p.regions - 1) (x.al.map (fun a : Int × Int => a.1)) && !x.al.any (unfitP p.its x.frames)) = false := by rw [hrel, hd_13]; exact alt_bad (fun h1 h2 h3 => by have hu := unfit_has h3; first | omega | (rw [hu.1] at *; simp at *; done) | simp_all)
    exact ⟨by rw [show raltsP p.its p.regions y.kind x = false from by unfold raltsP; rw [Bool.and_assoc, hbad]; simp], HP.bl⟩
   have g71p := ne_of_beq_false g71
   refine sk (tn (rg ?_))
   refine H.v 72 (pt b_15 0) fun a H => H.u 73 (ii x_8.1) (ex_l1 (HP.cell 1 rfl 0 rfl)) fun a H => H.v 7 (ii x_8.1) fun a H => ?_
   refine nl (ibn (tn (rg ?_)))
   refine H.v 26 (ii i) fun a H => H.valE 27 (ii (IntKind.i64.wrap ((i : Int) + 1))) (ii ((i : Int) + 1)) (by kernel_rfl) (by kernel_rfl) ((by rw [wrap_ini64 _ (by omega)])) fun a H => H.v 8 (ii ((i : Int) + 1)) fun a H => ?_
   refine nl (tn ?_)
   have H := H.as 8 (ii ((i + 1 : Nat) : Int)) rfl rfl
   refine ⟨_, ?_, i + 1, x_8.1, rfl, H.keep (by kernel_rfl), ((HP.tail rfl).tail rfl), (by omega), (by rw [hrel, hd_13]; exact alt_step (by omega) (unfit_no (by assumption) (by omega) (by omega) (by omega)))⟩
   omega
  have g25p := of_decide_eq_false g25
  refine wp_exit (then_exit (then_exit ?_))
  refine w_exit_here ?_
  refine tn (sq (rg ?_))
  refine H.v 6 (.bool true) fun a H => ?_
  refine nl (tn (rt ?_))
  refine H.r1 (.bool true) Tryz.results78 ?_
  have hgood : (asc 0 (p.regions - 1) (x.al.map (fun a : Int × Int => a.1)) && !x.al.any (unfitP p.its x.frames)) = true := by rw [hrel, List.drop_eq_nil_of_le (by omega)]; rfl
  exact ⟨by rw [show raltsP p.its p.regions y.kind x = true from by unfold raltsP; rw [Bool.and_assoc, hgood, show (y.kind == 4 && decide (0 < (x.al.length : Int))) = false from by rw [show decide (0 < (x.al.length : Int)) = false from decide_eq_false (by omega)]; exact Bool.and_false _]; rfl], HP.bl⟩
 have g15p := ne_of_beq_false g15
 iterate 4 refine H.sx rfl fun a H => ?_
 refine H.v 20 (.bool false) fun a H => ?_
 refine nl (tn ?_)
 refine w_iff H rfl ?_
 refine sk (tn (sq (rg ?_)))
 refine H.v 7 (ii 0) fun a H => ?_
 refine nl (tn (sq (sq (rg ?_))))
 refine H.v 8 (ii 0) fun a H => ?_
 refine nl (tn (bk ?_))
 refine w_loop (fun mm a wv => ∃ (i : Nat), ∃ (last : Int), x.al.length - i = mm ∧ Sl 74 [(8, (ii i)), (7, (ii last)), (20, (.bool false)), (15, (.bool false)), (14, (.bool (y.kind == 4))), (13, (ii y.kind)), (12, (pt b_5 1)), (5, (pt b_5 0)), (4, (pt b_3 0)), (3, (pt b_1 0)), (0, (plV p)), (1, (enV x)), (2, (itV y))] a ∧ Hp w wv [bx b_5 38 (itL y) true, bx b_3 43 (enL x) true, bx b_1 32 (plL p) true] [] ∧ (i ≤ x.al.length) ∧ ((asc 0 (p.regions - 1) (x.al.map (fun a : Int × Int => a.1)) && !x.al.any (unfitP p.its x.frames)) = (asc last (p.regions - 1) ((x.al.drop i).map (fun a : Int × Int => a.1)) && !(x.al.drop i).any (unfitP p.its x.frames)))) (x.al.length - 0) ?_ ?_
 ·exact ⟨0, 0, (by omega), H.keep (by kernel_rfl), HP, (Nat.zero_le _), rfl⟩
 rintro mm a w_22 ⟨i, last, hmeas, H, HP, hib, hrel⟩
 refine sq (sq (rg ?_))
 refine H.v 21 (ii i) fun a H => H.v 22 (pt b_3 6) fun a H => H.u 23 (.slice x.A x.al.length x.c) (ex_l1 (HP.cell 1 rfl 6 rfl)) fun a H => H.v 24 (ii x.al.length) fun a H => H.v 25 (.bool (decide ((i : Int) < (x.al.length : Int)))) fun a H => ?_
 refine nl (tn ?_)
 refine w_if H rfl (fun g25 => ?_) (fun g25 => ?_)
 ·have g25p := of_decide_eq_true g25
  refine sk (tn (sq (bk (sq ?_))))
  obtain ⟨bu_24, ou_25, x_23, hA_26, _, hd_28, hx_27, hm_29, _⟩ := IsRow.get altC_size (hx.1.below HP.bl) (i := i) (by omega)
  refine rg ?_
  refine H.v 28 (pt b_3 6) fun a H => H.u 29 (.slice x.A x.al.length x.c) (ex_l1 (HP.cell 1 rfl 6 rfl)) fun a H => H.v 30 (ii i) fun a H => H.u 31 (.pointer (some ⟨bu_24, ou_25 + i * 2, none⟩)) (ex_indexA (b := bu_24) (off := ou_25) (len := x.al.length) (cap := x.c) (e := 62) (k := 2) (ik := .i64) (i := (i : Int)) (m := i) hA_26 (by kernel_rfl) (by kernel_rfl) (by omega) (by omega) (by kernel_rfl) (by kernel_rfl)) fun a H => H.u 32 (alV x_23) (ex_lN (alL x_23) (IsRow.cells altC_size (hx.1.below HP.bl) hA_26 hx_27)) fun a H => H.al HP 9 62 [(ii 0), (ii 0)] fun b_30 w_31 a H HP => H.st HP 0 b_30 0 2 62 true (alV x_23) [bx b_30 62 (alL x_23) true, bx b_5 38 (itL y) true, bx b_3 43 (enL x) true, bx b_1 32 (plL p) true] rfl fun w_32 a H HP => ?_
  refine nl (tn (sq (rg ?_)))
  refine H.u 34 (plV p) (ex_lN (plL p) (HP.cells 3 rfl 0 13 (by kernel_rfl))) fun a H => H.v 35 (pt b_30 1) fun a H => H.u 36 (ii x_23.2) (ex_l1 (HP.cell 0 rfl 1 rfl)) fun a H => H.cb HP 37 (Tryz.call19 _ _) (ritem_any p x_23.2 w_32 (hpl.below HP.bl)) fun w_33 hb a H HP => H.v 33 (.tuple #[(itV (gI p.its x_23.2)), (.bool (hI p.its x_23.2))]) fun a H => H.v 38 (itV (gI p.its x_23.2)) fun a H => H.v 39 (.bool (hI p.its x_23.2)) fun a H => H.al HP 10 38 [(ii 0), (ii 0), (ii 0), (ii 0), (ii 0)] fun b_34 w_35 a H HP => H.st HP 0 b_34 0 5 38 true (itV (gI p.its x_23.2)) [bx b_34 38 (itL (gI p.its x_23.2)) true, bx b_30 62 (alL x_23) true, bx b_5 38 (itL y) true, bx b_3 43 (enL x) true, bx b_1 32 (plL p) true] rfl fun w_36 a H HP => H.v 11 (.bool (hI p.its x_23.2)) fun a H => ?_
  refine nl (tn (sq (sq (rg ?_))))
  refine H.v 40 (pt b_30 0) fun a H => H.u 41 (ii x_23.1) (ex_l1 (HP.cell 1 rfl 0 rfl)) fun a H => H.v 42 (ii last) fun a H => H.v 43 (.bool (decide (x_23.1 ≤ last))) fun a H => H.v 44 (.bool (decide (x_23.1 ≤ last))) fun a H => ?_
  refine H.split 44 rfl (fun g44 H => ?_) (fun g44 H => ?_)
  ·have g44p := of_decide_eq_true g44
   iterate 5 refine H.sx rfl fun a H => ?_
   iterate 2 refine H.vx rfl (.bool true) fun a H => ?_
   iterate 2 refine H.sx rfl fun a H => ?_
   iterate 2 refine H.vx rfl (.bool true) fun a H => ?_
   iterate 5 refine H.sx rfl fun a H => ?_
   iterate 2 ((iterate 2 refine H.vx rfl (.bool true) fun a H => ?_); (iterate 3 refine H.sx rfl fun a H => ?_))
   refine H.vx rfl (.bool true) fun a H => ?_
   refine nl (tn ?_)
   refine w_ift H rfl ?_
   refine sq (rg ?_)
   refine H.v 6 (.bool false) fun a H => ?_
   refine nl (tn (rt (tr (ibr (tr (tr (ibr (tr ?_))))))))
   refine H.r1 (.bool false) Tryz.results78 ?_
   have hbad : (asc 0 (p.regions - 1) (x.al.map (fun a : Int × Int => a.1)) && !x.al.any (unfitP p.its x.frames)) = false := by rw [hrel, hd_28]; exact alt_bad (fun h1 h2 h3 => by have hu := unfit_has h3; first | omega | (rw [hu.1] at *; simp at *; done) | simp_all)
   exact ⟨by rw [show raltsP p.its p.regions y.kind x = false from by unfold raltsP; rw [Bool.and_assoc, hbad]; simp], HP.bl⟩
  have g44p := of_decide_eq_false g44
  refine H.v 45 (pt b_30 0) fun a H => H.u 46 (ii x_23.1) (ex_l1 (HP.cell 1 rfl 0 rfl)) fun a H => H.v 47 (pt b_1 6) fun a H => H.u 48 (ii p.regions) (ex_l1 (HP.cell 4 rfl 6 rfl)) fun a H => H.v 49 (.bool (decide (x_23.1 ≥ p.regions))) fun a H => H.v 50 (.bool (decide (x_23.1 ≥ p.regions))) fun a H => H.v 51 (.bool (decide (x_23.1 ≥ p.regions))) fun a H => ?_
  refine H.split 51 rfl (fun g51 H => ?_) (fun g51 H => ?_)
  ·have g51p := of_decide_eq_true g51
   iterate 2 refine H.sx rfl fun a H => ?_
   iterate 2 refine H.vx rfl (.bool true) fun a H => ?_
   iterate 5 refine H.sx rfl fun a H => ?_
   iterate 2 ((iterate 2 refine H.vx rfl (.bool true) fun a H => ?_); (iterate 3 refine H.sx rfl fun a H => ?_))
   refine H.vx rfl (.bool true) fun a H => ?_
   refine nl (tn ?_)
   refine w_ift H rfl ?_
   refine sq (rg ?_)
   refine H.v 6 (.bool false) fun a H => ?_
   refine nl (tn (rt (tr (ibr (tr (tr (ibr (tr ?_))))))))
   refine H.r1 (.bool false) Tryz.results78 ?_
   have hbad : (asc 0 (p.regions - 1) (x.al.map (fun a : Int × Int => a.1)) && !x.al.any (unfitP p.its x.frames)) = false := by rw [hrel, hd_28]; exact alt_bad (fun h1 h2 h3 => by have hu := unfit_has h3; first | omega | (rw [hu.1] at *; simp at *; done) | simp_all)
   exact ⟨by rw [show raltsP p.its p.regions y.kind x = false from by unfold raltsP; rw [Bool.and_assoc, hbad]; simp], HP.bl⟩
  have g51p := of_decide_eq_false g51
  refine H.v 52 (.bool (hI p.its x_23.2)) fun a H => H.v 53 (.bool (!(hI p.its x_23.2))) fun a H => H.v 54 (.bool (!(hI p.its x_23.2))) fun a H => H.v 55 (.bool (!(hI p.its x_23.2))) fun a H => ?_
  refine H.split 55 rfl (fun g55 H => ?_) (fun g55 H => ?_)
  ·have g55p := not_is_true g55
   iterate 5 refine H.sx rfl fun a H => ?_
   iterate 2 ((iterate 2 refine H.vx rfl (.bool true) fun a H => ?_); (iterate 3 refine H.sx rfl fun a H => ?_))
   refine H.vx rfl (.bool true) fun a H => ?_
   refine nl (tn ?_)
   refine w_ift H rfl ?_
   refine sq (rg ?_)
   refine H.v 6 (.bool false) fun a H => ?_
   refine nl (tn (rt (tr (ibr (tr (tr (ibr (tr ?_))))))))
   refine H.r1 (.bool false) Tryz.results78 ?_
   have hbad : (asc 0 (p.regions - 1) (x.al.map (fun a : Int × Int => a.1)) && !x.al.any (unfitP p.its x.frames)) = false := by rw [hrel, hd_28]; exact alt_bad (fun h1 h2 h3 => by have hu := unfit_has h3; first | omega | (rw [hu.1] at *; simp at *; done) | simp_all)
   exact ⟨by rw [show raltsP p.its p.regions y.kind x = false from by unfold raltsP; rw [Bool.and_assoc, hbad]; simp], HP.bl⟩
  have g55p := not_is_false g55
  refine H.v 56 (pt b_34 2) fun a H => H.u 57 (ii ((gI p.its x_23.2).frames)) (ex_l1 (HP.cell 0 rfl 2 rfl)) fun a H => H.v 58 (pt b_3 2) fun a H => H.u 59 (ii x.frames) (ex_l1 (HP.cell 3 rfl 2 rfl)) fun a H => H.v 60 (.bool (((gI p.its x_23.2).frames) != x.frames)) fun a H => H.v 61 (.bool (((gI p.its x_23.2).frames) != x.frames)) fun a H => H.v 62 (.bool (((gI p.its x_23.2).frames) != x.frames)) fun a H => ?_
  refine H.split 62 rfl (fun g62 H => ?_) (fun g62 H => ?_)
  ·have g62p := bne_iff_ne.1 g62
   iterate 3 refine H.sx rfl fun a H => ?_
   iterate 2 refine H.vx rfl (.bool true) fun a H => ?_
   iterate 3 refine H.sx rfl fun a H => ?_
   refine H.vx rfl (.bool true) fun a H => ?_
   refine nl (tn ?_)
   refine w_ift H rfl ?_
   refine sq (rg ?_)
   refine H.v 6 (.bool false) fun a H => ?_
   refine nl (tn (rt (tr (ibr (tr (tr (ibr (tr ?_))))))))
   refine H.r1 (.bool false) Tryz.results78 ?_
   have hbad : (asc 0 (p.regions - 1) (x.al.map (fun a : Int × Int => a.1)) && !x.al.any (unfitP p.its x.frames)) = false := by rw [hrel, hd_28]; exact alt_bad (fun h1 h2 h3 => by have hu := unfit_has h3; first | omega | (rw [hu.1] at *; simp at *; done) | simp_all)
   exact ⟨by rw [show raltsP p.its p.regions y.kind x = false from by unfold raltsP; rw [Bool.and_assoc, hbad]; simp], HP.bl⟩
  have g62p := eq_of_bne_false g62
  refine H.v 63 (pt b_34 1) fun a H => H.u 64 (ii ((gI p.its x_23.2).kind)) (ex_l1 (HP.cell 0 rfl 1 rfl)) fun a H => H.v 65 (.bool (((gI p.its x_23.2).kind) == 5)) fun a H => H.v 66 (.bool (((gI p.its x_23.2).kind) == 5)) fun a H => H.v 67 (.bool (((gI p.its x_23.2).kind) == 5)) fun a H => ?_
  refine H.split 67 rfl (fun g67 H => ?_) (fun g67 H => ?_)
  ·have g67p := eq_of_beq g67
   iterate 3 refine H.sx rfl fun a H => ?_
   refine H.vx rfl (.bool true) fun a H => ?_
   refine nl (tn ?_)
   refine w_ift H rfl ?_
   refine sq (rg ?_)
   refine H.v 6 (.bool false) fun a H => ?_
   refine nl (tn (rt (tr (ibr (tr (tr (ibr (tr ?_))))))))
   refine H.r1 (.bool false) Tryz.results78 ?_
   have hbad : (asc 0 (p.regions - 1) (x.al.map (fun a : Int × Int => a.1)) && !x.al.any (unfitP p.its x.frames)) = false := by rw [hrel, hd_28]; exact alt_bad (fun h1 h2 h3 => by have hu := unfit_has h3; first | omega | (rw [hu.1] at *; simp at *; done) | simp_all)
   exact ⟨by rw [show raltsP p.its p.regions y.kind x = false from by unfold raltsP; rw [Bool.and_assoc, hbad]; simp], HP.bl⟩
  have g67p := ne_of_beq_false g67
  refine H.v 68 (pt b_34 1) fun a H => H.u 69 (ii ((gI p.its x_23.2).kind)) (ex_l1 (HP.cell 0 rfl 1 rfl)) fun a H => H.v 70 (.bool (((gI p.its x_23.2).kind) == 4)) fun a H => H.v 71 (.bool (((gI p.its x_23.2).kind) == 4)) fun a H => ?_
  refine nl (tn ?_)
  refine w_if H rfl (fun g71 => ?_) (fun g71 => ?_)
  ·have g71p := eq_of_beq g71
   refine sq (rg ?_)
   refine H.v 6 (.bool false) fun a H => ?_
   refine nl (tn (rt (tr (ibr (tr (tr (ibr (tr ?_))))))))
   refine H.r1 (.bool false) Tryz.results78 ?_
   have hbad : (asc 0 (p.regions - 1) (x.al.map (fun a : Int × Int => a.1)) && !x.al.any (unfitP p.its x.frames)) = false := by rw [hrel, hd_28]; exact alt_bad (fun h1 h2 h3 => by have hu := unfit_has h3; first | omega | (rw [hu.1] at *; simp at *; done) | simp_all)
   exact ⟨by rw [show raltsP p.its p.regions y.kind x = false from by unfold raltsP; rw [Bool.and_assoc, hbad]; simp], HP.bl⟩
  have g71p := ne_of_beq_false g71
  refine sk (tn (rg ?_))
  refine H.v 72 (pt b_30 0) fun a H => H.u 73 (ii x_23.1) (ex_l1 (HP.cell 1 rfl 0 rfl)) fun a H => H.v 7 (ii x_23.1) fun a H => ?_
  refine nl (ibn (tn (rg ?_)))
  refine H.v 26 (ii i) fun a H => H.valE 27 (ii (IntKind.i64.wrap ((i : Int) + 1))) (ii ((i : Int) + 1)) (by kernel_rfl) (by kernel_rfl) ((by rw [wrap_ini64 _ (by omega)])) fun a H => H.v 8 (ii ((i : Int) + 1)) fun a H => ?_
  refine nl (tn ?_)
  have H := H.as 8 (ii ((i + 1 : Nat) : Int)) rfl rfl
  refine ⟨_, ?_, i + 1, x_23.1, rfl, H.keep (by kernel_rfl), ((HP.tail rfl).tail rfl), (by omega), (by rw [hrel, hd_28]; exact alt_step (by omega) (unfit_no (by assumption) (by omega) (by omega) (by omega)))⟩
  omega
 have g25p := of_decide_eq_false g25
 refine wp_exit (then_exit (then_exit ?_))
 refine w_exit_here ?_
 refine tn (sq (rg ?_))
 refine H.v 6 (.bool true) fun a H => ?_
 refine nl (tn (rt ?_))
 refine H.r1 (.bool true) Tryz.results78 ?_
 have hgood : (asc 0 (p.regions - 1) (x.al.map (fun a : Int × Int => a.1)) && !x.al.any (unfitP p.its x.frames)) = true := by rw [hrel, List.drop_eq_nil_of_le (by omega)]; rfl
 exact ⟨by rw [show raltsP p.its p.regions y.kind x = true from by unfold raltsP; rw [Bool.and_assoc, hgood, show (y.kind == 4 && decide (0 < (x.al.length : Int))) = false from by rw [show (y.kind == 4) = false from g15]; rfl]; rfl], HP.bl⟩
theorem rentryP_any (p : Pln) (x : Ent) (w : World) (hpl : IsPln w p) (hx : x.ok w) (hlen : 1 ≤ p.length ∧ p.length ≤ 100000000) (hits : p.its.all itemP = true) : Calls Tryz.prog 40 #[(plV p), (enV x)] w fun e w' => e = .returned (.bool (fitsP p.its p.length x && altsP p.its p.regions x && fulP p.bs x)) ∧ Below w.heap.size w w' := by
 have hgb := gI_frames hits x.item
 have HP := Hp.start w
 refine w_enter 95 [(0, (plV p)), (1, (enV x))] Tryz.func40 rfl Tryz.ntmps40 (by kernel_rfl) (by kernel_rfl) fun a H => ?_
 refine sq (rg ?_)
 refine H.al HP 2 32 (plL p) fun b_1 w_2 a H HP => H.al HP 3 43 (enL x) fun b_3 w_4 a H HP => H.v 4 (.bool false) fun a H => ?_
 refine nl (tn (sq (rg ?_)))
 refine H.u 12 (plV p) (ex_lN (plL p) (HP.cells 1 rfl 0 13 (by kernel_rfl))) fun a H => H.v 13 (pt b_3 1) fun a H => H.u 14 (ii x.item) (ex_l1 (HP.cell 0 rfl 1 rfl)) fun a H => H.cb HP 15 (Tryz.call19 _ _) (ritem_any p x.item w_4 (hpl.below HP.bl)) fun w_5 hb a H HP => H.v 11 (.tuple #[(itV (gI p.its x.item)), (.bool (hI p.its x.item))]) fun a H => H.v 16 (itV (gI p.its x.item)) fun a H => H.v 17 (.bool (hI p.its x.item)) fun a H => H.al HP 5 38 [(ii 0), (ii 0), (ii 0), (ii 0), (ii 0)] fun b_6 w_7 a H HP => H.st HP 0 b_6 0 5 38 true (itV (gI p.its x.item)) [bx b_6 38 (itL (gI p.its x.item)) true, bx b_3 43 (enL x) true, bx b_1 32 (plL p) true] rfl fun w_8 a H HP => H.v 6 (.bool (hI p.its x.item)) fun a H => ?_
 refine nl (tn (sq (sq (rg ?_))))
 refine H.v 18 (.bool (hI p.its x.item)) fun a H => H.v 19 (.bool (!(hI p.its x.item))) fun a H => H.v 20 (.bool (!(hI p.its x.item))) fun a H => ?_
 refine H.split 20 rfl (fun g20 H => ?_) (fun g20 H => ?_)
 ·have g20p := not_is_true g20
  iterate 2 ((iterate 3 refine H.sx rfl fun a H => ?_); (iterate 2 refine H.vx rfl (.bool true) fun a H => ?_))
  iterate 5 refine H.sx rfl fun a H => ?_
  iterate 2 refine H.vx rfl (.bool true) fun a H => ?_
  iterate 10 refine H.sx rfl fun a H => ?_
  refine H.vx rfl (.bool true) fun a H => ?_
  refine nl (tn ?_)
  refine w_ift H rfl ?_
  refine sq (rg ?_)
  refine H.v 4 (.bool false) fun a H => ?_
  refine nl (tn (rt (tr ?_)))
  refine H.r1 (.bool false) Tryz.results40 ?_
  exact ⟨by rw [show fitsP p.its p.length x = false from by (first | (rw [Bool.eq_iff_iff]; (try simp only [fitsP, g20, g20p]); (try simp only [Bool.and_eq_true, Bool.or_eq_true, Bool.not_eq_true', Bool.false_eq_true, decide_eq_true_eq, decide_eq_false_iff_not, inR_iff, inR_not, beq_iff_eq, bne_iff_ne, beq_eq_false_iff_ne, ne_eq, Bool.true_and, Bool.and_true, Bool.false_and, Bool.and_false, Bool.true_or, Bool.or_true, Bool.false_or, Bool.or_false, Bool.not_true, Bool.not_false, and_true, true_and, iff_true, true_iff, iff_false, false_iff, or_true, true_or, or_false, false_or, not_true_eq_false, not_false_eq_true, and_false, false_and]); first | omega | (simp; done) | (simp; omega)) | (simp [fitsP, g20, g20p]; done) | (simp [fitsP, g20, g20p] <;> simp [bne]))]; rfl, HP.bl⟩
 have g20p := not_is_false g20
 refine H.v 21 (pt b_6 1) fun a H => H.u 22 (ii ((gI p.its x.item).kind)) (ex_l1 (HP.cell 0 rfl 1 rfl)) fun a H => H.v 23 (.bool (((gI p.its x.item).kind) == 5)) fun a H => H.v 24 (.bool (((gI p.its x.item).kind) == 5)) fun a H => H.v 25 (.bool (((gI p.its x.item).kind) == 5)) fun a H => ?_
 refine H.split 25 rfl (fun g25 H => ?_) (fun g25 H => ?_)
 ·have g25p := eq_of_beq g25
  iterate 3 refine H.sx rfl fun a H => ?_
  iterate 2 refine H.vx rfl (.bool true) fun a H => ?_
  iterate 5 refine H.sx rfl fun a H => ?_
  iterate 2 refine H.vx rfl (.bool true) fun a H => ?_
  iterate 10 refine H.sx rfl fun a H => ?_
  refine H.vx rfl (.bool true) fun a H => ?_
  refine nl (tn ?_)
  refine w_ift H rfl ?_
  refine sq (rg ?_)
  refine H.v 4 (.bool false) fun a H => ?_
  refine nl (tn (rt (tr ?_)))
  refine H.r1 (.bool false) Tryz.results40 ?_
  exact ⟨by rw [show fitsP p.its p.length x = false from by (first | (rw [Bool.eq_iff_iff]; (try simp only [fitsP, g20, g20p, g25, g25p]); (try simp only [Bool.and_eq_true, Bool.or_eq_true, Bool.not_eq_true', Bool.false_eq_true, decide_eq_true_eq, decide_eq_false_iff_not, inR_iff, inR_not, beq_iff_eq, bne_iff_ne, beq_eq_false_iff_ne, ne_eq, Bool.true_and, Bool.and_true, Bool.false_and, Bool.and_false, Bool.true_or, Bool.or_true, Bool.false_or, Bool.or_false, Bool.not_true, Bool.not_false, and_true, true_and, iff_true, true_iff, iff_false, false_iff, or_true, true_or, or_false, false_or, not_true_eq_false, not_false_eq_true, and_false, false_and]); first | omega | (simp; done) | (simp; omega)) | (simp [fitsP, g20, g20p, g25, g25p]; done) | (simp [fitsP, g20, g20p, g25, g25p] <;> simp [bne]))]; rfl, HP.bl⟩
 have g25p := ne_of_beq_false g25
 refine H.v 26 (pt b_3 2) fun a H => H.u 27 (ii x.frames) (ex_l1 (HP.cell 1 rfl 2 rfl)) fun a H => H.v 28 (.bool (decide (x.frames < 1))) fun a H => H.v 29 (.bool (decide (x.frames < 1))) fun a H => H.v 30 (.bool (decide (x.frames < 1))) fun a H => ?_
 refine H.split 30 rfl (fun g30 H => ?_) (fun g30 H => ?_)
 ·have g30p := of_decide_eq_true g30
  iterate 5 refine H.sx rfl fun a H => ?_
  iterate 2 refine H.vx rfl (.bool true) fun a H => ?_
  iterate 10 refine H.sx rfl fun a H => ?_
  refine H.vx rfl (.bool true) fun a H => ?_
  refine nl (tn ?_)
  refine w_ift H rfl ?_
  refine sq (rg ?_)
  refine H.v 4 (.bool false) fun a H => ?_
  refine nl (tn (rt (tr ?_)))
  refine H.r1 (.bool false) Tryz.results40 ?_
  exact ⟨by rw [show fitsP p.its p.length x = false from by (first | (rw [Bool.eq_iff_iff]; (try simp only [fitsP, g20, g20p, g25, g25p, g30, g30p]); (try simp only [Bool.and_eq_true, Bool.or_eq_true, Bool.not_eq_true', Bool.false_eq_true, decide_eq_true_eq, decide_eq_false_iff_not, inR_iff, inR_not, beq_iff_eq, bne_iff_ne, beq_eq_false_iff_ne, ne_eq, Bool.true_and, Bool.and_true, Bool.false_and, Bool.and_false, Bool.true_or, Bool.or_true, Bool.false_or, Bool.or_false, Bool.not_true, Bool.not_false, and_true, true_and, iff_true, true_iff, iff_false, false_iff, or_true, true_or, or_false, false_or, not_true_eq_false, not_false_eq_true, and_false, false_and]); first | omega | (simp; done) | (simp; omega)) | (simp [fitsP, g20, g20p, g25, g25p, g30, g30p]; done) | (simp [fitsP, g20, g20p, g25, g25p, g30, g30p] <;> simp [bne]))]; rfl, HP.bl⟩
 have g30p := of_decide_eq_false g30
 refine H.v 31 (pt b_3 2) fun a H => H.u 32 (ii x.frames) (ex_l1 (HP.cell 1 rfl 2 rfl)) fun a H => H.v 33 (pt b_6 2) fun a H => H.u 34 (ii ((gI p.its x.item).frames)) (ex_l1 (HP.cell 0 rfl 2 rfl)) fun a H => H.v 35 (.bool (decide (x.frames > ((gI p.its x.item).frames)))) fun a H => H.v 36 (.bool (decide (x.frames > ((gI p.its x.item).frames)))) fun a H => H.v 37 (.bool (decide (x.frames > ((gI p.its x.item).frames)))) fun a H => ?_
 refine H.split 37 rfl (fun g37 H => ?_) (fun g37 H => ?_)
 ·have g37p := of_decide_eq_true g37
  iterate 10 refine H.sx rfl fun a H => ?_
  refine H.vx rfl (.bool true) fun a H => ?_
  refine nl (tn ?_)
  refine w_ift H rfl ?_
  refine sq (rg ?_)
  refine H.v 4 (.bool false) fun a H => ?_
  refine nl (tn (rt (tr ?_)))
  refine H.r1 (.bool false) Tryz.results40 ?_
  exact ⟨by rw [show fitsP p.its p.length x = false from by (first | (rw [Bool.eq_iff_iff]; (try simp only [fitsP, g20, g20p, g25, g25p, g30, g30p, g37, g37p]); (try simp only [Bool.and_eq_true, Bool.or_eq_true, Bool.not_eq_true', Bool.false_eq_true, decide_eq_true_eq, decide_eq_false_iff_not, inR_iff, inR_not, beq_iff_eq, bne_iff_ne, beq_eq_false_iff_ne, ne_eq, Bool.true_and, Bool.and_true, Bool.false_and, Bool.and_false, Bool.true_or, Bool.or_true, Bool.false_or, Bool.or_false, Bool.not_true, Bool.not_false, and_true, true_and, iff_true, true_iff, iff_false, false_iff, or_true, true_or, or_false, false_or, not_true_eq_false, not_false_eq_true, and_false, false_and]); first | omega | (simp; done) | (simp; omega)) | (simp [fitsP, g20, g20p, g25, g25p, g30, g30p, g37, g37p]; done) | (simp [fitsP, g20, g20p, g25, g25p, g30, g30p, g37, g37p] <;> simp [bne]))]; rfl, HP.bl⟩
 have g37p := of_decide_eq_false g37
 refine H.v 38 (pt b_6 1) fun a H => H.u 39 (ii ((gI p.its x.item).kind)) (ex_l1 (HP.cell 0 rfl 1 rfl)) fun a H => H.v 40 (.bool (((gI p.its x.item).kind) != 4)) fun a H => H.v 41 (.bool (((gI p.its x.item).kind) != 4)) fun a H => ?_
 refine H.split 41 rfl (fun g41 H => ?_) (fun g41 H => ?_)
 ·have g41p := bne_iff_ne.1 g41
  refine H.v 42 (pt b_3 2) fun a H => H.u 43 (ii x.frames) (ex_l1 (HP.cell 1 rfl 2 rfl)) fun a H => H.v 44 (pt b_6 2) fun a H => H.u 45 (ii ((gI p.its x.item).frames)) (ex_l1 (HP.cell 0 rfl 2 rfl)) fun a H => H.v 46 (.bool (x.frames != ((gI p.its x.item).frames))) fun a H => H.v 47 (.bool (x.frames != ((gI p.its x.item).frames))) fun a H => H.v 48 (.bool (x.frames != ((gI p.its x.item).frames))) fun a H => ?_
  refine nl (tn ?_)
  refine w_if H rfl (fun g48 => ?_) (fun g48 => ?_)
  ·have g48p := bne_iff_ne.1 g48
   refine sq (rg ?_)
   refine H.v 4 (.bool false) fun a H => ?_
   refine nl (tn (rt (tr ?_)))
   refine H.r1 (.bool false) Tryz.results40 ?_
   exact ⟨by rw [show fitsP p.its p.length x = false from by (first | (rw [Bool.eq_iff_iff]; (try simp only [fitsP, g20, g20p, g25, g25p, g30, g30p, g37, g37p, g41, g41p, g48, g48p]); (try simp only [Bool.and_eq_true, Bool.or_eq_true, Bool.not_eq_true', Bool.false_eq_true, decide_eq_true_eq, decide_eq_false_iff_not, inR_iff, inR_not, beq_iff_eq, bne_iff_ne, beq_eq_false_iff_ne, ne_eq, Bool.true_and, Bool.and_true, Bool.false_and, Bool.and_false, Bool.true_or, Bool.or_true, Bool.false_or, Bool.or_false, Bool.not_true, Bool.not_false, and_true, true_and, iff_true, true_iff, iff_false, false_iff, or_true, true_or, or_false, false_or, not_true_eq_false, not_false_eq_true, and_false, false_and]); first | omega | (simp; done) | (simp; omega)) | (simp [fitsP, g20, g20p, g25, g25p, g30, g30p, g37, g37p, g41, g41p, g48, g48p]; done) | (simp [fitsP, g20, g20p, g25, g25p, g30, g30p, g37, g37p, g41, g41p, g48, g48p] <;> simp [bne]))]; rfl, HP.bl⟩
  have g48p := eq_of_bne_false g48
  refine sk (tn (sq (sq (rg ?_))))
  refine H.v 49 (pt b_3 3) fun a H => H.u 50 (ii x.earliest) (ex_l1 (HP.cell 1 rfl 3 rfl)) fun a H => H.v 51 (.bool (decide (x.earliest < 0))) fun a H => H.v 52 (.bool (decide (x.earliest < 0))) fun a H => ?_
  refine H.split 52 rfl (fun g52 H => ?_) (fun g52 H => ?_)
  ·have g52p := of_decide_eq_true g52
   iterate 5 refine H.sx rfl fun a H => ?_
   iterate 2 refine H.vx rfl (.bool true) fun a H => ?_
   iterate 8 refine H.sx rfl fun a H => ?_
   refine H.vx rfl (.bool true) fun a H => ?_
   refine nl (tn ?_)
   refine w_ift H rfl ?_
   refine sq (rg ?_)
   refine H.v 4 (.bool false) fun a H => ?_
   refine nl (tn (rt (tr ?_)))
   refine H.r1 (.bool false) Tryz.results40 ?_
   exact ⟨by rw [show fitsP p.its p.length x = false from by (first | (rw [Bool.eq_iff_iff]; (try simp only [fitsP, g20, g20p, g25, g25p, g30, g30p, g37, g37p, g41, g41p, g48, g48p, g52, g52p]); (try simp only [Bool.and_eq_true, Bool.or_eq_true, Bool.not_eq_true', Bool.false_eq_true, decide_eq_true_eq, decide_eq_false_iff_not, inR_iff, inR_not, beq_iff_eq, bne_iff_ne, beq_eq_false_iff_ne, ne_eq, Bool.true_and, Bool.and_true, Bool.false_and, Bool.and_false, Bool.true_or, Bool.or_true, Bool.false_or, Bool.or_false, Bool.not_true, Bool.not_false, and_true, true_and, iff_true, true_iff, iff_false, false_iff, or_true, true_or, or_false, false_or, not_true_eq_false, not_false_eq_true, and_false, false_and]); first | omega | (simp; done) | (simp; omega)) | (simp [fitsP, g20, g20p, g25, g25p, g30, g30p, g37, g37p, g41, g41p, g48, g48p, g52, g52p]; done) | (simp [fitsP, g20, g20p, g25, g25p, g30, g30p, g37, g37p, g41, g41p, g48, g48p, g52, g52p] <;> simp [bne]))]; rfl, HP.bl⟩
  have g52p := of_decide_eq_false g52
  refine H.v 53 (pt b_3 3) fun a H => H.u 54 (ii x.earliest) (ex_l1 (HP.cell 1 rfl 3 rfl)) fun a H => H.v 55 (pt b_3 4) fun a H => H.u 56 (ii x.latest) (ex_l1 (HP.cell 1 rfl 4 rfl)) fun a H => H.v 57 (.bool (decide (x.earliest > x.latest))) fun a H => H.v 58 (.bool (decide (x.earliest > x.latest))) fun a H => H.v 59 (.bool (decide (x.earliest > x.latest))) fun a H => ?_
  refine H.split 59 rfl (fun g59 H => ?_) (fun g59 H => ?_)
  ·have g59p := of_decide_eq_true g59
   iterate 8 refine H.sx rfl fun a H => ?_
   refine H.vx rfl (.bool true) fun a H => ?_
   refine nl (tn ?_)
   refine w_ift H rfl ?_
   refine sq (rg ?_)
   refine H.v 4 (.bool false) fun a H => ?_
   refine nl (tn (rt (tr ?_)))
   refine H.r1 (.bool false) Tryz.results40 ?_
   exact ⟨by rw [show fitsP p.its p.length x = false from by (first | (rw [Bool.eq_iff_iff]; (try simp only [fitsP, g20, g20p, g25, g25p, g30, g30p, g37, g37p, g41, g41p, g48, g48p, g52, g52p, g59, g59p]); (try simp only [Bool.and_eq_true, Bool.or_eq_true, Bool.not_eq_true', Bool.false_eq_true, decide_eq_true_eq, decide_eq_false_iff_not, inR_iff, inR_not, beq_iff_eq, bne_iff_ne, beq_eq_false_iff_ne, ne_eq, Bool.true_and, Bool.and_true, Bool.false_and, Bool.and_false, Bool.true_or, Bool.or_true, Bool.false_or, Bool.or_false, Bool.not_true, Bool.not_false, and_true, true_and, iff_true, true_iff, iff_false, false_iff, or_true, true_or, or_false, false_or, not_true_eq_false, not_false_eq_true, and_false, false_and]); first | omega | (simp; done) | (simp; omega)) | (simp [fitsP, g20, g20p, g25, g25p, g30, g30p, g37, g37p, g41, g41p, g48, g48p, g52, g52p, g59, g59p]; done) | (simp [fitsP, g20, g20p, g25, g25p, g30, g30p, g37, g37p, g41, g41p, g48, g48p, g52, g52p, g59, g59p] <;> simp [bne]))]; rfl, HP.bl⟩
  have g59p := of_decide_eq_false g59
  refine H.v 60 (pt b_3 4) fun a H => H.u 61 (ii x.latest) (ex_l1 (HP.cell 1 rfl 4 rfl)) fun a H => H.v 62 (pt b_1 7) fun a H => H.u 63 (ii p.length) (ex_l1 (HP.cell 2 rfl 7 rfl)) fun a H => H.v 64 (pt b_3 2) fun a H => H.u 65 (ii x.frames) (ex_l1 (HP.cell 1 rfl 2 rfl)) fun a H => H.valE 66 (ii (IntKind.i64.wrap (p.length - x.frames))) (ii (p.length - x.frames)) (by kernel_rfl) (by kernel_rfl) ((by rw [wrap_ini64 _ (by omega)])) fun a H => H.v 67 (.bool (decide (x.latest > (p.length - x.frames)))) fun a H => H.v 68 (.bool (decide (x.latest > (p.length - x.frames)))) fun a H => ?_
  refine nl (tn ?_)
  refine w_if H rfl (fun g68 => ?_) (fun g68 => ?_)
  ·have g68p := of_decide_eq_true g68
   refine sq (rg ?_)
   refine H.v 4 (.bool false) fun a H => ?_
   refine nl (tn (rt (tr ?_)))
   refine H.r1 (.bool false) Tryz.results40 ?_
   exact ⟨by rw [show fitsP p.its p.length x = false from by (first | (rw [Bool.eq_iff_iff]; (try simp only [fitsP, g20, g20p, g25, g25p, g30, g30p, g37, g37p, g41, g41p, g48, g48p, g52, g52p, g59, g59p, g68, g68p]); (try simp only [Bool.and_eq_true, Bool.or_eq_true, Bool.not_eq_true', Bool.false_eq_true, decide_eq_true_eq, decide_eq_false_iff_not, inR_iff, inR_not, beq_iff_eq, bne_iff_ne, beq_eq_false_iff_ne, ne_eq, Bool.true_and, Bool.and_true, Bool.false_and, Bool.and_false, Bool.true_or, Bool.or_true, Bool.false_or, Bool.or_false, Bool.not_true, Bool.not_false, and_true, true_and, iff_true, true_iff, iff_false, false_iff, or_true, true_or, or_false, false_or, not_true_eq_false, not_false_eq_true, and_false, false_and]); first | omega | (simp; done) | (simp; omega)) | (simp [fitsP, g20, g20p, g25, g25p, g30, g30p, g37, g37p, g41, g41p, g48, g48p, g52, g52p, g59, g59p, g68, g68p]; done) | (simp [fitsP, g20, g20p, g25, g25p, g30, g30p, g37, g37p, g41, g41p, g48, g48p, g52, g52p, g59, g59p, g68, g68p] <;> simp [bne]))]; rfl, HP.bl⟩
  have g68p := of_decide_eq_false g68
  refine sk (tn (sq (rg ?_)))
  refine H.u 70 (plV p) (ex_lN (plL p) (HP.cells 2 rfl 0 13 (by kernel_rfl))) fun a H => H.v 71 (pt b_3 5) fun a H => H.u 72 (ii x.booking) (ex_l1 (HP.cell 1 rfl 5 rfl)) fun a H => H.cb HP 73 (Tryz.call23 _ _) (rbooking_any p x.booking w_8 (hpl.below HP.bl)) fun w_9 hb a H HP => H.v 69 (.tuple #[(bkV (gB p.bs x.booking)), (.bool (hB p.bs x.booking))]) fun a H => H.v 74 (bkV (gB p.bs x.booking)) fun a H => H.v 75 (.bool (hB p.bs x.booking)) fun a H => H.al HP 7 47 [(ii 0), (ii 0), (ii 0), (ii 0), (ii 0), (ii 0), (ii 0)] fun b_10 w_11 a H HP => H.st HP 0 b_10 0 7 47 true (bkV (gB p.bs x.booking)) [bx b_10 47 (bkL (gB p.bs x.booking)) true, bx b_6 38 (itL (gI p.its x.item)) true, bx b_3 43 (enL x) true, bx b_1 32 (plL p) true] rfl fun w_12 a H HP => H.v 8 (.bool (hB p.bs x.booking)) fun a H => ?_
  refine nl (tn (sq (rg ?_)))
  refine H.u 76 (enV x) (ex_lN (enL x) (HP.cells 2 rfl 0 7 (by kernel_rfl))) fun a H => H.u 77 (bkV (gB p.bs x.booking)) (ex_lN (bkL (gB p.bs x.booking)) (HP.cells 0 rfl 0 7 (by kernel_rfl))) fun a H => H.cb HP 78 (Tryz.call77 _ _) (rful_any x (gB p.bs x.booking) w_12 (hx.keep (fun b hb => (HP.bl).block b (hx.1.lt b hb)) (HP.bl).size)) fun w_13 hb a H HP => H.v 9 (.bool (rfulP x (gB p.bs x.booking))) fun a H => ?_
  refine nl (tn (sq (rg ?_)))
  refine H.u 79 (plV p) (ex_lN (plL p) (HP.cells 3 rfl 0 13 (by kernel_rfl))) fun a H => H.u 80 (enV x) (ex_lN (enL x) (HP.cells 2 rfl 0 7 (by kernel_rfl))) fun a H => H.u 81 (itV (gI p.its x.item)) (ex_lN (itL (gI p.its x.item)) (HP.cells 1 rfl 0 5 (by kernel_rfl))) fun a H => H.cb HP 82 (Tryz.call78 _ _) (ralts_any p x (gI p.its x.item) w_13 (hpl.below HP.bl) (hx.keep (fun b hb => (HP.bl).block b (hx.1.lt b hb)) (HP.bl).size)) fun w_14 hb a H HP => H.v 10 (.bool (raltsP p.its p.regions (gI p.its x.item).kind x)) fun a H => ?_
  refine nl (tn (sq (rg ?_)))
  refine H.v 83 (.bool (raltsP p.its p.regions (gI p.its x.item).kind x)) fun a H => H.v 84 (.bool (raltsP p.its p.regions (gI p.its x.item).kind x)) fun a H => ?_
  refine H.split 84 rfl (fun g84 H => ?_) (fun g84 H => ?_)
  ·have g84p := g84
   refine H.v 85 (pt b_3 5) fun a H => H.u 86 (ii x.booking) (ex_l1 (HP.cell 2 rfl 5 rfl)) fun a H => H.v 87 (.bool (x.booking == 0)) fun a H => H.v 88 (.bool (x.booking == 0)) fun a H => ?_
   refine H.split 88 rfl (fun g88 H => ?_) (fun g88 H => ?_)
   ·have g88p := eq_of_beq g88
    iterate 4 refine H.sx rfl fun a H => ?_
    iterate 3 refine H.vx rfl (.bool true) fun a H => ?_
    refine nl (tn (rt ?_))
    refine H.r1 (.bool true) Tryz.results40 ?_
    have hf : fitsP p.its p.length x = true := by (first | (rw [Bool.eq_iff_iff]; (try simp only [fitsP, g20, g20p, g25, g25p, g30, g30p, g37, g37p, g41, g41p, g48, g48p, g52, g52p, g59, g59p, g68, g68p, g84, g84p, g88, g88p]); (try simp only [Bool.and_eq_true, Bool.or_eq_true, Bool.not_eq_true', Bool.false_eq_true, decide_eq_true_eq, decide_eq_false_iff_not, inR_iff, inR_not, beq_iff_eq, bne_iff_ne, beq_eq_false_iff_ne, ne_eq, Bool.true_and, Bool.and_true, Bool.false_and, Bool.and_false, Bool.true_or, Bool.or_true, Bool.false_or, Bool.or_false, Bool.not_true, Bool.not_false, and_true, true_and, iff_true, true_iff, iff_false, false_iff, or_true, true_or, or_false, false_or, not_true_eq_false, not_false_eq_true, and_false, false_and]); first | omega | (simp; done) | (simp; omega)) | (simp [fitsP, g20, g20p, g25, g25p, g30, g30p, g37, g37p, g41, g41p, g48, g48p, g52, g52p, g59, g59p, g68, g68p, g84, g84p, g88, g88p]; done) | (simp [fitsP, g20, g20p, g25, g25p, g30, g30p, g37, g37p, g41, g41p, g48, g48p, g52, g52p, g59, g59p, g68, g68p, g84, g84p, g88, g88p] <;> simp [bne]))
    exact ⟨by rw [show (fitsP p.its p.length x && altsP p.its p.regions x && fulP p.bs x) = (true) from by rw [hf, ralts_eq, rful_eq]; simp [g84, g88]], HP.bl⟩
   have g88p := ne_of_beq_false g88
   refine H.v 89 (.bool (hB p.bs x.booking)) fun a H => H.v 90 (.bool (hB p.bs x.booking)) fun a H => ?_
   refine H.split 90 rfl (fun g90 H => ?_) (fun g90 H => ?_)
   ·have g90p := g90
    refine H.v 91 (.bool (rfulP x (gB p.bs x.booking))) fun a H => H.v 92 (.bool (rfulP x (gB p.bs x.booking))) fun a H => H.v 93 (.bool (rfulP x (gB p.bs x.booking))) fun a H => H.v 94 (.bool (rfulP x (gB p.bs x.booking))) fun a H => H.v 4 (.bool (rfulP x (gB p.bs x.booking))) fun a H => ?_
    refine nl (tn (rt ?_))
    refine H.r1 (.bool (rfulP x (gB p.bs x.booking))) Tryz.results40 ?_
    have hf : fitsP p.its p.length x = true := by (first | (rw [Bool.eq_iff_iff]; (try simp only [fitsP, g20, g20p, g25, g25p, g30, g30p, g37, g37p, g41, g41p, g48, g48p, g52, g52p, g59, g59p, g68, g68p, g84, g84p, g88, g88p, g90, g90p]); (try simp only [Bool.and_eq_true, Bool.or_eq_true, Bool.not_eq_true', Bool.false_eq_true, decide_eq_true_eq, decide_eq_false_iff_not, inR_iff, inR_not, beq_iff_eq, bne_iff_ne, beq_eq_false_iff_ne, ne_eq, Bool.true_and, Bool.and_true, Bool.false_and, Bool.and_false, Bool.true_or, Bool.or_true, Bool.false_or, Bool.or_false, Bool.not_true, Bool.not_false, and_true, true_and, iff_true, true_iff, iff_false, false_iff, or_true, true_or, or_false, false_or, not_true_eq_false, not_false_eq_true, and_false, false_and]); first | omega | (simp; done) | (simp; omega)) | (simp [fitsP, g20, g20p, g25, g25p, g30, g30p, g37, g37p, g41, g41p, g48, g48p, g52, g52p, g59, g59p, g68, g68p, g84, g84p, g88, g88p, g90, g90p]; done) | (simp [fitsP, g20, g20p, g25, g25p, g30, g30p, g37, g37p, g41, g41p, g48, g48p, g52, g52p, g59, g59p, g68, g68p, g84, g84p, g88, g88p, g90, g90p] <;> simp [bne]))
    exact ⟨by rw [show (fitsP p.its p.length x && altsP p.its p.regions x && fulP p.bs x) = (rfulP x (gB p.bs x.booking)) from by rw [hf, ralts_eq, rful_eq]; simp [g84, g88, g90]], HP.bl⟩
   have g90p := g90
   refine H.s 91 fun a H => ?_
   refine H.v 92 (.bool false) fun a H => H.v 93 (.bool false) fun a H => H.v 94 (.bool false) fun a H => H.v 4 (.bool false) fun a H => ?_
   refine nl (tn (rt ?_))
   refine H.r1 (.bool false) Tryz.results40 ?_
   have hf : fitsP p.its p.length x = true := by (first | (rw [Bool.eq_iff_iff]; (try simp only [fitsP, g20, g20p, g25, g25p, g30, g30p, g37, g37p, g41, g41p, g48, g48p, g52, g52p, g59, g59p, g68, g68p, g84, g84p, g88, g88p, g90, g90p]); (try simp only [Bool.and_eq_true, Bool.or_eq_true, Bool.not_eq_true', Bool.false_eq_true, decide_eq_true_eq, decide_eq_false_iff_not, inR_iff, inR_not, beq_iff_eq, bne_iff_ne, beq_eq_false_iff_ne, ne_eq, Bool.true_and, Bool.and_true, Bool.false_and, Bool.and_false, Bool.true_or, Bool.or_true, Bool.false_or, Bool.or_false, Bool.not_true, Bool.not_false, and_true, true_and, iff_true, true_iff, iff_false, false_iff, or_true, true_or, or_false, false_or, not_true_eq_false, not_false_eq_true, and_false, false_and]); first | omega | (simp; done) | (simp; omega)) | (simp [fitsP, g20, g20p, g25, g25p, g30, g30p, g37, g37p, g41, g41p, g48, g48p, g52, g52p, g59, g59p, g68, g68p, g84, g84p, g88, g88p, g90, g90p]; done) | (simp [fitsP, g20, g20p, g25, g25p, g30, g30p, g37, g37p, g41, g41p, g48, g48p, g52, g52p, g59, g59p, g68, g68p, g84, g84p, g88, g88p, g90, g90p] <;> simp [bne]))
   exact ⟨by rw [show (fitsP p.its p.length x && altsP p.its p.regions x && fulP p.bs x) = (false) from by rw [hf, ralts_eq, rful_eq]; simp [g84, g88, g90]], HP.bl⟩
  have g84p := g84
  iterate 9 refine H.sx rfl fun a H => ?_
  refine H.v 94 (.bool false) fun a H => H.v 4 (.bool false) fun a H => ?_
  refine nl (tn (rt ?_))
  refine H.r1 (.bool false) Tryz.results40 ?_
  have hf : fitsP p.its p.length x = true := by (first | (rw [Bool.eq_iff_iff]; (try simp only [fitsP, g20, g20p, g25, g25p, g30, g30p, g37, g37p, g41, g41p, g48, g48p, g52, g52p, g59, g59p, g68, g68p, g84, g84p]); (try simp only [Bool.and_eq_true, Bool.or_eq_true, Bool.not_eq_true', Bool.false_eq_true, decide_eq_true_eq, decide_eq_false_iff_not, inR_iff, inR_not, beq_iff_eq, bne_iff_ne, beq_eq_false_iff_ne, ne_eq, Bool.true_and, Bool.and_true, Bool.false_and, Bool.and_false, Bool.true_or, Bool.or_true, Bool.false_or, Bool.or_false, Bool.not_true, Bool.not_false, and_true, true_and, iff_true, true_iff, iff_false, false_iff, or_true, true_or, or_false, false_or, not_true_eq_false, not_false_eq_true, and_false, false_and]); first | omega | (simp; done) | (simp; omega)) | (simp [fitsP, g20, g20p, g25, g25p, g30, g30p, g37, g37p, g41, g41p, g48, g48p, g52, g52p, g59, g59p, g68, g68p, g84, g84p]; done) | (simp [fitsP, g20, g20p, g25, g25p, g30, g30p, g37, g37p, g41, g41p, g48, g48p, g52, g52p, g59, g59p, g68, g68p, g84, g84p] <;> simp [bne]))
  exact ⟨by rw [show (fitsP p.its p.length x && altsP p.its p.regions x && fulP p.bs x) = (false) from by rw [hf, ralts_eq, rful_eq]; simp [g84]], HP.bl⟩
 have g41p := eq_of_bne_false g41
 iterate 5 refine H.sx rfl fun a H => ?_
 refine H.v 47 (.bool false) fun a H => H.v 48 (.bool false) fun a H => ?_
 refine nl (tn ?_)
 refine w_iff H rfl ?_
 refine sk (tn (sq (sq (rg ?_))))
 refine H.v 49 (pt b_3 3) fun a H => H.u 50 (ii x.earliest) (ex_l1 (HP.cell 1 rfl 3 rfl)) fun a H => H.v 51 (.bool (decide (x.earliest < 0))) fun a H => H.v 52 (.bool (decide (x.earliest < 0))) fun a H => ?_
 refine H.split 52 rfl (fun g52 H => ?_) (fun g52 H => ?_)
 ·have g52p := of_decide_eq_true g52
  iterate 5 refine H.sx rfl fun a H => ?_
  iterate 2 refine H.vx rfl (.bool true) fun a H => ?_
  iterate 8 refine H.sx rfl fun a H => ?_
  refine H.vx rfl (.bool true) fun a H => ?_
  refine nl (tn ?_)
  refine w_ift H rfl ?_
  refine sq (rg ?_)
  refine H.v 4 (.bool false) fun a H => ?_
  refine nl (tn (rt (tr ?_)))
  refine H.r1 (.bool false) Tryz.results40 ?_
  exact ⟨by rw [show fitsP p.its p.length x = false from by (first | (rw [Bool.eq_iff_iff]; (try simp only [fitsP, g20, g20p, g25, g25p, g30, g30p, g37, g37p, g41, g41p, g52, g52p]); (try simp only [Bool.and_eq_true, Bool.or_eq_true, Bool.not_eq_true', Bool.false_eq_true, decide_eq_true_eq, decide_eq_false_iff_not, inR_iff, inR_not, beq_iff_eq, bne_iff_ne, beq_eq_false_iff_ne, ne_eq, Bool.true_and, Bool.and_true, Bool.false_and, Bool.and_false, Bool.true_or, Bool.or_true, Bool.false_or, Bool.or_false, Bool.not_true, Bool.not_false, and_true, true_and, iff_true, true_iff, iff_false, false_iff, or_true, true_or, or_false, false_or, not_true_eq_false, not_false_eq_true, and_false, false_and]); first | omega | (simp; done) | (simp; omega)) | (simp [fitsP, g20, g20p, g25, g25p, g30, g30p, g37, g37p, g41, g41p, g52, g52p]; done) | (simp [fitsP, g20, g20p, g25, g25p, g30, g30p, g37, g37p, g41, g41p, g52, g52p] <;> simp [bne]))]; rfl, HP.bl⟩
 have g52p := of_decide_eq_false g52
 refine H.v 53 (pt b_3 3) fun a H => H.u 54 (ii x.earliest) (ex_l1 (HP.cell 1 rfl 3 rfl)) fun a H => H.v 55 (pt b_3 4) fun a H => H.u 56 (ii x.latest) (ex_l1 (HP.cell 1 rfl 4 rfl)) fun a H => H.v 57 (.bool (decide (x.earliest > x.latest))) fun a H => H.v 58 (.bool (decide (x.earliest > x.latest))) fun a H => H.v 59 (.bool (decide (x.earliest > x.latest))) fun a H => ?_
 refine H.split 59 rfl (fun g59 H => ?_) (fun g59 H => ?_)
 ·have g59p := of_decide_eq_true g59
  iterate 8 refine H.sx rfl fun a H => ?_
  refine H.vx rfl (.bool true) fun a H => ?_
  refine nl (tn ?_)
  refine w_ift H rfl ?_
  refine sq (rg ?_)
  refine H.v 4 (.bool false) fun a H => ?_
  refine nl (tn (rt (tr ?_)))
  refine H.r1 (.bool false) Tryz.results40 ?_
  exact ⟨by rw [show fitsP p.its p.length x = false from by (first | (rw [Bool.eq_iff_iff]; (try simp only [fitsP, g20, g20p, g25, g25p, g30, g30p, g37, g37p, g41, g41p, g52, g52p, g59, g59p]); (try simp only [Bool.and_eq_true, Bool.or_eq_true, Bool.not_eq_true', Bool.false_eq_true, decide_eq_true_eq, decide_eq_false_iff_not, inR_iff, inR_not, beq_iff_eq, bne_iff_ne, beq_eq_false_iff_ne, ne_eq, Bool.true_and, Bool.and_true, Bool.false_and, Bool.and_false, Bool.true_or, Bool.or_true, Bool.false_or, Bool.or_false, Bool.not_true, Bool.not_false, and_true, true_and, iff_true, true_iff, iff_false, false_iff, or_true, true_or, or_false, false_or, not_true_eq_false, not_false_eq_true, and_false, false_and]); first | omega | (simp; done) | (simp; omega)) | (simp [fitsP, g20, g20p, g25, g25p, g30, g30p, g37, g37p, g41, g41p, g52, g52p, g59, g59p]; done) | (simp [fitsP, g20, g20p, g25, g25p, g30, g30p, g37, g37p, g41, g41p, g52, g52p, g59, g59p] <;> simp [bne]))]; rfl, HP.bl⟩
 have g59p := of_decide_eq_false g59
 refine H.v 60 (pt b_3 4) fun a H => H.u 61 (ii x.latest) (ex_l1 (HP.cell 1 rfl 4 rfl)) fun a H => H.v 62 (pt b_1 7) fun a H => H.u 63 (ii p.length) (ex_l1 (HP.cell 2 rfl 7 rfl)) fun a H => H.v 64 (pt b_3 2) fun a H => H.u 65 (ii x.frames) (ex_l1 (HP.cell 1 rfl 2 rfl)) fun a H => H.valE 66 (ii (IntKind.i64.wrap (p.length - x.frames))) (ii (p.length - x.frames)) (by kernel_rfl) (by kernel_rfl) ((by rw [wrap_ini64 _ (by omega)])) fun a H => H.v 67 (.bool (decide (x.latest > (p.length - x.frames)))) fun a H => H.v 68 (.bool (decide (x.latest > (p.length - x.frames)))) fun a H => ?_
 refine nl (tn ?_)
 refine w_if H rfl (fun g68 => ?_) (fun g68 => ?_)
 ·have g68p := of_decide_eq_true g68
  refine sq (rg ?_)
  refine H.v 4 (.bool false) fun a H => ?_
  refine nl (tn (rt (tr ?_)))
  refine H.r1 (.bool false) Tryz.results40 ?_
  exact ⟨by rw [show fitsP p.its p.length x = false from by (first | (rw [Bool.eq_iff_iff]; (try simp only [fitsP, g20, g20p, g25, g25p, g30, g30p, g37, g37p, g41, g41p, g52, g52p, g59, g59p, g68, g68p]); (try simp only [Bool.and_eq_true, Bool.or_eq_true, Bool.not_eq_true', Bool.false_eq_true, decide_eq_true_eq, decide_eq_false_iff_not, inR_iff, inR_not, beq_iff_eq, bne_iff_ne, beq_eq_false_iff_ne, ne_eq, Bool.true_and, Bool.and_true, Bool.false_and, Bool.and_false, Bool.true_or, Bool.or_true, Bool.false_or, Bool.or_false, Bool.not_true, Bool.not_false, and_true, true_and, iff_true, true_iff, iff_false, false_iff, or_true, true_or, or_false, false_or, not_true_eq_false, not_false_eq_true, and_false, false_and]); first | omega | (simp; done) | (simp; omega)) | (simp [fitsP, g20, g20p, g25, g25p, g30, g30p, g37, g37p, g41, g41p, g52, g52p, g59, g59p, g68, g68p]; done) | (simp [fitsP, g20, g20p, g25, g25p, g30, g30p, g37, g37p, g41, g41p, g52, g52p, g59, g59p, g68, g68p] <;> simp [bne]))]; rfl, HP.bl⟩
 have g68p := of_decide_eq_false g68
 refine sk (tn (sq (rg ?_)))
 refine H.u 70 (plV p) (ex_lN (plL p) (HP.cells 2 rfl 0 13 (by kernel_rfl))) fun a H => H.v 71 (pt b_3 5) fun a H => H.u 72 (ii x.booking) (ex_l1 (HP.cell 1 rfl 5 rfl)) fun a H => H.cb HP 73 (Tryz.call23 _ _) (rbooking_any p x.booking w_8 (hpl.below HP.bl)) fun w_15 hb a H HP => H.v 69 (.tuple #[(bkV (gB p.bs x.booking)), (.bool (hB p.bs x.booking))]) fun a H => H.v 74 (bkV (gB p.bs x.booking)) fun a H => H.v 75 (.bool (hB p.bs x.booking)) fun a H => H.al HP 7 47 [(ii 0), (ii 0), (ii 0), (ii 0), (ii 0), (ii 0), (ii 0)] fun b_16 w_17 a H HP => H.st HP 0 b_16 0 7 47 true (bkV (gB p.bs x.booking)) [bx b_16 47 (bkL (gB p.bs x.booking)) true, bx b_6 38 (itL (gI p.its x.item)) true, bx b_3 43 (enL x) true, bx b_1 32 (plL p) true] rfl fun w_18 a H HP => H.v 8 (.bool (hB p.bs x.booking)) fun a H => ?_
 refine nl (tn (sq (rg ?_)))
 refine H.u 76 (enV x) (ex_lN (enL x) (HP.cells 2 rfl 0 7 (by kernel_rfl))) fun a H => H.u 77 (bkV (gB p.bs x.booking)) (ex_lN (bkL (gB p.bs x.booking)) (HP.cells 0 rfl 0 7 (by kernel_rfl))) fun a H => H.cb HP 78 (Tryz.call77 _ _) (rful_any x (gB p.bs x.booking) w_18 (hx.keep (fun b hb => (HP.bl).block b (hx.1.lt b hb)) (HP.bl).size)) fun w_19 hb a H HP => H.v 9 (.bool (rfulP x (gB p.bs x.booking))) fun a H => ?_
 refine nl (tn (sq (rg ?_)))
 refine H.u 79 (plV p) (ex_lN (plL p) (HP.cells 3 rfl 0 13 (by kernel_rfl))) fun a H => H.u 80 (enV x) (ex_lN (enL x) (HP.cells 2 rfl 0 7 (by kernel_rfl))) fun a H => H.u 81 (itV (gI p.its x.item)) (ex_lN (itL (gI p.its x.item)) (HP.cells 1 rfl 0 5 (by kernel_rfl))) fun a H => H.cb HP 82 (Tryz.call78 _ _) (ralts_any p x (gI p.its x.item) w_19 (hpl.below HP.bl) (hx.keep (fun b hb => (HP.bl).block b (hx.1.lt b hb)) (HP.bl).size)) fun w_20 hb a H HP => H.v 10 (.bool (raltsP p.its p.regions (gI p.its x.item).kind x)) fun a H => ?_
 refine nl (tn (sq (rg ?_)))
 refine H.v 83 (.bool (raltsP p.its p.regions (gI p.its x.item).kind x)) fun a H => H.v 84 (.bool (raltsP p.its p.regions (gI p.its x.item).kind x)) fun a H => ?_
 refine H.split 84 rfl (fun g84 H => ?_) (fun g84 H => ?_)
 ·have g84p := g84
  refine H.v 85 (pt b_3 5) fun a H => H.u 86 (ii x.booking) (ex_l1 (HP.cell 2 rfl 5 rfl)) fun a H => H.v 87 (.bool (x.booking == 0)) fun a H => H.v 88 (.bool (x.booking == 0)) fun a H => ?_
  refine H.split 88 rfl (fun g88 H => ?_) (fun g88 H => ?_)
  ·have g88p := eq_of_beq g88
   iterate 4 refine H.sx rfl fun a H => ?_
   iterate 3 refine H.vx rfl (.bool true) fun a H => ?_
   refine nl (tn (rt ?_))
   refine H.r1 (.bool true) Tryz.results40 ?_
   have hf : fitsP p.its p.length x = true := by (first | (rw [Bool.eq_iff_iff]; (try simp only [fitsP, g20, g20p, g25, g25p, g30, g30p, g37, g37p, g41, g41p, g52, g52p, g59, g59p, g68, g68p, g84, g84p, g88, g88p]); (try simp only [Bool.and_eq_true, Bool.or_eq_true, Bool.not_eq_true', Bool.false_eq_true, decide_eq_true_eq, decide_eq_false_iff_not, inR_iff, inR_not, beq_iff_eq, bne_iff_ne, beq_eq_false_iff_ne, ne_eq, Bool.true_and, Bool.and_true, Bool.false_and, Bool.and_false, Bool.true_or, Bool.or_true, Bool.false_or, Bool.or_false, Bool.not_true, Bool.not_false, and_true, true_and, iff_true, true_iff, iff_false, false_iff, or_true, true_or, or_false, false_or, not_true_eq_false, not_false_eq_true, and_false, false_and]); first | omega | (simp; done) | (simp; omega)) | (simp [fitsP, g20, g20p, g25, g25p, g30, g30p, g37, g37p, g41, g41p, g52, g52p, g59, g59p, g68, g68p, g84, g84p, g88, g88p]; done) | (simp [fitsP, g20, g20p, g25, g25p, g30, g30p, g37, g37p, g41, g41p, g52, g52p, g59, g59p, g68, g68p, g84, g84p, g88, g88p] <;> simp [bne]))
   exact ⟨by rw [show (fitsP p.its p.length x && altsP p.its p.regions x && fulP p.bs x) = (true) from by rw [hf, ralts_eq, rful_eq]; simp [g84, g88]], HP.bl⟩
  have g88p := ne_of_beq_false g88
  refine H.v 89 (.bool (hB p.bs x.booking)) fun a H => H.v 90 (.bool (hB p.bs x.booking)) fun a H => ?_
  refine H.split 90 rfl (fun g90 H => ?_) (fun g90 H => ?_)
  ·have g90p := g90
   refine H.v 91 (.bool (rfulP x (gB p.bs x.booking))) fun a H => H.v 92 (.bool (rfulP x (gB p.bs x.booking))) fun a H => H.v 93 (.bool (rfulP x (gB p.bs x.booking))) fun a H => H.v 94 (.bool (rfulP x (gB p.bs x.booking))) fun a H => H.v 4 (.bool (rfulP x (gB p.bs x.booking))) fun a H => ?_
   refine nl (tn (rt ?_))
   refine H.r1 (.bool (rfulP x (gB p.bs x.booking))) Tryz.results40 ?_
   have hf : fitsP p.its p.length x = true := by (first | (rw [Bool.eq_iff_iff]; (try simp only [fitsP, g20, g20p, g25, g25p, g30, g30p, g37, g37p, g41, g41p, g52, g52p, g59, g59p, g68, g68p, g84, g84p, g88, g88p, g90, g90p]); (try simp only [Bool.and_eq_true, Bool.or_eq_true, Bool.not_eq_true', Bool.false_eq_true, decide_eq_true_eq, decide_eq_false_iff_not, inR_iff, inR_not, beq_iff_eq, bne_iff_ne, beq_eq_false_iff_ne, ne_eq, Bool.true_and, Bool.and_true, Bool.false_and, Bool.and_false, Bool.true_or, Bool.or_true, Bool.false_or, Bool.or_false, Bool.not_true, Bool.not_false, and_true, true_and, iff_true, true_iff, iff_false, false_iff, or_true, true_or, or_false, false_or, not_true_eq_false, not_false_eq_true, and_false, false_and]); first | omega | (simp; done) | (simp; omega)) | (simp [fitsP, g20, g20p, g25, g25p, g30, g30p, g37, g37p, g41, g41p, g52, g52p, g59, g59p, g68, g68p, g84, g84p, g88, g88p, g90, g90p]; done) | (simp [fitsP, g20, g20p, g25, g25p, g30, g30p, g37, g37p, g41, g41p, g52, g52p, g59, g59p, g68, g68p, g84, g84p, g88, g88p, g90, g90p] <;> simp [bne]))
   exact ⟨by rw [show (fitsP p.its p.length x && altsP p.its p.regions x && fulP p.bs x) = (rfulP x (gB p.bs x.booking)) from by rw [hf, ralts_eq, rful_eq]; simp [g84, g88, g90]], HP.bl⟩
  have g90p := g90
  refine H.s 91 fun a H => ?_
  refine H.v 92 (.bool false) fun a H => H.v 93 (.bool false) fun a H => H.v 94 (.bool false) fun a H => H.v 4 (.bool false) fun a H => ?_
  refine nl (tn (rt ?_))
  refine H.r1 (.bool false) Tryz.results40 ?_
  have hf : fitsP p.its p.length x = true := by (first | (rw [Bool.eq_iff_iff]; (try simp only [fitsP, g20, g20p, g25, g25p, g30, g30p, g37, g37p, g41, g41p, g52, g52p, g59, g59p, g68, g68p, g84, g84p, g88, g88p, g90, g90p]); (try simp only [Bool.and_eq_true, Bool.or_eq_true, Bool.not_eq_true', Bool.false_eq_true, decide_eq_true_eq, decide_eq_false_iff_not, inR_iff, inR_not, beq_iff_eq, bne_iff_ne, beq_eq_false_iff_ne, ne_eq, Bool.true_and, Bool.and_true, Bool.false_and, Bool.and_false, Bool.true_or, Bool.or_true, Bool.false_or, Bool.or_false, Bool.not_true, Bool.not_false, and_true, true_and, iff_true, true_iff, iff_false, false_iff, or_true, true_or, or_false, false_or, not_true_eq_false, not_false_eq_true, and_false, false_and]); first | omega | (simp; done) | (simp; omega)) | (simp [fitsP, g20, g20p, g25, g25p, g30, g30p, g37, g37p, g41, g41p, g52, g52p, g59, g59p, g68, g68p, g84, g84p, g88, g88p, g90, g90p]; done) | (simp [fitsP, g20, g20p, g25, g25p, g30, g30p, g37, g37p, g41, g41p, g52, g52p, g59, g59p, g68, g68p, g84, g84p, g88, g88p, g90, g90p] <;> simp [bne]))
  exact ⟨by rw [show (fitsP p.its p.length x && altsP p.its p.regions x && fulP p.bs x) = (false) from by rw [hf, ralts_eq, rful_eq]; simp [g84, g88, g90]], HP.bl⟩
 have g84p := g84
 iterate 9 refine H.sx rfl fun a H => ?_
 refine H.v 94 (.bool false) fun a H => H.v 4 (.bool false) fun a H => ?_
 refine nl (tn (rt ?_))
 refine H.r1 (.bool false) Tryz.results40 ?_
 have hf : fitsP p.its p.length x = true := by (first | (rw [Bool.eq_iff_iff]; (try simp only [fitsP, g20, g20p, g25, g25p, g30, g30p, g37, g37p, g41, g41p, g52, g52p, g59, g59p, g68, g68p, g84, g84p]); (try simp only [Bool.and_eq_true, Bool.or_eq_true, Bool.not_eq_true', Bool.false_eq_true, decide_eq_true_eq, decide_eq_false_iff_not, inR_iff, inR_not, beq_iff_eq, bne_iff_ne, beq_eq_false_iff_ne, ne_eq, Bool.true_and, Bool.and_true, Bool.false_and, Bool.and_false, Bool.true_or, Bool.or_true, Bool.false_or, Bool.or_false, Bool.not_true, Bool.not_false, and_true, true_and, iff_true, true_iff, iff_false, false_iff, or_true, true_or, or_false, false_or, not_true_eq_false, not_false_eq_true, and_false, false_and]); first | omega | (simp; done) | (simp; omega)) | (simp [fitsP, g20, g20p, g25, g25p, g30, g30p, g37, g37p, g41, g41p, g52, g52p, g59, g59p, g68, g68p, g84, g84p]; done) | (simp [fitsP, g20, g20p, g25, g25p, g30, g30p, g37, g37p, g41, g41p, g52, g52p, g59, g59p, g68, g68p, g84, g84p] <;> simp [bne]))
 exact ⟨by rw [show (fitsP p.its p.length x && altsP p.its p.regions x && fulP p.bs x) = (false) from by rw [hf, ralts_eq, rful_eq]; simp [g84]], HP.bl⟩
theorem valid_no {p : Pln} (h : soundP p = true → False) : validPl p = false := by
 unfold validPl; rw [Bool.eq_false_iff]; intro hh; simp only [Bool.and_eq_true] at hh; exact h hh.1.1.1.1
theorem valid_no4 {p : Pln} (h : itsP p.its p.fill = true → bksP p.its p.regions p.bs = true → (p.es.length : Int) ≤ 4000 → (p.cs.length : Int) ≤ 400 → False) : validPl p = false := by
 unfold validPl clsP; rw [Bool.eq_false_iff]; intro hh; simp only [Bool.and_eq_true, decide_eq_true_eq] at hh; exact h hh.1.1.1.2 hh.1.1.2 hh.1.2.1 hh.2.1
theorem valid_no5 {p : Pln} (h : entsP p [] p.es = false) : validPl p = false := by
 unfold validPl; rw [h]; simp
theorem valid_no6 {p : Pln} (h : p.cs.all clP = false) : validPl p = false := by
 unfold validPl clsP; rw [h]; simp
theorem valid_yes {p : Pln} (h1 : soundP p = true) (h2 : itsP p.its p.fill = true) (h3 : bksP p.its p.regions p.bs = true) (h4 : (p.es.length : Int) ≤ 4000) (h5 : entsP p [] p.es = true) (h6 : (p.cs.length : Int) ≤ 400) (h7 : p.cs.all clP = true) : validPl p = true := by
 unfold validPl clsP; rw [h1, h2, h3, h5, h7, decide_eq_true h4, decide_eq_true h6]; rfl
theorem ids_no {l : List Ent} {i j : Nat} {k : Int} (hj : i ≤ j) (h : ∀ y ∈ l.take j, y.id ≠ k) : ((l.take i).map (fun x => x.id)).contains k = false := by
 rw [Bool.eq_false_iff]
 intro hc
 rw [List.contains_iff_mem, List.mem_map] at hc
 obtain ⟨y, hy, e⟩ := hc
 exact h y ((List.take_subset_take_left l hj) hy) e
theorem ids_more {l : List Ent} {j : Nat} {y : Ent} {k : Int} (h : ∀ y ∈ l.take j, y.id ≠ k) (hy : l[j]? = some y) (hk : y.id ≠ k) : ∀ y ∈ l.take (j + 1), y.id ≠ k := by
 rw [take_snoc hy]
 intro z hz
 rcases List.mem_append.1 hz with hz | hz
 ·exact h z hz
 ·rcases List.mem_singleton.1 hz with rfl; exact hk
theorem ids_yes {l : List Ent} {i j : Nat} {y : Ent} {k : Int} (hj : j < i) (hy : l[j]? = some y) (hk : y.id = k) : ((l.take i).map (fun x => x.id)).contains k = true := by
 rw [List.contains_iff_mem, List.mem_map]
 refine ⟨y, ?_, hk⟩
 refine List.mem_of_getElem? (i := j) ?_
 rw [List.getElem?_take_of_lt hj]
 exact hy
theorem ent_no {p : Pln} {x : Ent} {b : Bool} (h : inR x.id 1 1000000 = true → (fitsP p.its p.length x && altsP p.its p.regions x && fulP p.bs x) = true → False) : (entP p x && b) = false := by
 rw [Bool.eq_false_iff]; intro hh; unfold entP at hh; simp only [Bool.and_eq_true] at hh
 exact h hh.1.1.1.1 (by simp only [Bool.and_eq_true]; exact ⟨⟨hh.1.1.1.2, hh.1.1.2⟩, hh.1.2⟩)
theorem rvalid_any (p : Pln) (w : World) (hpl : IsPln w p) : Calls Tryz.prog 15 #[(plV p)] w fun e w' => e = .returned (.bool (validPl p)) ∧ Below w.heap.size w w' := by
 have hl1 := hpl.les
 have hl2 := hpl.lcs
 unfold maxLen at hl1 hl2
 have HP := Hp.start w
 refine w_enter 143 [(0, (plV p))] Tryz.func15 rfl Tryz.ntmps15 (by kernel_rfl) (by kernel_rfl) fun a H => ?_
 refine sq (rg ?_)
 refine H.al HP 1 32 (plL p) fun b_1 w_2 a H HP => H.v 2 (.bool false) fun a H => ?_
 refine nl (tn (sq (rg ?_)))
 refine H.v 13 (pt b_1 1) fun a H => H.u 14 (.agg #[(ii p.num), (ii p.den)]) (ex_lN [(ii p.num), (ii p.den)] (HP.cells 0 rfl 1 2 (by kernel_rfl))) fun a H => H.cb HP 15 (Tryz.call36 _ _) (rvalid3_any p.num p.den w_2) fun w_3 hb a H HP => H.v 3 (.bool (rateOk p.num p.den)) fun a H => ?_
 refine nl (tn (sq (rg ?_)))
 refine H.v 16 (pt b_1 3) fun a H => H.u 17 (.agg #[(ii p.offset), (.slice p.SA p.sh.length p.sc)]) (ex_lN [(ii p.offset), (.slice p.SA p.sh.length p.sc)] (HP.cells 0 rfl 3 2 (by kernel_rfl))) fun a H => H.cb HP 18 (Tryz.call37 _ _) (rzone_any p.offset p.SA p.sc p.sh w_3 (hpl.sh.below HP.bl) hpl.lsh) fun w_4 hb a H HP => H.v 4 (.bool (zoneP p.offset p.sh)) fun a H => ?_
 refine nl (tn (sq (sq (rg ?_))))
 refine H.v 19 (pt b_1 0) fun a H => H.u 20 (ii p.channel) (ex_l1 (HP.cell 0 rfl 0 rfl)) fun a H => H.v 21 (.bool (decide (p.channel < 0))) fun a H => H.v 22 (.bool (decide (p.channel < 0))) fun a H => ?_
 refine H.split 22 rfl (fun g22 H => ?_) (fun g22 H => ?_)
 ·have g22p := of_decide_eq_true g22
  iterate 3 refine H.sx rfl fun a H => ?_
  iterate 2 ((iterate 2 refine H.vx rfl (.bool true) fun a H => ?_); (iterate 2 refine H.sx rfl fun a H => ?_))
  iterate 6 ((iterate 2 refine H.vx rfl (.bool true) fun a H => ?_); (iterate 3 refine H.sx rfl fun a H => ?_))
  refine H.vx rfl (.bool true) fun a H => ?_
  refine nl (tn ?_)
  refine w_ift H rfl ?_
  refine sq (rg ?_)
  refine H.v 2 (.bool false) fun a H => ?_
  refine nl (tn (rt (tr ?_)))
  refine H.r1 (.bool false) Tryz.results15 ?_
  have hv : validPl p = false := valid_no (fun h => by rw [soundP_eq] at h; simp only [Bool.and_eq_true, inR_iff] at h; first | omega | simp_all)
  exact ⟨by rw [hv], HP.bl⟩
 have g22p := of_decide_eq_false g22
 refine H.v 23 (pt b_1 0) fun a H => H.u 24 (ii p.channel) (ex_l1 (HP.cell 0 rfl 0 rfl)) fun a H => H.v 25 (.bool (decide (p.channel ≥ 40))) fun a H => H.v 26 (.bool (decide (p.channel ≥ 40))) fun a H => H.v 27 (.bool (decide (p.channel ≥ 40))) fun a H => ?_
 refine H.split 27 rfl (fun g27 H => ?_) (fun g27 H => ?_)
 ·have g27p := of_decide_eq_true g27
  iterate 2 ((iterate 2 refine H.sx rfl fun a H => ?_); (iterate 2 refine H.vx rfl (.bool true) fun a H => ?_))
  iterate 5 ((iterate 3 refine H.sx rfl fun a H => ?_); (iterate 2 refine H.vx rfl (.bool true) fun a H => ?_))
  iterate 3 refine H.sx rfl fun a H => ?_
  refine H.vx rfl (.bool true) fun a H => ?_
  refine nl (tn ?_)
  refine w_ift H rfl ?_
  refine sq (rg ?_)
  refine H.v 2 (.bool false) fun a H => ?_
  refine nl (tn (rt (tr ?_)))
  refine H.r1 (.bool false) Tryz.results15 ?_
  have hv : validPl p = false := valid_no (fun h => by rw [soundP_eq] at h; simp only [Bool.and_eq_true, inR_iff] at h; first | omega | simp_all)
  exact ⟨by rw [hv], HP.bl⟩
 have g27p := of_decide_eq_false g27
 refine H.v 28 (.bool (rateOk p.num p.den)) fun a H => H.v 29 (.bool (!(rateOk p.num p.den))) fun a H => H.v 30 (.bool (!(rateOk p.num p.den))) fun a H => H.v 31 (.bool (!(rateOk p.num p.den))) fun a H => ?_
 refine H.split 31 rfl (fun g31 H => ?_) (fun g31 H => ?_)
 ·have g31p := not_is_true g31
  iterate 2 refine H.sx rfl fun a H => ?_
  iterate 6 ((iterate 2 refine H.vx rfl (.bool true) fun a H => ?_); (iterate 3 refine H.sx rfl fun a H => ?_))
  refine H.vx rfl (.bool true) fun a H => ?_
  refine nl (tn ?_)
  refine w_ift H rfl ?_
  refine sq (rg ?_)
  refine H.v 2 (.bool false) fun a H => ?_
  refine nl (tn (rt (tr ?_)))
  refine H.r1 (.bool false) Tryz.results15 ?_
  have hv : validPl p = false := valid_no (fun h => by rw [soundP_eq] at h; simp only [Bool.and_eq_true, inR_iff] at h; first | omega | simp_all)
  exact ⟨by rw [hv], HP.bl⟩
 have g31p := not_is_false g31
 refine H.v 32 (.bool (zoneP p.offset p.sh)) fun a H => H.v 33 (.bool (!(zoneP p.offset p.sh))) fun a H => H.v 34 (.bool (!(zoneP p.offset p.sh))) fun a H => H.v 35 (.bool (!(zoneP p.offset p.sh))) fun a H => ?_
 refine H.split 35 rfl (fun g35 H => ?_) (fun g35 H => ?_)
 ·have g35p := not_is_true g35
  iterate 5 ((iterate 3 refine H.sx rfl fun a H => ?_); (iterate 2 refine H.vx rfl (.bool true) fun a H => ?_))
  iterate 3 refine H.sx rfl fun a H => ?_
  refine H.vx rfl (.bool true) fun a H => ?_
  refine nl (tn ?_)
  refine w_ift H rfl ?_
  refine sq (rg ?_)
  refine H.v 2 (.bool false) fun a H => ?_
  refine nl (tn (rt (tr ?_)))
  refine H.r1 (.bool false) Tryz.results15 ?_
  have hv : validPl p = false := valid_no (fun h => by rw [soundP_eq] at h; simp only [Bool.and_eq_true, inR_iff] at h; first | omega | simp_all)
  exact ⟨by rw [hv], HP.bl⟩
 have g35p := not_is_false g35
 refine H.v 36 (pt b_1 5) fun a H => H.u 37 (ii p.epoch) (ex_l1 (HP.cell 0 rfl 5 rfl)) fun a H => H.v 38 (.bool (decide (p.epoch < 0))) fun a H => H.v 39 (.bool (decide (p.epoch < 0))) fun a H => H.v 40 (.bool (decide (p.epoch < 0))) fun a H => ?_
 refine H.split 40 rfl (fun g40 H => ?_) (fun g40 H => ?_)
 ·have g40p := of_decide_eq_true g40
  iterate 4 ((iterate 3 refine H.sx rfl fun a H => ?_); (iterate 2 refine H.vx rfl (.bool true) fun a H => ?_))
  iterate 3 refine H.sx rfl fun a H => ?_
  refine H.vx rfl (.bool true) fun a H => ?_
  refine nl (tn ?_)
  refine w_ift H rfl ?_
  refine sq (rg ?_)
  refine H.v 2 (.bool false) fun a H => ?_
  refine nl (tn (rt (tr ?_)))
  refine H.r1 (.bool false) Tryz.results15 ?_
  have hv : validPl p = false := valid_no (fun h => by rw [soundP_eq] at h; simp only [Bool.and_eq_true, inR_iff] at h; first | omega | simp_all)
  exact ⟨by rw [hv], HP.bl⟩
 have g40p := of_decide_eq_false g40
 refine H.v 41 (pt b_1 5) fun a H => H.u 42 (ii p.epoch) (ex_l1 (HP.cell 0 rfl 5 rfl)) fun a H => H.v 43 (.bool (decide (p.epoch > 9000000000))) fun a H => H.v 44 (.bool (decide (p.epoch > 9000000000))) fun a H => H.v 45 (.bool (decide (p.epoch > 9000000000))) fun a H => ?_
 refine H.split 45 rfl (fun g45 H => ?_) (fun g45 H => ?_)
 ·have g45p := of_decide_eq_true g45
  iterate 3 ((iterate 3 refine H.sx rfl fun a H => ?_); (iterate 2 refine H.vx rfl (.bool true) fun a H => ?_))
  iterate 3 refine H.sx rfl fun a H => ?_
  refine H.vx rfl (.bool true) fun a H => ?_
  refine nl (tn ?_)
  refine w_ift H rfl ?_
  refine sq (rg ?_)
  refine H.v 2 (.bool false) fun a H => ?_
  refine nl (tn (rt (tr ?_)))
  refine H.r1 (.bool false) Tryz.results15 ?_
  have hv : validPl p = false := valid_no (fun h => by rw [soundP_eq] at h; simp only [Bool.and_eq_true, inR_iff] at h; first | omega | simp_all)
  exact ⟨by rw [hv], HP.bl⟩
 have g45p := of_decide_eq_false g45
 refine H.v 46 (pt b_1 6) fun a H => H.u 47 (ii p.regions) (ex_l1 (HP.cell 0 rfl 6 rfl)) fun a H => H.v 48 (.bool (decide (p.regions < 1))) fun a H => H.v 49 (.bool (decide (p.regions < 1))) fun a H => H.v 50 (.bool (decide (p.regions < 1))) fun a H => ?_
 refine H.split 50 rfl (fun g50 H => ?_) (fun g50 H => ?_)
 ·have g50p := of_decide_eq_true g50
  iterate 2 ((iterate 3 refine H.sx rfl fun a H => ?_); (iterate 2 refine H.vx rfl (.bool true) fun a H => ?_))
  iterate 3 refine H.sx rfl fun a H => ?_
  refine H.vx rfl (.bool true) fun a H => ?_
  refine nl (tn ?_)
  refine w_ift H rfl ?_
  refine sq (rg ?_)
  refine H.v 2 (.bool false) fun a H => ?_
  refine nl (tn (rt (tr ?_)))
  refine H.r1 (.bool false) Tryz.results15 ?_
  have hv : validPl p = false := valid_no (fun h => by rw [soundP_eq] at h; simp only [Bool.and_eq_true, inR_iff] at h; first | omega | simp_all)
  exact ⟨by rw [hv], HP.bl⟩
 have g50p := of_decide_eq_false g50
 refine H.v 51 (pt b_1 6) fun a H => H.u 52 (ii p.regions) (ex_l1 (HP.cell 0 rfl 6 rfl)) fun a H => H.v 53 (.bool (decide (p.regions > 8))) fun a H => H.v 54 (.bool (decide (p.regions > 8))) fun a H => H.v 55 (.bool (decide (p.regions > 8))) fun a H => ?_
 refine H.split 55 rfl (fun g55 H => ?_) (fun g55 H => ?_)
 ·have g55p := of_decide_eq_true g55
  iterate 3 refine H.sx rfl fun a H => ?_
  iterate 2 refine H.vx rfl (.bool true) fun a H => ?_
  iterate 3 refine H.sx rfl fun a H => ?_
  refine H.vx rfl (.bool true) fun a H => ?_
  refine nl (tn ?_)
  refine w_ift H rfl ?_
  refine sq (rg ?_)
  refine H.v 2 (.bool false) fun a H => ?_
  refine nl (tn (rt (tr ?_)))
  refine H.r1 (.bool false) Tryz.results15 ?_
  have hv : validPl p = false := valid_no (fun h => by rw [soundP_eq] at h; simp only [Bool.and_eq_true, inR_iff] at h; first | omega | simp_all)
  exact ⟨by rw [hv], HP.bl⟩
 have g55p := of_decide_eq_false g55
 refine H.v 56 (pt b_1 7) fun a H => H.u 57 (ii p.length) (ex_l1 (HP.cell 0 rfl 7 rfl)) fun a H => H.v 58 (.bool (decide (p.length < 1))) fun a H => H.v 59 (.bool (decide (p.length < 1))) fun a H => H.v 60 (.bool (decide (p.length < 1))) fun a H => ?_
 refine H.split 60 rfl (fun g60 H => ?_) (fun g60 H => ?_)
 ·have g60p := of_decide_eq_true g60
  iterate 3 refine H.sx rfl fun a H => ?_
  refine H.vx rfl (.bool true) fun a H => ?_
  refine nl (tn ?_)
  refine w_ift H rfl ?_
  refine sq (rg ?_)
  refine H.v 2 (.bool false) fun a H => ?_
  refine nl (tn (rt (tr ?_)))
  refine H.r1 (.bool false) Tryz.results15 ?_
  have hv : validPl p = false := valid_no (fun h => by rw [soundP_eq] at h; simp only [Bool.and_eq_true, inR_iff] at h; first | omega | simp_all)
  exact ⟨by rw [hv], HP.bl⟩
 have g60p := of_decide_eq_false g60
 refine H.v 61 (pt b_1 7) fun a H => H.u 62 (ii p.length) (ex_l1 (HP.cell 0 rfl 7 rfl)) fun a H => H.v 63 (.bool (decide (p.length > 100000000))) fun a H => H.v 64 (.bool (decide (p.length > 100000000))) fun a H => ?_
 refine nl (tn ?_)
 refine w_if H rfl (fun g64 => ?_) (fun g64 => ?_)
 ·have g64p := of_decide_eq_true g64
  refine sq (rg ?_)
  refine H.v 2 (.bool false) fun a H => ?_
  refine nl (tn (rt (tr ?_)))
  refine H.r1 (.bool false) Tryz.results15 ?_
  have hv : validPl p = false := valid_no (fun h => by rw [soundP_eq] at h; simp only [Bool.and_eq_true, inR_iff] at h; first | omega | simp_all)
  exact ⟨by rw [hv], HP.bl⟩
 have g64p := of_decide_eq_false g64
 refine sk (tn (sq ?_))
 have hs : soundP p = true := by rw [soundP_eq]; simp only [Bool.and_eq_true, inR_iff]; exact ⟨⟨⟨⟨⟨by omega, by assumption⟩, by assumption⟩, by omega⟩, by omega⟩, by omega⟩
 refine rg ?_
 refine H.u 65 (plV p) (ex_lN (plL p) (HP.cells 0 rfl 0 13 (by kernel_rfl))) fun a H => H.cb HP 66 (Tryz.call38 _ _) (ritems_any p w_4 (hpl.below HP.bl)) fun w_5 hb a H HP => H.v 5 (.bool (itsP p.its p.fill)) fun a H => ?_
 refine nl (tn (sq (rg ?_)))
 refine H.u 67 (plV p) (ex_lN (plL p) (HP.cells 0 rfl 0 13 (by kernel_rfl))) fun a H => H.cb HP 68 (Tryz.call39 _ _) (rbookings_any p w_5 (hpl.below HP.bl)) fun w_6 hb a H HP => H.v 6 (.bool (bksP p.its p.regions p.bs)) fun a H => ?_
 refine nl (tn (sq (sq (rg ?_))))
 refine H.v 69 (.bool (itsP p.its p.fill)) fun a H => H.v 70 (.bool (!(itsP p.its p.fill))) fun a H => H.v 71 (.bool (!(itsP p.its p.fill))) fun a H => ?_
 refine H.split 71 rfl (fun g71 H => ?_) (fun g71 H => ?_)
 ·have g71p := not_is_true g71
  iterate 2 refine H.sx rfl fun a H => ?_
  iterate 2 ((iterate 2 refine H.vx rfl (.bool true) fun a H => ?_); (iterate 4 refine H.sx rfl fun a H => ?_))
  refine H.vx rfl (.bool true) fun a H => ?_
  refine nl (tn ?_)
  refine w_ift H rfl ?_
  refine sq (rg ?_)
  refine H.v 2 (.bool false) fun a H => ?_
  refine nl (tn (rt (tr ?_)))
  refine H.r1 (.bool false) Tryz.results15 ?_
  have hv : validPl p = false := valid_no4 (fun h1 h2 h3 h4 => by first | omega | simp_all)
  exact ⟨by rw [hv], HP.bl⟩
 have g71p := not_is_false g71
 refine H.v 72 (.bool (bksP p.its p.regions p.bs)) fun a H => H.v 73 (.bool (!(bksP p.its p.regions p.bs))) fun a H => H.v 74 (.bool (!(bksP p.its p.regions p.bs))) fun a H => H.v 75 (.bool (!(bksP p.its p.regions p.bs))) fun a H => ?_
 refine H.split 75 rfl (fun g75 H => ?_) (fun g75 H => ?_)
 ·have g75p := not_is_true g75
  iterate 4 refine H.sx rfl fun a H => ?_
  iterate 2 refine H.vx rfl (.bool true) fun a H => ?_
  iterate 4 refine H.sx rfl fun a H => ?_
  refine H.vx rfl (.bool true) fun a H => ?_
  refine nl (tn ?_)
  refine w_ift H rfl ?_
  refine sq (rg ?_)
  refine H.v 2 (.bool false) fun a H => ?_
  refine nl (tn (rt (tr ?_)))
  refine H.r1 (.bool false) Tryz.results15 ?_
  have hv : validPl p = false := valid_no4 (fun h1 h2 h3 h4 => by first | omega | simp_all)
  exact ⟨by rw [hv], HP.bl⟩
 have g75p := not_is_false g75
 refine H.v 76 (pt b_1 10) fun a H => H.u 77 (.slice p.EA p.es.length p.ec) (ex_l1 (HP.cell 0 rfl 10 rfl)) fun a H => H.v 78 (ii p.es.length) fun a H => H.v 79 (.bool (decide ((p.es.length : Int) > 4000))) fun a H => H.v 80 (.bool (decide ((p.es.length : Int) > 4000))) fun a H => H.v 81 (.bool (decide ((p.es.length : Int) > 4000))) fun a H => ?_
 refine H.split 81 rfl (fun g81 H => ?_) (fun g81 H => ?_)
 ·have g81p := of_decide_eq_true g81
  iterate 4 refine H.sx rfl fun a H => ?_
  refine H.vx rfl (.bool true) fun a H => ?_
  refine nl (tn ?_)
  refine w_ift H rfl ?_
  refine sq (rg ?_)
  refine H.v 2 (.bool false) fun a H => ?_
  refine nl (tn (rt (tr ?_)))
  refine H.r1 (.bool false) Tryz.results15 ?_
  have hv : validPl p = false := valid_no4 (fun h1 h2 h3 h4 => by first | omega | simp_all)
  exact ⟨by rw [hv], HP.bl⟩
 have g81p := of_decide_eq_false g81
 refine H.v 82 (pt b_1 12) fun a H => H.u 83 (.slice p.CA p.cs.length p.cc) (ex_l1 (HP.cell 0 rfl 12 rfl)) fun a H => H.v 84 (ii p.cs.length) fun a H => H.v 85 (.bool (decide ((p.cs.length : Int) > 400))) fun a H => H.v 86 (.bool (decide ((p.cs.length : Int) > 400))) fun a H => ?_
 refine nl (tn ?_)
 refine w_if H rfl (fun g86 => ?_) (fun g86 => ?_)
 ·have g86p := of_decide_eq_true g86
  refine sq (rg ?_)
  refine H.v 2 (.bool false) fun a H => ?_
  refine nl (tn (rt (tr ?_)))
  refine H.r1 (.bool false) Tryz.results15 ?_
  have hv : validPl p = false := valid_no4 (fun h1 h2 h3 h4 => by first | omega | simp_all)
  exact ⟨by rw [hv], HP.bl⟩
 have g86p := of_decide_eq_false g86
 refine sk (tn (sq (sq ?_)))
 have hits : itsP p.its p.fill = true := by assumption
 have hbks : bksP p.its p.regions p.bs = true := by assumption
 refine rg ?_
 refine H.v 7 (ii 0) fun a H => ?_
 refine nl (tn (bk ?_))
 refine w_loop (fun mm a wv => ∃ (i : Nat), p.es.length - i = mm ∧ Sl 143 [(7, (ii i)), (86, (.bool (decide ((p.cs.length : Int) > 400)))), (85, (.bool (decide ((p.cs.length : Int) > 400)))), (84, (ii p.cs.length)), (83, (.slice p.CA p.cs.length p.cc)), (82, (pt b_1 12)), (81, (.bool false)), (80, (.bool (decide ((p.es.length : Int) > 4000)))), (79, (.bool (decide ((p.es.length : Int) > 4000)))), (78, (ii p.es.length)), (77, (.slice p.EA p.es.length p.ec)), (76, (pt b_1 10)), (75, (.bool false)), (74, (.bool (!(bksP p.its p.regions p.bs)))), (73, (.bool (!(bksP p.its p.regions p.bs)))), (72, (.bool (bksP p.its p.regions p.bs))), (71, (.bool false)), (70, (.bool (!(itsP p.its p.fill)))), (69, (.bool (itsP p.its p.fill))), (6, (.bool (bksP p.its p.regions p.bs))), (68, (.bool (bksP p.its p.regions p.bs))), (67, (plV p)), (5, (.bool (itsP p.its p.fill))), (66, (.bool (itsP p.its p.fill))), (65, (plV p)), (64, (.bool (decide (p.length > 100000000)))), (63, (.bool (decide (p.length > 100000000)))), (62, (ii p.length)), (61, (pt b_1 7)), (60, (.bool false)), (59, (.bool (decide (p.length < 1)))), (58, (.bool (decide (p.length < 1)))), (57, (ii p.length)), (56, (pt b_1 7)), (55, (.bool false)), (54, (.bool (decide (p.regions > 8)))), (53, (.bool (decide (p.regions > 8)))), (52, (ii p.regions)), (51, (pt b_1 6)), (50, (.bool false)), (49, (.bool (decide (p.regions < 1)))), (48, (.bool (decide (p.regions < 1)))), (47, (ii p.regions)), (46, (pt b_1 6)), (45, (.bool false)), (44, (.bool (decide (p.epoch > 9000000000)))), (43, (.bool (decide (p.epoch > 9000000000)))), (42, (ii p.epoch)), (41, (pt b_1 5)), (40, (.bool false)), (39, (.bool (decide (p.epoch < 0)))), (38, (.bool (decide (p.epoch < 0)))), (37, (ii p.epoch)), (36, (pt b_1 5)), (35, (.bool false)), (34, (.bool (!(zoneP p.offset p.sh)))), (33, (.bool (!(zoneP p.offset p.sh)))), (32, (.bool (zoneP p.offset p.sh))), (31, (.bool false)), (30, (.bool (!(rateOk p.num p.den)))), (29, (.bool (!(rateOk p.num p.den)))), (28, (.bool (rateOk p.num p.den))), (27, (.bool false)), (26, (.bool (decide (p.channel ≥ 40)))), (25, (.bool (decide (p.channel ≥ 40)))), (24, (ii p.channel)), (23, (pt b_1 0)), (22, (.bool false)), (21, (.bool (decide (p.channel < 0)))), (20, (ii p.channel)), (19, (pt b_1 0)), (4, (.bool (zoneP p.offset p.sh))), (18, (.bool (zoneP p.offset p.sh))), (17, (.agg #[(ii p.offset), (.slice p.SA p.sh.length p.sc)])), (16, (pt b_1 3)), (3, (.bool (rateOk p.num p.den))), (15, (.bool (rateOk p.num p.den))), (14, (.agg #[(ii p.num), (ii p.den)])), (13, (pt b_1 1)), (1, (pt b_1 0)), (0, (plV p))] a ∧ Hp w wv [bx b_1 32 (plL p) true] [] ∧ (i ≤ p.es.length) ∧ (entsP p [] p.es = entsP p ((p.es.take i).map (fun x => x.id)) (p.es.drop i))) (p.es.length - 0) ?_ ?_
 ·exact ⟨0, (by omega), H.keep (by kernel_rfl), HP, (Nat.zero_le _), rfl⟩
 rintro mm a w_7 ⟨i, hmeas, H, HP, hib, hrel⟩
 refine sq (sq (rg ?_))
 refine H.v 87 (ii i) fun a H => H.v 88 (pt b_1 10) fun a H => H.u 89 (.slice p.EA p.es.length p.ec) (ex_l1 (HP.cell 0 rfl 10 rfl)) fun a H => H.v 90 (ii p.es.length) fun a H => H.v 91 (.bool (decide ((i : Int) < (p.es.length : Int)))) fun a H => ?_
 refine nl (tn ?_)
 refine w_if H rfl (fun g91 => ?_) (fun g91 => ?_)
 ·have g91p := of_decide_eq_true g91
  refine sk (tn (sq (bk (sq ?_))))
  obtain ⟨bu_9, ou_10, x_8, hA_11, _, hd_13, hx_12, hm_14, _⟩ := IsRow.get enC_size (hpl.es.row.below HP.bl) (i := i) (by omega)
  refine rg ?_
  refine H.v 94 (pt b_1 10) fun a H => H.u 95 (.slice p.EA p.es.length p.ec) (ex_l1 (HP.cell 0 rfl 10 rfl)) fun a H => H.v 96 (ii i) fun a H => H.u 97 (.pointer (some ⟨bu_9, ou_10 + i * 7, none⟩)) (ex_indexA (b := bu_9) (off := ou_10) (len := p.es.length) (cap := p.ec) (e := 43) (k := 7) (ik := .i64) (i := (i : Int)) (m := i) hA_11 (by kernel_rfl) (by kernel_rfl) (by omega) (by omega) (by kernel_rfl) (by kernel_rfl)) fun a H => H.u 98 (enV x_8) (ex_lN (enL x_8) (IsRow.cells enC_size (hpl.es.row.below HP.bl) hA_11 hx_12)) fun a H => H.al HP 8 43 [(ii 0), (ii 0), (ii 0), (ii 0), (ii 0), (ii 0), (.slice none 0 0)] fun b_15 w_16 a H HP => H.st HP 0 b_15 0 7 43 true (enV x_8) [bx b_15 43 (enL x_8) true, bx b_1 32 (plL p) true] rfl fun w_17 a H HP => ?_
  refine nl (tn (sq (rg ?_)))
  refine H.u 99 (plV p) (ex_lN (plL p) (HP.cells 1 rfl 0 13 (by kernel_rfl))) fun a H => H.u 100 (enV x_8) (ex_lN (enL x_8) (HP.cells 0 rfl 0 7 (by kernel_rfl))) fun a H => H.cb HP 101 (Tryz.call40 _ _) (rentryP_any p x_8 w_17 (hpl.below HP.bl) ((hpl.below HP.bl).es.ok _ hm_14) (sound_facts hs).2 (its_facts hits)) fun w_18 hb a H HP => H.v 9 (.bool (fitsP p.its p.length x_8 && altsP p.its p.regions x_8 && fulP p.bs x_8)) fun a H => ?_
  refine nl (tn (sq (sq (rg ?_))))
  refine H.v 102 (.bool (fitsP p.its p.length x_8 && altsP p.its p.regions x_8 && fulP p.bs x_8)) fun a H => H.v 103 (.bool (!(fitsP p.its p.length x_8 && altsP p.its p.regions x_8 && fulP p.bs x_8))) fun a H => H.v 104 (.bool (!(fitsP p.its p.length x_8 && altsP p.its p.regions x_8 && fulP p.bs x_8))) fun a H => ?_
  refine H.split 104 rfl (fun g104 H => ?_) (fun g104 H => ?_)
  ·have g104p := not_is_true g104
   iterate 3 refine H.sx rfl fun a H => ?_
   iterate 2 refine H.vx rfl (.bool true) fun a H => ?_
   iterate 3 refine H.sx rfl fun a H => ?_
   refine H.vx rfl (.bool true) fun a H => ?_
   refine nl (tn ?_)
   refine w_ift H rfl ?_
   refine sq (rg ?_)
   refine H.v 2 (.bool false) fun a H => ?_
   refine nl (tn (rt (tr (ibr (tr (tr (ibr (tr ?_))))))))
   refine H.r1 (.bool false) Tryz.results15 ?_
   have hb0 : (entP p x_8 && !(((p.es.take i).map (fun x => x.id))).contains x_8.id) = false := ent_no (fun h1 h2 => by rw [inR_iff] at h1; first | omega | simp_all)
   have hv : validPl p = false := valid_no5 (by rw [hrel, hd_13, entsP, hb0]; rfl)
   exact ⟨by rw [hv], HP.bl⟩
  have g104p := not_is_false g104
  refine H.v 105 (pt b_15 0) fun a H => H.u 106 (ii x_8.id) (ex_l1 (HP.cell 0 rfl 0 rfl)) fun a H => H.v 107 (.bool (decide (x_8.id < 1))) fun a H => H.v 108 (.bool (decide (x_8.id < 1))) fun a H => H.v 109 (.bool (decide (x_8.id < 1))) fun a H => ?_
  refine H.split 109 rfl (fun g109 H => ?_) (fun g109 H => ?_)
  ·have g109p := of_decide_eq_true g109
   iterate 3 refine H.sx rfl fun a H => ?_
   refine H.vx rfl (.bool true) fun a H => ?_
   refine nl (tn ?_)
   refine w_ift H rfl ?_
   refine sq (rg ?_)
   refine H.v 2 (.bool false) fun a H => ?_
   refine nl (tn (rt (tr (ibr (tr (tr (ibr (tr ?_))))))))
   refine H.r1 (.bool false) Tryz.results15 ?_
   have hb0 : (entP p x_8 && !(((p.es.take i).map (fun x => x.id))).contains x_8.id) = false := ent_no (fun h1 h2 => by rw [inR_iff] at h1; first | omega | simp_all)
   have hv : validPl p = false := valid_no5 (by rw [hrel, hd_13, entsP, hb0]; rfl)
   exact ⟨by rw [hv], HP.bl⟩
  have g109p := of_decide_eq_false g109
  refine H.v 110 (pt b_15 0) fun a H => H.u 111 (ii x_8.id) (ex_l1 (HP.cell 0 rfl 0 rfl)) fun a H => H.v 112 (.bool (decide (x_8.id > 1000000))) fun a H => H.v 113 (.bool (decide (x_8.id > 1000000))) fun a H => ?_
  refine nl (tn ?_)
  refine w_if H rfl (fun g113 => ?_) (fun g113 => ?_)
  ·have g113p := of_decide_eq_true g113
   refine sq (rg ?_)
   refine H.v 2 (.bool false) fun a H => ?_
   refine nl (tn (rt (tr (ibr (tr (tr (ibr (tr ?_))))))))
   refine H.r1 (.bool false) Tryz.results15 ?_
   have hb0 : (entP p x_8 && !(((p.es.take i).map (fun x => x.id))).contains x_8.id) = false := ent_no (fun h1 h2 => by rw [inR_iff] at h1; first | omega | simp_all)
   have hv : validPl p = false := valid_no5 (by rw [hrel, hd_13, entsP, hb0]; rfl)
   exact ⟨by rw [hv], HP.bl⟩
  have g113p := of_decide_eq_false g113
  refine sk (tn (sq ?_))
  have hep : entP p x_8 = true := by unfold entP; rw [show inR x_8.id 1 1000000 = true from inR_iff.2 (by omega), Bool.true_and]; assumption
  refine rg ?_
  refine H.v 10 (ii 0) fun a H => ?_
  refine nl (tn (bk ?_))
  refine w_loop (fun mm a wv => ∃ (j : Nat), i - j = mm ∧ Sl 143 [(10, (ii j)), (113, (.bool (decide (x_8.id > 1000000)))), (112, (.bool (decide (x_8.id > 1000000)))), (111, (ii x_8.id)), (110, (pt b_15 0)), (109, (.bool false)), (108, (.bool (decide (x_8.id < 1)))), (107, (.bool (decide (x_8.id < 1)))), (106, (ii x_8.id)), (105, (pt b_15 0)), (104, (.bool false)), (103, (.bool (!(fitsP p.its p.length x_8 && altsP p.its p.regions x_8 && fulP p.bs x_8)))), (102, (.bool (fitsP p.its p.length x_8 && altsP p.its p.regions x_8 && fulP p.bs x_8))), (9, (.bool (fitsP p.its p.length x_8 && altsP p.its p.regions x_8 && fulP p.bs x_8))), (101, (.bool (fitsP p.its p.length x_8 && altsP p.its p.regions x_8 && fulP p.bs x_8))), (100, (enV x_8)), (99, (plV p)), (8, (pt b_15 0)), (98, (enV x_8)), (97, (.pointer (some ⟨bu_9, ou_10 + i * 7, none⟩))), (96, (ii i)), (95, (.slice p.EA p.es.length p.ec)), (94, (pt b_1 10)), (91, (.bool (decide ((i : Int) < (p.es.length : Int))))), (90, (ii p.es.length)), (89, (.slice p.EA p.es.length p.ec)), (88, (pt b_1 10)), (87, (ii i)), (7, (ii i)), (86, (.bool (decide ((p.cs.length : Int) > 400)))), (85, (.bool (decide ((p.cs.length : Int) > 400)))), (84, (ii p.cs.length)), (83, (.slice p.CA p.cs.length p.cc)), (82, (pt b_1 12)), (81, (.bool false)), (80, (.bool (decide ((p.es.length : Int) > 4000)))), (79, (.bool (decide ((p.es.length : Int) > 4000)))), (78, (ii p.es.length)), (77, (.slice p.EA p.es.length p.ec)), (76, (pt b_1 10)), (75, (.bool false)), (74, (.bool (!(bksP p.its p.regions p.bs)))), (73, (.bool (!(bksP p.its p.regions p.bs)))), (72, (.bool (bksP p.its p.regions p.bs))), (71, (.bool false)), (70, (.bool (!(itsP p.its p.fill)))), (69, (.bool (itsP p.its p.fill))), (6, (.bool (bksP p.its p.regions p.bs))), (68, (.bool (bksP p.its p.regions p.bs))), (67, (plV p)), (5, (.bool (itsP p.its p.fill))), (66, (.bool (itsP p.its p.fill))), (65, (plV p)), (64, (.bool (decide (p.length > 100000000)))), (63, (.bool (decide (p.length > 100000000)))), (62, (ii p.length)), (61, (pt b_1 7)), (60, (.bool false)), (59, (.bool (decide (p.length < 1)))), (58, (.bool (decide (p.length < 1)))), (57, (ii p.length)), (56, (pt b_1 7)), (55, (.bool false)), (54, (.bool (decide (p.regions > 8)))), (53, (.bool (decide (p.regions > 8)))), (52, (ii p.regions)), (51, (pt b_1 6)), (50, (.bool false)), (49, (.bool (decide (p.regions < 1)))), (48, (.bool (decide (p.regions < 1)))), (47, (ii p.regions)), (46, (pt b_1 6)), (45, (.bool false)), (44, (.bool (decide (p.epoch > 9000000000)))), (43, (.bool (decide (p.epoch > 9000000000)))), (42, (ii p.epoch)), (41, (pt b_1 5)), (40, (.bool false)), (39, (.bool (decide (p.epoch < 0)))), (38, (.bool (decide (p.epoch < 0)))), (37, (ii p.epoch)), (36, (pt b_1 5)), (35, (.bool false)), (34, (.bool (!(zoneP p.offset p.sh)))), (33, (.bool (!(zoneP p.offset p.sh)))), (32, (.bool (zoneP p.offset p.sh))), (31, (.bool false)), (30, (.bool (!(rateOk p.num p.den)))), (29, (.bool (!(rateOk p.num p.den)))), (28, (.bool (rateOk p.num p.den))), (27, (.bool false)), (26, (.bool (decide (p.channel ≥ 40)))), (25, (.bool (decide (p.channel ≥ 40)))), (24, (ii p.channel)), (23, (pt b_1 0)), (22, (.bool false)), (21, (.bool (decide (p.channel < 0)))), (20, (ii p.channel)), (19, (pt b_1 0)), (4, (.bool (zoneP p.offset p.sh))), (18, (.bool (zoneP p.offset p.sh))), (17, (.agg #[(ii p.offset), (.slice p.SA p.sh.length p.sc)])), (16, (pt b_1 3)), (3, (.bool (rateOk p.num p.den))), (15, (.bool (rateOk p.num p.den))), (14, (.agg #[(ii p.num), (ii p.den)])), (13, (pt b_1 1)), (1, (pt b_1 0)), (0, (plV p))] a ∧ Hp w wv [bx b_15 43 (enL x_8) true, bx b_1 32 (plL p) true] [] ∧ (j ≤ i) ∧ (∀ y ∈ p.es.take j, y.id ≠ x_8.id)) (i - 0) ?_ ?_
  ·exact ⟨0, (by omega), H.keep (by kernel_rfl), HP, (Nat.zero_le _), (fun y hy => by cases hy)⟩
  rintro mm a w_19 ⟨j, hmeas, H, HP, hibj, hno⟩
  refine sq (sq (rg ?_))
  refine H.v 114 (ii j) fun a H => H.v 115 (ii i) fun a H => H.v 116 (.bool (decide ((j : Int) < (i : Int)))) fun a H => ?_
  refine nl (tn ?_)
  refine w_if H rfl (fun g116 => ?_) (fun g116 => ?_)
  ·have g116p := of_decide_eq_true g116
   refine sk (tn (sq (bk (sq ?_))))
   obtain ⟨bu_21, ou_22, x_20, hA_23, _, hd_25, hx_24, hm_26, _⟩ := IsRow.get enC_size (hpl.es.row.below HP.bl) (i := j) (by omega)
   refine An.start (fun v => Hp w v [bx b_15 43 (enL x_8) true, bx b_1 32 (plL p) true] []) 9 9 HP wide_follows rfl fun w_27 HP => ?_
   refine An.p H (.inr HP) 0 119 (pt b_1 10) fun a H => ?_
   refine An.vw H (HP) 1 120 (.slice p.EA p.es.length p.ec) (fun _ hS => ex_l1 (hS.cell 1 rfl 10 rfl)) fun a H => ?_
   refine An.p H (.inr HP) 2 121 (ii j) fun a H => ?_
   refine An.q H (.inr (HP)) 3 122 (.pointer (some ⟨bu_21, ou_22 + j * 7, none⟩)) (fun _ => ex_indexA (b := bu_21) (off := ou_22) (len := p.es.length) (cap := p.ec) (e := 43) (k := 7) (ik := .i64) (i := (j : Int)) (m := j) hA_23 (by kernel_rfl) (by kernel_rfl) (by omega) (by omega) (by kernel_rfl) (by kernel_rfl)) fun a H => ?_
   refine An.p H (.inr HP) 4 123 (.pointer (some ⟨bu_21, ou_22 + j * 7, none⟩)) fun a H => ?_
   refine An.vw H (HP) 5 124 (ii x_20.id) (fun _ hS => ex_l1 (IsRow.cells enC_size (hpl.es.row.below (hS.below (by kernel_rfl))) hA_23 hx_24 0 _ rfl)) fun a H => ?_
   refine An.p H (.inr HP) 6 125 (pt b_15 0) fun a H => ?_
   refine An.vw H (HP) 7 126 (ii x_8.id) (fun _ hS => ex_l1 (hS.cell 0 rfl 0 rfl)) fun a H => ?_
   refine An.p H (.inr HP) 8 127 (.bool (x_20.id == x_8.id)) fun a H => ?_
   refine An.done (by kernel_rfl) ?_
   refine tn ?_
   refine w_if H rfl (fun g127 => ?_) (fun g127 => ?_)
   ·have g127p := eq_of_beq g127
    refine sq (rg ?_)
    refine H.v 2 (.bool false) fun a H => ?_
    refine nl (tn (rt (ibr (tr (tr (ibr (ibr (tr (tr (ibr (tr ?_)))))))))))
    refine H.r1 (.bool false) Tryz.results15 ?_
    have hb0 : (entP p x_8 && !(((p.es.take i).map (fun x => x.id))).contains x_8.id) = false := by rw [ids_yes (i := i) (by omega) hx_24 (by assumption)]; simp
    have hv : validPl p = false := valid_no5 (by rw [hrel, hd_13, entsP, hb0]; rfl)
    exact ⟨by rw [hv], HP.bl⟩
   have g127p := ne_of_beq_false g127
   refine sk (ibn (tn (rg ?_)))
   refine H.v 117 (ii j) fun a H => H.valE 118 (ii (IntKind.i64.wrap ((j : Int) + 1))) (ii ((j : Int) + 1)) (by kernel_rfl) (by kernel_rfl) ((by rw [wrap_ini64 _ (by omega)])) fun a H => H.v 10 (ii ((j : Int) + 1)) fun a H => ?_
   refine nl (tn ?_)
   have H := H.as 10 (ii ((j + 1 : Nat) : Int)) rfl rfl
   refine ⟨_, ?_, j + 1, rfl, H.keep (by kernel_rfl), HP, (by omega), (ids_more hno hx_24 (by assumption))⟩
   omega
  have g116p := of_decide_eq_false g116
  refine wp_exit (then_exit (then_exit ?_))
  refine w_exit_here ?_
  refine ibn (tn (rg ?_))
  refine H.v 92 (ii i) fun a H => H.valE 93 (ii (IntKind.i64.wrap ((i : Int) + 1))) (ii ((i : Int) + 1)) (by kernel_rfl) (by kernel_rfl) ((by rw [wrap_ini64 _ (by omega)])) fun a H => H.v 7 (ii ((i : Int) + 1)) fun a H => ?_
  refine nl (tn ?_)
  have H := H.as 7 (ii ((i + 1 : Nat) : Int)) rfl rfl
  refine ⟨_, ?_, i + 1, rfl, H.keep (by kernel_rfl), (HP.tail rfl), (by omega), (by rw [hrel, hd_13, entsP, hep, ids_snoc hx_12, ids_no (by omega) hno]; rfl)⟩
  omega
 have g91p := of_decide_eq_false g91
 refine wp_exit (then_exit (then_exit ?_))
 refine w_exit_here ?_
 refine tn (sq (sq ?_))
 have hes : entsP p [] p.es = true := by rw [hrel, List.drop_eq_nil_of_le (by omega)]; rfl
 refine rg ?_
 refine H.v 11 (ii 0) fun a H => ?_
 refine nl (tn (bk ?_))
 refine w_loop (fun mm a wv => ∃ (l : Nat), p.cs.length - l = mm ∧ Sl 143 [(11, (ii l)), (91, (.bool (decide ((i : Int) < (p.es.length : Int))))), (90, (ii p.es.length)), (89, (.slice p.EA p.es.length p.ec)), (88, (pt b_1 10)), (87, (ii i)), (7, (ii i)), (86, (.bool (decide ((p.cs.length : Int) > 400)))), (85, (.bool (decide ((p.cs.length : Int) > 400)))), (84, (ii p.cs.length)), (83, (.slice p.CA p.cs.length p.cc)), (82, (pt b_1 12)), (81, (.bool false)), (80, (.bool (decide ((p.es.length : Int) > 4000)))), (79, (.bool (decide ((p.es.length : Int) > 4000)))), (78, (ii p.es.length)), (77, (.slice p.EA p.es.length p.ec)), (76, (pt b_1 10)), (75, (.bool false)), (74, (.bool (!(bksP p.its p.regions p.bs)))), (73, (.bool (!(bksP p.its p.regions p.bs)))), (72, (.bool (bksP p.its p.regions p.bs))), (71, (.bool false)), (70, (.bool (!(itsP p.its p.fill)))), (69, (.bool (itsP p.its p.fill))), (6, (.bool (bksP p.its p.regions p.bs))), (68, (.bool (bksP p.its p.regions p.bs))), (67, (plV p)), (5, (.bool (itsP p.its p.fill))), (66, (.bool (itsP p.its p.fill))), (65, (plV p)), (64, (.bool (decide (p.length > 100000000)))), (63, (.bool (decide (p.length > 100000000)))), (62, (ii p.length)), (61, (pt b_1 7)), (60, (.bool false)), (59, (.bool (decide (p.length < 1)))), (58, (.bool (decide (p.length < 1)))), (57, (ii p.length)), (56, (pt b_1 7)), (55, (.bool false)), (54, (.bool (decide (p.regions > 8)))), (53, (.bool (decide (p.regions > 8)))), (52, (ii p.regions)), (51, (pt b_1 6)), (50, (.bool false)), (49, (.bool (decide (p.regions < 1)))), (48, (.bool (decide (p.regions < 1)))), (47, (ii p.regions)), (46, (pt b_1 6)), (45, (.bool false)), (44, (.bool (decide (p.epoch > 9000000000)))), (43, (.bool (decide (p.epoch > 9000000000)))), (42, (ii p.epoch)), (41, (pt b_1 5)), (40, (.bool false)), (39, (.bool (decide (p.epoch < 0)))), (38, (.bool (decide (p.epoch < 0)))), (37, (ii p.epoch)), (36, (pt b_1 5)), (35, (.bool false)), (34, (.bool (!(zoneP p.offset p.sh)))), (33, (.bool (!(zoneP p.offset p.sh)))), (32, (.bool (zoneP p.offset p.sh))), (31, (.bool false)), (30, (.bool (!(rateOk p.num p.den)))), (29, (.bool (!(rateOk p.num p.den)))), (28, (.bool (rateOk p.num p.den))), (27, (.bool false)), (26, (.bool (decide (p.channel ≥ 40)))), (25, (.bool (decide (p.channel ≥ 40)))), (24, (ii p.channel)), (23, (pt b_1 0)), (22, (.bool false)), (21, (.bool (decide (p.channel < 0)))), (20, (ii p.channel)), (19, (pt b_1 0)), (4, (.bool (zoneP p.offset p.sh))), (18, (.bool (zoneP p.offset p.sh))), (17, (.agg #[(ii p.offset), (.slice p.SA p.sh.length p.sc)])), (16, (pt b_1 3)), (3, (.bool (rateOk p.num p.den))), (15, (.bool (rateOk p.num p.den))), (14, (.agg #[(ii p.num), (ii p.den)])), (13, (pt b_1 1)), (1, (pt b_1 0)), (0, (plV p))] a ∧ Hp w wv [bx b_1 32 (plL p) true] [] ∧ (l ≤ p.cs.length) ∧ (p.cs.all clP = (p.cs.drop l).all clP)) (p.cs.length - 0) ?_ ?_
 ·exact ⟨0, (by omega), H.keep (by kernel_rfl), HP, (Nat.zero_le _), rfl⟩
 rintro mm a w_28 ⟨l, hmeas, H, HP, hibl, hrc⟩
 refine sq (sq (rg ?_))
 refine H.v 128 (ii l) fun a H => H.v 129 (pt b_1 12) fun a H => H.u 130 (.slice p.CA p.cs.length p.cc) (ex_l1 (HP.cell 0 rfl 12 rfl)) fun a H => H.v 131 (ii p.cs.length) fun a H => H.v 132 (.bool (decide ((l : Int) < (p.cs.length : Int)))) fun a H => ?_
 refine nl (tn ?_)
 refine w_if H rfl (fun g132 => ?_) (fun g132 => ?_)
 ·have g132p := of_decide_eq_true g132
  refine sk (tn (sq (bk (sq ?_))))
  obtain ⟨bu_30, ou_31, x_29, hA_32, _, hd_34, hx_33, hm_35, _⟩ := IsRow.get clC_size (hpl.cs.below HP.bl) (i := l) (by omega)
  refine rg ?_
  refine H.v 135 (pt b_1 12) fun a H => H.u 136 (.slice p.CA p.cs.length p.cc) (ex_l1 (HP.cell 0 rfl 12 rfl)) fun a H => H.v 137 (ii l) fun a H => H.u 138 (.pointer (some ⟨bu_30, ou_31 + l * 8, none⟩)) (ex_indexA (b := bu_30) (off := ou_31) (len := p.cs.length) (cap := p.cc) (e := 73) (k := 8) (ik := .i64) (i := (l : Int)) (m := l) hA_32 (by kernel_rfl) (by kernel_rfl) (by omega) (by omega) (by kernel_rfl) (by kernel_rfl)) fun a H => H.u 139 (clV x_29) (ex_lN (clL x_29) (IsRow.cells clC_size (hpl.cs.below HP.bl) hA_32 hx_33)) fun a H => H.cb HP 140 (Tryz.call41 _ _) (rrightsV_any x_29 w_28) fun w_36 hb a H HP => H.v 12 (.bool (clP x_29)) fun a H => ?_
  refine nl (tn (sq (rg ?_)))
  refine H.v 141 (.bool (clP x_29)) fun a H => H.v 142 (.bool (!(clP x_29))) fun a H => ?_
  refine nl (tn ?_)
  refine w_if H rfl (fun g142 => ?_) (fun g142 => ?_)
  ·have g142p := not_is_true g142
   refine sq (rg ?_)
   refine H.v 2 (.bool false) fun a H => ?_
   refine nl (tn (rt (ibr (tr (tr (ibr (tr ?_)))))))
   refine H.r1 (.bool false) Tryz.results15 ?_
   have hv : validPl p = false := valid_no6 (by rw [hrc, hd_34, List.all_cons, show clP x_29 = false from by assumption]; rfl)
   exact ⟨by rw [hv], HP.bl⟩
  have g142p := not_is_false g142
  refine sk (ibn (tn (rg ?_)))
  refine H.v 133 (ii l) fun a H => H.valE 134 (ii (IntKind.i64.wrap ((l : Int) + 1))) (ii ((l : Int) + 1)) (by kernel_rfl) (by kernel_rfl) ((by rw [wrap_ini64 _ (by omega)])) fun a H => H.v 11 (ii ((l : Int) + 1)) fun a H => ?_
  refine nl (tn ?_)
  have H := H.as 11 (ii ((l + 1 : Nat) : Int)) rfl rfl
  refine ⟨_, ?_, l + 1, rfl, H.keep (by kernel_rfl), HP, (by omega), (by rw [hrc, hd_34, List.all_cons, show clP x_29 = true from by assumption]; rfl)⟩
  omega
 have g132p := of_decide_eq_false g132
 refine wp_exit (then_exit (then_exit ?_))
 refine w_exit_here ?_
 refine tn (sq (rg ?_))
 refine H.v 2 (.bool true) fun a H => ?_
 refine nl (tn (rt ?_))
 refine H.r1 (.bool true) Tryz.results15 ?_
 have hv : validPl p = true := valid_yes hs hits hbks (by omega) hes (by omega) (by rw [hrc, List.drop_eq_nil_of_le (by omega)]; rfl)
 exact ⟨by rw [hv], HP.bl⟩
def inCells (s : List UInt8) (q : Nat × Int) : List Value := [.string (bstr s), .int .i64 ((q.1 : Nat) : Int), .int .i64 q.2]
def nR (s : List UInt8) (q : Nat × Int) : Int × (Nat × Int) := if q.2 ≠ 0 then (0, q) else match rdInt s q.1 with
  | none => (0, (q.1, 10))
  | some (n, e) => (n, (e, 0))
def cntR (most : Nat) (s : List UInt8) (q : Nat × Int) : Int × (Nat × Int) :=
  if (nR s q).2.2 = 0 ∧ ((nR s q).1 < 0 ∨ (most : Int) < (nR s q).1) then (0, ((nR s q).2.1, 80)) else if (nR s q).2.2 ≠ 0 then (0, (nR s q).2) else nR s q
theorem nR_le {s : List UInt8} {q : Nat × Int} (h : q.1 ≤ s.length) : (nR s q).2.1 ≤ s.length := by
  unfold nR
  split
  · exact h
  · cases hr : rdInt s q.1 with
    | none => exact h
    | some p => exact (rdInt_lt h hr).2
theorem cntR_le {most : Nat} {s : List UInt8} {q : Nat × Int} (h : q.1 ≤ s.length) : (cntR most s q).2.1 ≤ s.length := by
  have := nR_le h
  unfold cntR
  split
  · exact this
  · split <;> exact this
def Stg {β : Type} (X : Nat → RdR β) (k : Nat) (E : Int) (v : β) (k1 : Nat) (E1 : Int) : Prop := (E1 = 0 → E = 0 ∧ X k = .ok (v, k1)) ∧ (E1 ≠ 0 → (E ≠ 0 ∧ E1 = E) ∨ (E = 0 ∧ X k = .error E1))
theorem stg_nil (s : List UInt8) (k : Nat) (E : Int) : Stg (rdN s 0) k E [] k E := ⟨fun h => ⟨h, rfl⟩, fun h => .inl ⟨h, rfl⟩⟩
theorem rdN_snoc (s : List UInt8) : ∀ (m k : Nat), rdN s (m + 1) k = match rdN s m k with
    | .error e => .error e
    | .ok (l, k1) => match rdInt s k1 with
      | none => .error 10
      | some (z, k2) => .ok (l ++ [z], k2)
  | 0, k => by
    simp only [rdN]
    cases rdInt s k with
    | none => rfl
    | some p => rfl
  | m + 1, k => by
    rw [rdN]
    cases hr : rdInt s k with
    | none => simp only [rdN, hr]
    | some p =>
      simp only [rdN, hr]
      have ih := rdN_snoc s m p.2
      rw [rdN] at ih
      rw [ih]
      cases rdN s m p.2 with
      | error e => rfl
      | ok q =>
        simp only
        cases rdInt s q.2 with
        | none => rfl
        | some r => rfl
theorem stg_snoc {s : List UInt8} {m k k1 k2 : Nat} {E E1 E2 : Int} {l : List Int} {z : Int} (h : Stg (rdN s m) k E l k1 E1) (hn : nR s (k1, E1) = (z, (k2, E2))) : Stg (rdN s (m + 1)) k E (l ++ [z]) k2 E2 := by
  unfold nR at hn
  by_cases h1 : E1 = 0
  · obtain ⟨rfl, h2⟩ := h.1 h1
    rw [if_neg (by simpa using h1)] at hn
    cases hr : rdInt s k1 with
    | none =>
      simp only [hr, Prod.mk.injEq] at hn
      obtain ⟨rfl, rfl, rfl⟩ := hn
      exact ⟨fun h => by omega, fun _ => .inr ⟨rfl, by rw [rdN_snoc, h2]; simp only [hr]⟩⟩
    | some p =>
      simp only [hr, Prod.mk.injEq] at hn
      obtain ⟨rfl, rfl, rfl⟩ := hn
      exact ⟨fun _ => ⟨rfl, by rw [rdN_snoc, h2]; simp only [hr]⟩, fun h => absurd rfl h⟩
  · rw [if_pos h1] at hn
    simp only [Prod.mk.injEq] at hn
    obtain ⟨rfl, rfl, rfl⟩ := hn
    refine ⟨fun h => absurd h h1, fun _ => ?_⟩
    rcases h.2 h1 with ⟨h2, h3⟩ | ⟨h2, h3⟩
    · exact .inl ⟨h2, h3⟩
    · refine .inr ⟨h2, ?_⟩
      rw [rdN_snoc, h3]
theorem stg_map {α : Type} {s : List UInt8} {m k k1 : Nat} {E E1 : Int} {l : List Int} (f : List Int → α) (h : Stg (rdN s m) k E l k1 E1) : Stg (rdM f s m) k E (f l) k1 E1 := by
  refine ⟨fun h1 => ⟨(h.1 h1).1, by unfold rdM; rw [(h.1 h1).2]⟩, fun h1 => ?_⟩
  rcases h.2 h1 with h2 | ⟨h2, h3⟩
  · exact .inl h2
  · exact .inr ⟨h2, by unfold rdM; rw [h3]⟩
def LI {β : Type} (el : Nat → RdR β) (m k3 : Nat) (E3 : Int) (i kq : Nat) (E : Int) (l : List β) : Prop :=
  (E3 = 0 → (E = 0 → rdL el m k3 = pre l (rdL el (m - i) kq)) ∧ (E ≠ 0 → rdL el m k3 = .error E)) ∧ (E3 ≠ 0 → m = 0 ∧ E = E3)
theorem nR_bad {s : List UInt8} {k : Nat} {E : Int} (h : E ≠ 0) : nR s (k, E) = (0, (k, E)) := by simp [nR, h]
theorem nR_none {s : List UInt8} {k : Nat} (h : rdInt s k = none) : nR s (k, 0) = (0, (k, 10)) := by simp [nR, h]
theorem nR_some {s : List UInt8} {k e : Nat} {n : Int} (h : rdInt s k = some (n, e)) : nR s (k, 0) = (n, (e, 0)) := by simp [nR, h]
theorem cnt_cases {most : Nat} {s : List UInt8} {k k3 : Nat} {E E3 c : Int} (hc : cntR most s (k, E) = (c, (k3, E3))) :
    (E ≠ 0 ∧ c = 0 ∧ E3 = E) ∨ (E = 0 ∧ rdInt s k = none ∧ c = 0 ∧ E3 = 10) ∨ (∃ n k1, E = 0 ∧ rdInt s k = some (n, k1) ∧ (n < 0 ∨ (most : Int) < n) ∧ c = 0 ∧ E3 = 80) ∨ (E = 0 ∧ rdInt s k = some (c, k3) ∧ 0 ≤ c ∧ c ≤ most ∧ E3 = 0) := by
  unfold cntR at hc
  by_cases h0 : E = 0
  · subst h0
    cases hr : rdInt s k with
    | none =>
      rw [nR_none hr] at hc
      simp only at hc
      rw [if_neg (by simp), if_pos (by decide)] at hc
      simp only [Prod.mk.injEq] at hc
      exact .inr (.inl ⟨rfl, rfl, hc.1.symm, hc.2.2.symm⟩)
    | some p =>
      obtain ⟨n, k1⟩ := p
      rw [nR_some hr] at hc
      simp only at hc
      by_cases hn : n < 0 ∨ (most : Int) < n
      · rw [if_pos ⟨trivial, hn⟩] at hc
        simp only [Prod.mk.injEq] at hc
        exact .inr (.inr (.inl ⟨n, k1, rfl, rfl, hn, hc.1.symm, hc.2.2.symm⟩))
      · rw [if_neg (fun h => hn h.2), if_neg (by simp)] at hc
        simp only [Prod.mk.injEq] at hc
        obtain ⟨rfl, rfl, rfl⟩ := hc
        exact .inr (.inr (.inr ⟨rfl, rfl, by omega, by omega, rfl⟩))
  · rw [nR_bad h0] at hc
    simp only at hc
    rw [if_neg (fun h => h0 h.1), if_pos h0] at hc
    simp only [Prod.mk.injEq] at hc
    exact .inl ⟨h0, hc.1.symm, hc.2.2.symm⟩
theorem cnt_nat {most : Nat} {s : List UInt8} {k k3 : Nat} {E E3 c : Int} (hc : cntR most s (k, E) = (c, (k3, E3))) : ∃ m : Nat, c = m ∧ m ≤ most := by
  refine ⟨c.toNat, ?_, ?_⟩ <;> rcases cnt_cases hc with h | h | ⟨_, _, h⟩ | h <;> omega
theorem li_start {β : Type} {most : Nat} {s : List UInt8} {k k3 m : Nat} {E E3 : Int} (el : Nat → RdR β) (h : cntR most s (k, E) = (((m : Nat) : Int), (k3, E3))) : LI el m k3 E3 0 k3 E3 [] := by
  refine ⟨fun h1 => ⟨fun _ => by rw [pre_nil]; rfl, fun h2 => absurd h1 h2⟩, fun h1 => ⟨?_, rfl⟩⟩
  rcases cnt_cases h with h | h | ⟨_, _, h⟩ | h <;> omega
theorem li_step {β : Type} {el : Nat → RdR β} {m k3 i kq k2 : Nat} {E3 E2 : Int} {l : List β} {x : β} (h : LI el m k3 E3 i kq 0 l) (hi : i < m) (hx : Stg el kq 0 x k2 E2) : LI el m k3 E3 (i + 1) k2 E2 (l ++ [x]) := by
  refine ⟨fun h1 => ?_, fun h1 => ?_⟩
  · have h2 := (h.1 h1).1 rfl
    rw [show m - i = (m - (i + 1)) + 1 by omega] at h2
    refine ⟨fun h3 => ?_, fun h3 => ?_⟩
    · rw [h2, rdL_step (hx.1 h3).2]
    · rw [h2]
      rcases hx.2 h3 with ⟨h4, _⟩ | ⟨_, h4⟩
      · exact absurd rfl h4
      · exact rdL_err h4
  · have := h.2 h1
    omega
theorem li_end {β : Type} {most : Nat} {s : List UInt8} {el : Nat → RdR β} {m k k3 i kq : Nat} {E0 E3 E : Int} {l : List β} (hc : cntR most s (k, E0) = (((m : Nat) : Int), (k3, E3))) (h : LI el m k3 E3 i kq E l) (hi : i ≤ m) (hend : ¬ (i < m ∧ E = 0)) : Stg (rdC s most el) k E0 l kq E := by
  rcases cnt_cases hc with ⟨h0, h1, h2⟩ | ⟨h0, hr, h1, h2⟩ | ⟨n, k1, h0, hr, hn, h1, h2⟩ | ⟨h0, hr, h1, h3, h2⟩
  · subst h2
    obtain ⟨_, rfl⟩ := h.2 h0
    exact ⟨fun h4 => absurd h4 h0, fun _ => .inl ⟨h0, rfl⟩⟩
  · subst h0
    obtain ⟨_, rfl⟩ := h.2 (by omega)
    exact ⟨fun h4 => by omega, fun _ => .inr ⟨rfl, by unfold rdC; rw [hr, h2]⟩⟩
  · subst h0
    obtain ⟨_, rfl⟩ := h.2 (by omega)
    exact ⟨fun h4 => by omega, fun _ => .inr ⟨rfl, by unfold rdC; rw [hr]; simp only; rw [if_pos hn, h2]⟩⟩
  · subst h0 h2
    have hq : rdC s most el k = rdL el m k3 := by unfold rdC; rw [hr]; simp only; rw [if_neg (by omega), Int.toNat_natCast]
    obtain ⟨g1, g2⟩ := h.1 rfl
    refine ⟨fun h4 => ⟨rfl, ?_⟩, fun h4 => .inr ⟨rfl, ?_⟩⟩
    · rw [hq, g1 h4, show m - i = 0 by omega]; exact pre_ok _ _
    · rw [hq, g2 h4]
end Go.Proofs.YteeillphhiaopaaGreatDoor
