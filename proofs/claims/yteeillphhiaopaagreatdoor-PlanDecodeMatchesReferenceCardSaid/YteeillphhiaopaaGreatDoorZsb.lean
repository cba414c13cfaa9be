/- Part 2 of the proofs: PlD, PlE, PlF. -/
import Derived.Test.YteeillphhiaopaaGreatDoorZsa
namespace Go.Proofs.YteeillphhiaopaaGreatDoor
set_option maxRecDepth 100000
set_option maxHeartbeats 4000000
open Go.ChangeShapes Go.WideShapes Go.ChangeAt Go.RowKit
set_option linter.unusedVariables false
set_option linter.unusedSimpArgs false
theorem within6_any (n lo hi : Int) (w : World) : Calls Tryz.prog 122 #[.int .i64 n, .int .i64 lo, .int .i64 hi] w fun e w' => e = .returned (.bool (inR n lo hi)) ∧ Below w.heap.size w w' := by
 have HP := Hp.start w
 refine w_enter 15 [(0, (ii n)), (1, (ii lo)), (2, (ii hi))] Tryz.func122 rfl Tryz.ntmps122 (by kernel_rfl) (by kernel_rfl) fun a H => ?_
 refine sq (rg ?_)
 refine H.v 6 (.bool false) fun a H => ?_
 refine nl (tn (sq (rg ?_)))
 refine H.v 7 (ii lo) fun a H => H.v 8 (ii n) fun a H => H.v 9 (.bool (decide (lo ≤ n))) fun a H => H.v 10 (.bool (decide (lo ≤ n))) fun a H => ?_
 refine H.split 10 rfl (fun g10 H => ?_) (fun g10 H => ?_)
 ·have g10p := of_decide_eq_true g10
  refine H.v 11 (ii n) fun a H => H.v 12 (ii hi) fun a H => H.v 13 (.bool (decide (n ≤ hi))) fun a H => H.v 14 (.bool (decide (n ≤ hi))) fun a H => H.v 6 (.bool (decide (n ≤ hi))) fun a H => ?_
  refine nl (tn (rt ?_))
  refine H.r1 (.bool (decide (n ≤ hi))) Tryz.results122 ?_
  exact ⟨by rw [show inR n lo hi = (decide (n ≤ hi)) from by simp [inR, g10, g10p]], HP.bl⟩
 have g10p := of_decide_eq_false g10
 iterate 3 refine H.sx rfl fun a H => ?_
 refine H.v 14 (.bool false) fun a H => H.v 6 (.bool false) fun a H => ?_
 refine nl (tn (rt ?_))
 refine H.r1 (.bool false) Tryz.results122 ?_
 exact ⟨by rw [show inR n lo hi = (false) from by simp [inR, g10, g10p]], HP.bl⟩
theorem rwithin6_any (n lo hi : Int) (w : World) : Calls Tryz.prog 79 #[.int .i64 n, .int .i64 lo, .int .i64 hi] w fun e w' => e = .returned (.bool (inR n lo hi)) ∧ Below w.heap.size w w' := by
 have HP := Hp.start w
 refine w_enter 15 [(0, (ii n)), (1, (ii lo)), (2, (ii hi))] Tryz.func79 rfl Tryz.ntmps79 (by kernel_rfl) (by kernel_rfl) fun a H => ?_
 refine sq (rg ?_)
 refine H.v 6 (.bool false) fun a H => ?_
 refine nl (tn (sq (rg ?_)))
 refine H.v 7 (ii n) fun a H => H.v 8 (ii lo) fun a H => H.v 9 (.bool (decide (n ≥ lo))) fun a H => H.v 10 (.bool (decide (n ≥ lo))) fun a H => ?_
 refine H.split 10 rfl (fun g10 H => ?_) (fun g10 H => ?_)
 ·have g10p := of_decide_eq_true g10
  refine H.v 11 (ii n) fun a H => H.v 12 (ii hi) fun a H => H.v 13 (.bool (decide (n ≤ hi))) fun a H => H.v 14 (.bool (decide (n ≤ hi))) fun a H => H.v 6 (.bool (decide (n ≤ hi))) fun a H => ?_
  refine nl (tn (rt ?_))
  refine H.r1 (.bool (decide (n ≤ hi))) Tryz.results79 ?_
  exact ⟨by rw [show inR n lo hi = (decide (n ≤ hi)) from by simp [inR, g10, g10p]], HP.bl⟩
 have g10p := of_decide_eq_false g10
 iterate 3 refine H.sx rfl fun a H => ?_
 refine H.v 14 (.bool false) fun a H => H.v 6 (.bool false) fun a H => ?_
 refine nl (tn (rt ?_))
 refine H.r1 (.bool false) Tryz.results79 ?_
 exact ⟨by rw [show inR n lo hi = (false) from by simp [inR, g10, g10p]], HP.bl⟩
theorem isItem_any (c : Cls) (w : World) : Calls Tryz.prog 121 #[(clV c)] w fun e w' => e = .returned (.bool (itemC c)) ∧ Below w.heap.size w w' := by
 have HP := Hp.start w
 refine w_enter 11 [(0, (clV c))] Tryz.func121 rfl Tryz.ntmps121 (by kernel_rfl) (by kernel_rfl) fun a H => ?_
 refine sq (rg ?_)
 refine H.al HP 1 73 (clL c) fun b_1 w_2 a H HP => H.v 2 (.bool false) fun a H => ?_
 refine nl (tn (sq (rg ?_)))
 refine H.v 3 (pt b_1 1) fun a H => H.u 4 (ii c.item) (ex_l1 (HP.cell 0 rfl 1 rfl)) fun a H => H.cb HP 5 (Tryz.call122 _ _) (within6_any c.item 1 4611686018427387903 w_2) fun w_3 hb a H HP => H.v 6 (.bool (inR c.item 1 4611686018427387903)) fun a H => ?_
 refine H.split 6 rfl (fun g6 H => ?_) (fun g6 H => ?_)
 ·have g6p := g6
  refine H.v 7 (pt b_1 4) fun a H => H.u 8 (ii c.regions) (ex_l1 (HP.cell 0 rfl 4 rfl)) fun a H => H.cb HP 9 (Tryz.call122 _ _) (within6_any c.regions 1 255 w_3) fun w_4 hb a H HP => H.v 10 (.bool (inR c.regions 1 255)) fun a H => H.v 2 (.bool (inR c.regions 1 255)) fun a H => ?_
  refine nl (tn (rt ?_))
  refine H.r1 (.bool (inR c.regions 1 255)) Tryz.results121 ?_
  exact ⟨by rw [show itemC c = (inR c.regions 1 255) from by simp [itemC, g6, g6p]], HP.bl⟩
 have g6p := g6
 iterate 3 refine H.sx rfl fun a H => ?_
 refine H.v 10 (.bool false) fun a H => H.v 2 (.bool false) fun a H => ?_
 refine nl (tn (rt ?_))
 refine H.r1 (.bool false) Tryz.results121 ?_
 exact ⟨by rw [show itemC c = (false) from by simp [itemC, g6, g6p]], HP.bl⟩
theorem isTime_any (s : Int) (w : World) : Calls Tryz.prog 123 #[.int .i64 s] w fun e w' => e = .returned (.bool (timeC s)) ∧ Below w.heap.size w w' := by
 have HP := Hp.start w
 refine w_enter 10 [(0, (ii s))] Tryz.func123 rfl Tryz.ntmps123 (by kernel_rfl) (by kernel_rfl) fun a H => ?_
 refine sq (rg ?_)
 refine H.v 2 (.bool false) fun a H => ?_
 refine nl (tn (sq (rg ?_)))
 refine H.v 3 (ii s) fun a H => H.cb HP 4 (Tryz.call122 _ _) (within6_any s 0 86340 w) fun w_1 hb a H HP => H.v 5 (.bool (inR s 0 86340)) fun a H => ?_
 refine H.split 5 rfl (fun g5 H => ?_) (fun g5 H => ?_)
 ·have g5p := g5
  refine H.v 6 (ii s) fun a H => ?_
  have hs := inR_iff.1 g5
  have hs := inR_iff.1 g5
  refine H.valE 7 (ii (s.tmod 60)) (ii (s % 60)) (by kernel_rfl) (by kernel_rfl) ((by rw [tmod_nn _ _ (by omega)])) fun a H => H.v 8 (.bool ((s % 60) == 0)) fun a H => H.v 9 (.bool ((s % 60) == 0)) fun a H => H.v 2 (.bool ((s % 60) == 0)) fun a H => ?_
  refine nl (tn (rt ?_))
  refine H.r1 (.bool ((s % 60) == 0)) Tryz.results123 ?_
  exact ⟨by rw [show timeC s = ((s % 60) == 0) from by simp [timeC, g5, g5p]], HP.bl⟩
 have g5p := g5
 iterate 3 refine H.sx rfl fun a H => ?_
 refine H.v 9 (.bool false) fun a H => H.v 2 (.bool false) fun a H => ?_
 refine nl (tn (rt ?_))
 refine H.r1 (.bool false) Tryz.results123 ?_
 exact ⟨by rw [show timeC s = (false) from by simp [timeC, g5, g5p]], HP.bl⟩
theorem used_any (c : Cls) (w : World) : Calls Tryz.prog 120 #[(clV c)] w fun e w' => e = .returned (clV (usedCl c)) ∧ Below w.heap.size w w' := by
 have HP := Hp.start w
 refine w_enter 54 [(0, (clV c))] Tryz.func120 rfl Tryz.ntmps120 (by kernel_rfl) (by kernel_rfl) fun a H => ?_
 refine sq (rg ?_)
 refine H.al HP 1 73 (clL c) fun b_1 w_2 a H HP => H.al HP 2 73 [(ii 0), (ii 0), (ii 0), (ii 0), (ii 0), (ii 0), (ii 0), (ii 0)] fun b_3 w_4 a H HP => ?_
 refine nl (tn (sq (sq (rg ?_))))
 refine H.v 3 (pt b_1 0) fun a H => H.u 4 (ii c.kind) (ex_l1 (HP.cell 1 rfl 0 rfl)) fun a H => ?_
 refine nl (tn (bk (sq (sq (rg ?_)))))
 refine H.v 6 (.bool (c.kind == 1)) fun a H => H.v 5 (.bool (c.kind == 1)) fun a H => ?_
 refine nl (tn ?_)
 refine w_if H rfl (fun g5 => ?_) (fun g5 => ?_)
 ·have g5p := eq_of_beq g5
  have H := H.as 5 (.bool true) rfl (congrArg Value.bool g5)
  refine sk (tn ?_)
  refine w_ift H rfl ?_
  refine sq (rg ?_)
  refine H.v 8 (pt b_1 0) fun a H => H.u 9 (ii c.kind) (ex_l1 (HP.cell 1 rfl 0 rfl)) fun a H => H.v 10 (pt b_1 1) fun a H => H.u 11 (ii c.item) (ex_l1 (HP.cell 1 rfl 1 rfl)) fun a H => H.v 12 (pt b_1 2) fun a H => H.u 13 (ii c.from_) (ex_l1 (HP.cell 1 rfl 2 rfl)) fun a H => H.v 14 (pt b_1 3) fun a H => H.u 15 (ii c.to_) (ex_l1 (HP.cell 1 rfl 3 rfl)) fun a H => H.v 16 (pt b_1 4) fun a H => H.u 17 (ii c.regions) (ex_l1 (HP.cell 1 rfl 4 rfl)) fun a H => H.v 18 (.agg #[(ii c.kind), (ii c.item), (ii c.from_), (ii c.to_), (ii c.regions), (ii 0), (ii 0), (ii 0)]) fun a H => H.st HP 0 b_3 0 8 73 true (.agg #[(ii c.kind), (ii c.item), (ii c.from_), (ii c.to_), (ii c.regions), (ii 0), (ii 0), (ii 0)]) [bx b_3 73 [(ii c.kind), (ii c.item), (ii c.from_), (ii c.to_), (ii c.regions), (ii 0), (ii 0), (ii 0)] true, bx b_1 73 (clL c) true] rfl fun w_5 a H HP => ?_
  refine nl (tn (rt (ibr (tr ?_))))
  refine H.ret1 (fn := Tryz.f120) Tryz.results120 (RV.cellN (vs := [(ii c.kind), (ii c.item), (ii c.from_), (ii c.to_), (ii c.regions), (ii 0), (ii 0), (ii 0)]) (b := b_3) (off := 0) (k := 8) (by kernel_rfl) (by kernel_rfl) (by kernel_rfl) rfl (HP.cells 0 rfl 0 8 (by kernel_rfl))) ?_
  have hu : usedCl c = ⟨c.kind, c.item, c.from_, c.to_, c.regions, 0, 0, 0⟩ := by unfold usedCl; simp [g5p]
  exact ⟨by rw [hu], HP.bl⟩
 have g5p := ne_of_beq_false g5
 have H := H.as 5 (.bool false) rfl (congrArg Value.bool g5)
 refine rg ?_
 refine H.v 7 (.bool (c.kind == 2)) fun a H => H.v 5 (.bool (c.kind == 2)) fun a H => ?_
 refine nl (tn ?_)
 refine w_if H rfl (fun g5_ => ?_) (fun g5_ => ?_)
 ·have g5_p := eq_of_beq g5_
  have H := H.as 5 (.bool true) rfl (congrArg Value.bool g5_)
  refine sq (rg ?_)
  refine H.v 8 (pt b_1 0) fun a H => H.u 9 (ii c.kind) (ex_l1 (HP.cell 1 rfl 0 rfl)) fun a H => H.v 10 (pt b_1 1) fun a H => H.u 11 (ii c.item) (ex_l1 (HP.cell 1 rfl 1 rfl)) fun a H => H.v 12 (pt b_1 2) fun a H => H.u 13 (ii c.from_) (ex_l1 (HP.cell 1 rfl 2 rfl)) fun a H => H.v 14 (pt b_1 3) fun a H => H.u 15 (ii c.to_) (ex_l1 (HP.cell 1 rfl 3 rfl)) fun a H => H.v 16 (pt b_1 4) fun a H => H.u 17 (ii c.regions) (ex_l1 (HP.cell 1 rfl 4 rfl)) fun a H => H.v 18 (.agg #[(ii c.kind), (ii c.item), (ii c.from_), (ii c.to_), (ii c.regions), (ii 0), (ii 0), (ii 0)]) fun a H => H.st HP 0 b_3 0 8 73 true (.agg #[(ii c.kind), (ii c.item), (ii c.from_), (ii c.to_), (ii c.regions), (ii 0), (ii 0), (ii 0)]) [bx b_3 73 [(ii c.kind), (ii c.item), (ii c.from_), (ii c.to_), (ii c.regions), (ii 0), (ii 0), (ii 0)] true, bx b_1 73 (clL c) true] rfl fun w_6 a H HP => ?_
  refine nl (tn (rt (ibr (tr ?_))))
  refine H.ret1 (fn := Tryz.f120) Tryz.results120 (RV.cellN (vs := [(ii c.kind), (ii c.item), (ii c.from_), (ii c.to_), (ii c.regions), (ii 0), (ii 0), (ii 0)]) (b := b_3) (off := 0) (k := 8) (by kernel_rfl) (by kernel_rfl) (by kernel_rfl) rfl (HP.cells 0 rfl 0 8 (by kernel_rfl))) ?_
  have hu : usedCl c = ⟨c.kind, c.item, c.from_, c.to_, c.regions, 0, 0, 0⟩ := by unfold usedCl; simp [g5p, g5_p]
  exact ⟨by rw [hu], HP.bl⟩
 have g5_p := ne_of_beq_false g5_
 have H := H.as 5 (.bool false) rfl (congrArg Value.bool g5_)
 refine sq (sq (rg ?_))
 refine H.v 20 (.bool (c.kind == 3)) fun a H => H.v 19 (.bool (c.kind == 3)) fun a H => ?_
 refine nl (tn ?_)
 refine w_if H rfl (fun g19 => ?_) (fun g19 => ?_)
 ·have g19p := eq_of_beq g19
  have H := H.as 19 (.bool true) rfl (congrArg Value.bool g19)
  refine sk (tn ?_)
  refine w_ift H rfl ?_
  refine sq (rg ?_)
  refine H.v 22 (pt b_1 0) fun a H => H.u 23 (ii c.kind) (ex_l1 (HP.cell 1 rfl 0 rfl)) fun a H => H.v 24 (pt b_1 1) fun a H => H.u 25 (ii c.item) (ex_l1 (HP.cell 1 rfl 1 rfl)) fun a H => H.v 26 (pt b_1 5) fun a H => H.u 27 (ii c.n) (ex_l1 (HP.cell 1 rfl 5 rfl)) fun a H => H.v 28 (pt b_1 4) fun a H => H.u 29 (ii c.regions) (ex_l1 (HP.cell 1 rfl 4 rfl)) fun a H => H.v 30 (.agg #[(ii c.kind), (ii c.item), (ii 0), (ii 0), (ii c.regions), (ii c.n), (ii 0), (ii 0)]) fun a H => H.st HP 0 b_3 0 8 73 true (.agg #[(ii c.kind), (ii c.item), (ii 0), (ii 0), (ii c.regions), (ii c.n), (ii 0), (ii 0)]) [bx b_3 73 [(ii c.kind), (ii c.item), (ii 0), (ii 0), (ii c.regions), (ii c.n), (ii 0), (ii 0)] true, bx b_1 73 (clL c) true] rfl fun w_7 a H HP => ?_
  refine nl (tn (rt (ibr (tr ?_))))
  refine H.ret1 (fn := Tryz.f120) Tryz.results120 (RV.cellN (vs := [(ii c.kind), (ii c.item), (ii 0), (ii 0), (ii c.regions), (ii c.n), (ii 0), (ii 0)]) (b := b_3) (off := 0) (k := 8) (by kernel_rfl) (by kernel_rfl) (by kernel_rfl) rfl (HP.cells 0 rfl 0 8 (by kernel_rfl))) ?_
  have hu : usedCl c = ⟨c.kind, c.item, 0, 0, c.regions, c.n, 0, 0⟩ := by unfold usedCl; simp [g5p, g5_p, g19p]
  exact ⟨by rw [hu], HP.bl⟩
 have g19p := ne_of_beq_false g19
 have H := H.as 19 (.bool false) rfl (congrArg Value.bool g19)
 refine rg ?_
 refine H.v 21 (.bool (c.kind == 4)) fun a H => H.v 19 (.bool (c.kind == 4)) fun a H => ?_
 refine nl (tn ?_)
 refine w_if H rfl (fun g19_ => ?_) (fun g19_ => ?_)
 ·have g19_p := eq_of_beq g19_
  have H := H.as 19 (.bool true) rfl (congrArg Value.bool g19_)
  refine sq (rg ?_)
  refine H.v 22 (pt b_1 0) fun a H => H.u 23 (ii c.kind) (ex_l1 (HP.cell 1 rfl 0 rfl)) fun a H => H.v 24 (pt b_1 1) fun a H => H.u 25 (ii c.item) (ex_l1 (HP.cell 1 rfl 1 rfl)) fun a H => H.v 26 (pt b_1 5) fun a H => H.u 27 (ii c.n) (ex_l1 (HP.cell 1 rfl 5 rfl)) fun a H => H.v 28 (pt b_1 4) fun a H => H.u 29 (ii c.regions) (ex_l1 (HP.cell 1 rfl 4 rfl)) fun a H => H.v 30 (.agg #[(ii c.kind), (ii c.item), (ii 0), (ii 0), (ii c.regions), (ii c.n), (ii 0), (ii 0)]) fun a H => H.st HP 0 b_3 0 8 73 true (.agg #[(ii c.kind), (ii c.item), (ii 0), (ii 0), (ii c.regions), (ii c.n), (ii 0), (ii 0)]) [bx b_3 73 [(ii c.kind), (ii c.item), (ii 0), (ii 0), (ii c.regions), (ii c.n), (ii 0), (ii 0)] true, bx b_1 73 (clL c) true] rfl fun w_8 a H HP => ?_
  refine nl (tn (rt (ibr (tr ?_))))
  refine H.ret1 (fn := Tryz.f120) Tryz.results120 (RV.cellN (vs := [(ii c.kind), (ii c.item), (ii 0), (ii 0), (ii c.regions), (ii c.n), (ii 0), (ii 0)]) (b := b_3) (off := 0) (k := 8) (by kernel_rfl) (by kernel_rfl) (by kernel_rfl) rfl (HP.cells 0 rfl 0 8 (by kernel_rfl))) ?_
  have hu : usedCl c = ⟨c.kind, c.item, 0, 0, c.regions, c.n, 0, 0⟩ := by unfold usedCl; simp [g5p, g5_p, g19p, g19_p]
  exact ⟨by rw [hu], HP.bl⟩
 have g19_p := ne_of_beq_false g19_
 have H := H.as 19 (.bool false) rfl (congrArg Value.bool g19_)
 refine sq (rg ?_)
 refine H.v 32 (.bool (c.kind == 5)) fun a H => H.v 31 (.bool (c.kind == 5)) fun a H => ?_
 refine nl (tn ?_)
 refine w_if H rfl (fun g31 => ?_) (fun g31 => ?_)
 ·have g31p := eq_of_beq g31
  refine sq (rg ?_)
  refine H.v 33 (pt b_1 0) fun a H => H.u 34 (ii c.kind) (ex_l1 (HP.cell 1 rfl 0 rfl)) fun a H => H.v 35 (pt b_1 6) fun a H => H.u 36 (ii c.a) (ex_l1 (HP.cell 1 rfl 6 rfl)) fun a H => H.v 37 (pt b_1 7) fun a H => H.u 38 (ii c.b) (ex_l1 (HP.cell 1 rfl 7 rfl)) fun a H => H.v 39 (pt b_1 5) fun a H => H.u 40 (ii c.n) (ex_l1 (HP.cell 1 rfl 5 rfl)) fun a H => H.v 41 (.agg #[(ii c.kind), (ii 0), (ii 0), (ii 0), (ii 0), (ii c.n), (ii c.a), (ii c.b)]) fun a H => H.st HP 0 b_3 0 8 73 true (.agg #[(ii c.kind), (ii 0), (ii 0), (ii 0), (ii 0), (ii c.n), (ii c.a), (ii c.b)]) [bx b_3 73 [(ii c.kind), (ii 0), (ii 0), (ii 0), (ii 0), (ii c.n), (ii c.a), (ii c.b)] true, bx b_1 73 (clL c) true] rfl fun w_9 a H HP => ?_
  refine nl (tn (rt (ibr (tr ?_))))
  refine H.ret1 (fn := Tryz.f120) Tryz.results120 (RV.cellN (vs := [(ii c.kind), (ii 0), (ii 0), (ii 0), (ii 0), (ii c.n), (ii c.a), (ii c.b)]) (b := b_3) (off := 0) (k := 8) (by kernel_rfl) (by kernel_rfl) (by kernel_rfl) rfl (HP.cells 0 rfl 0 8 (by kernel_rfl))) ?_
  have hu : usedCl c = ⟨c.kind, 0, 0, 0, 0, c.n, c.a, c.b⟩ := by unfold usedCl; simp [g5p, g5_p, g19p, g19_p, g31p]
  exact ⟨by rw [hu], HP.bl⟩
 have g31p := ne_of_beq_false g31
 refine sq (rg ?_)
 refine H.v 43 (.bool (c.kind == 6)) fun a H => H.v 42 (.bool (c.kind == 6)) fun a H => ?_
 refine nl (tn ?_)
 refine w_if H rfl (fun g42 => ?_) (fun g42 => ?_)
 ·have g42p := eq_of_beq g42
  refine sq (rg ?_)
  refine H.v 44 (pt b_1 0) fun a H => H.u 45 (ii c.kind) (ex_l1 (HP.cell 1 rfl 0 rfl)) fun a H => H.v 46 (pt b_1 6) fun a H => H.u 47 (ii c.a) (ex_l1 (HP.cell 1 rfl 6 rfl)) fun a H => H.v 48 (pt b_1 2) fun a H => H.u 49 (ii c.from_) (ex_l1 (HP.cell 1 rfl 2 rfl)) fun a H => H.v 50 (pt b_1 3) fun a H => H.u 51 (ii c.to_) (ex_l1 (HP.cell 1 rfl 3 rfl)) fun a H => H.v 52 (.agg #[(ii c.kind), (ii 0), (ii c.from_), (ii c.to_), (ii 0), (ii 0), (ii c.a), (ii 0)]) fun a H => H.st HP 0 b_3 0 8 73 true (.agg #[(ii c.kind), (ii 0), (ii c.from_), (ii c.to_), (ii 0), (ii 0), (ii c.a), (ii 0)]) [bx b_3 73 [(ii c.kind), (ii 0), (ii c.from_), (ii c.to_), (ii 0), (ii 0), (ii c.a), (ii 0)] true, bx b_1 73 (clL c) true] rfl fun w_10 a H HP => ?_
  refine nl (tn (rt (ibr (tr ?_))))
  refine H.ret1 (fn := Tryz.f120) Tryz.results120 (RV.cellN (vs := [(ii c.kind), (ii 0), (ii c.from_), (ii c.to_), (ii 0), (ii 0), (ii c.a), (ii 0)]) (b := b_3) (off := 0) (k := 8) (by kernel_rfl) (by kernel_rfl) (by kernel_rfl) rfl (HP.cells 0 rfl 0 8 (by kernel_rfl))) ?_
  have hu : usedCl c = ⟨c.kind, 0, c.from_, c.to_, 0, 0, c.a, 0⟩ := by unfold usedCl; simp [g5p, g5_p, g19p, g19_p, g31p, g42p]
  exact ⟨by rw [hu], HP.bl⟩
 have g42p := ne_of_beq_false g42
 refine sk (ibn (tn (sq (rg ?_))))
 refine H.v 53 (.agg #[(ii 0), (ii 0), (ii 0), (ii 0), (ii 0), (ii 0), (ii 0), (ii 0)]) fun a H => H.st HP 0 b_3 0 8 73 true (.agg #[(ii 0), (ii 0), (ii 0), (ii 0), (ii 0), (ii 0), (ii 0), (ii 0)]) [bx b_3 73 [(ii 0), (ii 0), (ii 0), (ii 0), (ii 0), (ii 0), (ii 0), (ii 0)] true, bx b_1 73 (clL c) true] rfl fun w_11 a H HP => ?_
 refine nl (tn (rt ?_))
 refine H.ret1 (fn := Tryz.f120) Tryz.results120 (RV.cellN (vs := [(ii 0), (ii 0), (ii 0), (ii 0), (ii 0), (ii 0), (ii 0), (ii 0)]) (b := b_3) (off := 0) (k := 8) (by kernel_rfl) (by kernel_rfl) (by kernel_rfl) rfl (HP.cells 0 rfl 0 8 (by kernel_rfl))) ?_
 have hu : usedCl c = ⟨0, 0, 0, 0, 0, 0, 0, 0⟩ := by unfold usedCl; simp [g5p, g5_p, g19p, g19_p, g31p, g42p]
 exact ⟨by rw [hu], HP.bl⟩
theorem rightsV_any (c : Cls) (w : World) : Calls Tryz.prog 75 #[(clV c)] w fun e w' => e = .returned (.bool (clP c)) ∧ Below w.heap.size w w' := by
 have HP := Hp.start w
 refine w_enter 95 [(0, (clV c))] Tryz.func75 rfl Tryz.ntmps75 (by kernel_rfl) (by kernel_rfl) fun a H => ?_
 refine sq (rg ?_)
 refine H.al HP 1 73 (clL c) fun b_1 w_2 a H HP => H.v 2 (.bool false) fun a H => ?_
 refine nl (tn (sq (sq ?_)))
 refine An.start (fun v => Hp w v [bx b_1 73 (clL c) true] []) 4 4 HP wide_follows rfl fun w_3 HP => ?_
 refine An.vw H (HP) 0 4 (clV c) (fun _ hS => ex_lN (clL c) (hS.cells 0 rfl 0 8 (by kernel_rfl))) fun a H => ?_
 refine An.vw H (HP) 1 5 (clV c) (fun _ hS => ex_lN (clL c) (hS.cells 0 rfl 0 8 (by kernel_rfl))) fun a H => ?_
 refine An.one 2 (by kernel_rfl) ?_
 refine Op.call H 6 rfl (by kernel_rfl) (Eq.trans (by kernel_rfl : _ = (callFunc 120 #[(clV c)]).run Tryz.prog w_3) (Tryz.call120 _ _)) (used_any c w_3) ?_
 rintro e w_4 ⟨rfl, hb⟩
 refine ⟨_, rfl, ?_⟩
 intro a H
 have HP := HP.next hb
 refine ⟨.inr (HP), ?_⟩
 refine An.pureE H (.inr (HP)) 3 7 (.bool (!(([c.kind, c.item, c.from_, c.to_, c.regions, c.n, c.a, c.b] : List Int) == [(usedCl c).kind, (usedCl c).item, (usedCl c).from_, (usedCl c).to_, (usedCl c).regions, (usedCl c).n, (usedCl c).a, (usedCl c).b]))) (.bool (!useP c)) rfl (by kernel_rfl) (by kernel_rfl) (fun _ _ _ h => h) (fun _ => ex_neL (a := [c.kind, c.item, c.from_, c.to_, c.regions, c.n, c.a, c.b]) (b := [(usedCl c).kind, (usedCl c).item, (usedCl c).from_, (usedCl c).to_, (usedCl c).regions, (usedCl c).n, (usedCl c).a, (usedCl c).b]) (by kernel_rfl) (by kernel_rfl) (by kernel_rfl) rfl) ((congrArg (fun b => Value.bool (!b)) (useP_eq c))) fun a H => ?_
 refine An.done (by kernel_rfl) ?_
 refine tn ?_
 refine w_if H rfl (fun g7 => ?_) (fun g7 => ?_)
 ·have g7p := not_is_true g7
  refine sq (rg ?_)
  refine H.v 2 (.bool false) fun a H => ?_
  refine nl (tn (rt (tr ?_)))
  refine H.r1 (.bool false) Tryz.results75 ?_
  exact ⟨by rw [show clP c = (false) from by simp [clP, bodyC, g7, g7p] <;> simp [bne]], HP.bl⟩
 have g7p := not_is_false g7
 refine sk (tn (sq (sq (rg ?_))))
 refine H.v 8 (pt b_1 0) fun a H => H.u 9 (ii c.kind) (ex_l1 (HP.cell 0 rfl 0 rfl)) fun a H => ?_
 refine nl (tn (bk (sq (sq (rg ?_)))))
 refine H.v 11 (.bool (c.kind == 1)) fun a H => H.v 10 (.bool (c.kind == 1)) fun a H => ?_
 refine nl (tn ?_)
 refine w_if H rfl (fun g10 => ?_) (fun g10 => ?_)
 ·have g10p := eq_of_beq g10
  have H := H.as 10 (.bool true) rfl (congrArg Value.bool g10)
  refine sk (tn ?_)
  refine w_ift H rfl ?_
  refine sq (rg ?_)
  refine H.u 13 (clV c) (ex_lN (clL c) (HP.cells 0 rfl 0 8 (by kernel_rfl))) fun a H => H.cb HP 14 (Tryz.call121 _ _) (isItem_any c w_4) fun w_5 hb a H HP => H.v 15 (.bool (itemC c)) fun a H => ?_
  refine H.split 15 rfl (fun g15 H => ?_) (fun g15 H => ?_)
  ·have g15p := g15
   refine H.v 16 (pt b_1 2) fun a H => H.u 17 (ii c.from_) (ex_l1 (HP.cell 0 rfl 2 rfl)) fun a H => H.v 18 (.bool (decide (0 ≤ c.from_))) fun a H => H.v 19 (.bool (decide (0 ≤ c.from_))) fun a H => H.v 20 (.bool (decide (0 ≤ c.from_))) fun a H => ?_
   refine H.split 20 rfl (fun g20 H => ?_) (fun g20 H => ?_)
   ·have g20p := of_decide_eq_true g20
    refine H.v 21 (pt b_1 2) fun a H => H.u 22 (ii c.from_) (ex_l1 (HP.cell 0 rfl 2 rfl)) fun a H => H.v 23 (pt b_1 3) fun a H => H.u 24 (ii c.to_) (ex_l1 (HP.cell 0 rfl 3 rfl)) fun a H => H.v 25 (.bool (decide (c.from_ < c.to_))) fun a H => H.v 26 (.bool (decide (c.from_ < c.to_))) fun a H => H.v 27 (.bool (decide (c.from_ < c.to_))) fun a H => ?_
    refine H.split 27 rfl (fun g27 H => ?_) (fun g27 H => ?_)
    ·have g27p := of_decide_eq_true g27
     refine H.v 28 (pt b_1 3) fun a H => H.u 29 (ii c.to_) (ex_l1 (HP.cell 0 rfl 3 rfl)) fun a H => H.v 30 (.bool (decide (c.to_ ≤ 10000000000))) fun a H => H.v 31 (.bool (decide (c.to_ ≤ 10000000000))) fun a H => H.v 2 (.bool (decide (c.to_ ≤ 10000000000))) fun a H => ?_
     refine nl (tn (rt (ibr (tr ?_))))
     refine H.r1 (.bool (decide (c.to_ ≤ 10000000000))) Tryz.results75 ?_
     exact ⟨by rw [show clP c = (decide (c.to_ ≤ 10000000000)) from by simp [clP, bodyC, g7, g15, g20, g27, g7p, g10p, g15p, g20p, g27p] <;> simp [bne]], HP.bl⟩
    have g27p := of_decide_eq_false g27
    iterate 3 refine H.sx rfl fun a H => ?_
    refine H.v 31 (.bool false) fun a H => H.v 2 (.bool false) fun a H => ?_
    refine nl (tn (rt (ibr (tr ?_))))
    refine H.r1 (.bool false) Tryz.results75 ?_
    exact ⟨by rw [show clP c = (false) from by simp [clP, bodyC, g7, g15, g20, g27, g7p, g10p, g15p, g20p, g27p] <;> simp [bne]], HP.bl⟩
   have g20p := of_decide_eq_false g20
   iterate 5 refine H.sx rfl fun a H => ?_
   refine H.v 26 (.bool false) fun a H => H.v 27 (.bool false) fun a H => ?_
   iterate 3 refine H.sx rfl fun a H => ?_
   refine H.v 31 (.bool false) fun a H => H.v 2 (.bool false) fun a H => ?_
   refine nl (tn (rt (ibr (tr ?_))))
   refine H.r1 (.bool false) Tryz.results75 ?_
   exact ⟨by rw [show clP c = (false) from by simp [clP, bodyC, g7, g15, g20, g7p, g10p, g15p, g20p] <;> simp [bne]], HP.bl⟩
  have g15p := g15
  iterate 3 refine H.sx rfl fun a H => ?_
  refine H.v 19 (.bool false) fun a H => H.v 20 (.bool false) fun a H => ?_
  iterate 5 refine H.sx rfl fun a H => ?_
  refine H.v 26 (.bool false) fun a H => H.v 27 (.bool false) fun a H => ?_
  iterate 3 refine H.sx rfl fun a H => ?_
  refine H.v 31 (.bool false) fun a H => H.v 2 (.bool false) fun a H => ?_
  refine nl (tn (rt (ibr (tr ?_))))
  refine H.r1 (.bool false) Tryz.results75 ?_
  exact ⟨by rw [show clP c = (false) from by simp [clP, bodyC, g7, g15, g7p, g10p, g15p] <;> simp [bne]], HP.bl⟩
 have g10p := ne_of_beq_false g10
 have H := H.as 10 (.bool false) rfl (congrArg Value.bool g10)
 refine rg ?_
 refine H.v 12 (.bool (c.kind == 2)) fun a H => H.v 10 (.bool (c.kind == 2)) fun a H => ?_
 refine nl (tn ?_)
 refine w_if H rfl (fun g10_ => ?_) (fun g10_ => ?_)
 ·have g10_p := eq_of_beq g10_
  have H := H.as 10 (.bool true) rfl (congrArg Value.bool g10_)
  refine sq (rg ?_)
  refine H.u 13 (clV c) (ex_lN (clL c) (HP.cells 0 rfl 0 8 (by kernel_rfl))) fun a H => H.cb HP 14 (Tryz.call121 _ _) (isItem_any c w_4) fun w_6 hb a H HP => H.v 15 (.bool (itemC c)) fun a H => ?_
  refine H.split 15 rfl (fun g15 H => ?_) (fun g15 H => ?_)
  ·have g15p := g15
   refine H.v 16 (pt b_1 2) fun a H => H.u 17 (ii c.from_) (ex_l1 (HP.cell 0 rfl 2 rfl)) fun a H => H.v 18 (.bool (decide (0 ≤ c.from_))) fun a H => H.v 19 (.bool (decide (0 ≤ c.from_))) fun a H => H.v 20 (.bool (decide (0 ≤ c.from_))) fun a H => ?_
   refine H.split 20 rfl (fun g20 H => ?_) (fun g20 H => ?_)
   ·have g20p := of_decide_eq_true g20
    refine H.v 21 (pt b_1 2) fun a H => H.u 22 (ii c.from_) (ex_l1 (HP.cell 0 rfl 2 rfl)) fun a H => H.v 23 (pt b_1 3) fun a H => H.u 24 (ii c.to_) (ex_l1 (HP.cell 0 rfl 3 rfl)) fun a H => H.v 25 (.bool (decide (c.from_ < c.to_))) fun a H => H.v 26 (.bool (decide (c.from_ < c.to_))) fun a H => H.v 27 (.bool (decide (c.from_ < c.to_))) fun a H => ?_
    refine H.split 27 rfl (fun g27 H => ?_) (fun g27 H => ?_)
    ·have g27p := of_decide_eq_true g27
     refine H.v 28 (pt b_1 3) fun a H => H.u 29 (ii c.to_) (ex_l1 (HP.cell 0 rfl 3 rfl)) fun a H => H.v 30 (.bool (decide (c.to_ ≤ 10000000000))) fun a H => H.v 31 (.bool (decide (c.to_ ≤ 10000000000))) fun a H => H.v 2 (.bool (decide (c.to_ ≤ 10000000000))) fun a H => ?_
     refine nl (tn (rt (ibr (tr ?_))))
     refine H.r1 (.bool (decide (c.to_ ≤ 10000000000))) Tryz.results75 ?_
     exact ⟨by rw [show clP c = (decide (c.to_ ≤ 10000000000)) from by simp [clP, bodyC, g7, g15, g20, g27, g7p, g10p, g10_p, g15p, g20p, g27p] <;> simp [bne]], HP.bl⟩
    have g27p := of_decide_eq_false g27
    iterate 3 refine H.sx rfl fun a H => ?_
    refine H.v 31 (.bool false) fun a H => H.v 2 (.bool false) fun a H => ?_
    refine nl (tn (rt (ibr (tr ?_))))
    refine H.r1 (.bool false) Tryz.results75 ?_
    exact ⟨by rw [show clP c = (false) from by simp [clP, bodyC, g7, g15, g20, g27, g7p, g10p, g10_p, g15p, g20p, g27p] <;> simp [bne]], HP.bl⟩
   have g20p := of_decide_eq_false g20
   iterate 5 refine H.sx rfl fun a H => ?_
   refine H.v 26 (.bool false) fun a H => H.v 27 (.bool false) fun a H => ?_
   iterate 3 refine H.sx rfl fun a H => ?_
   refine H.v 31 (.bool false) fun a H => H.v 2 (.bool false) fun a H => ?_
   refine nl (tn (rt (ibr (tr ?_))))
   refine H.r1 (.bool false) Tryz.results75 ?_
   exact ⟨by rw [show clP c = (false) from by simp [clP, bodyC, g7, g15, g20, g7p, g10p, g10_p, g15p, g20p] <;> simp [bne]], HP.bl⟩
  have g15p := g15
  iterate 3 refine H.sx rfl fun a H => ?_
  refine H.v 19 (.bool false) fun a H => H.v 20 (.bool false) fun a H => ?_
  iterate 5 refine H.sx rfl fun a H => ?_
  refine H.v 26 (.bool false) fun a H => H.v 27 (.bool false) fun a H => ?_
  iterate 3 refine H.sx rfl fun a H => ?_
  refine H.v 31 (.bool false) fun a H => H.v 2 (.bool false) fun a H => ?_
  refine nl (tn (rt (ibr (tr ?_))))
  refine H.r1 (.bool false) Tryz.results75 ?_
  exact ⟨by rw [show clP c = (false) from by simp [clP, bodyC, g7, g15, g7p, g10p, g10_p, g15p] <;> simp [bne]], HP.bl⟩
 have g10_p := ne_of_beq_false g10_
 have H := H.as 10 (.bool false) rfl (congrArg Value.bool g10_)
 refine sq (rg ?_)
 refine H.v 33 (.bool (c.kind == 3)) fun a H => H.v 32 (.bool (c.kind == 3)) fun a H => ?_
 refine nl (tn ?_)
 refine w_if H rfl (fun g32 => ?_) (fun g32 => ?_)
 ·have g32p := eq_of_beq g32
  refine sq (rg ?_)
  refine H.u 34 (clV c) (ex_lN (clL c) (HP.cells 0 rfl 0 8 (by kernel_rfl))) fun a H => H.cb HP 35 (Tryz.call121 _ _) (isItem_any c w_4) fun w_7 hb a H HP => H.v 36 (.bool (itemC c)) fun a H => ?_
  refine H.split 36 rfl (fun g36 H => ?_) (fun g36 H => ?_)
  ·have g36p := g36
   refine H.v 37 (pt b_1 5) fun a H => H.u 38 (ii c.n) (ex_l1 (HP.cell 0 rfl 5 rfl)) fun a H => H.cb HP 39 (Tryz.call122 _ _) (within6_any c.n 0 1000 w_7) fun w_8 hb a H HP => H.v 40 (.bool (inR c.n 0 1000)) fun a H => H.v 2 (.bool (inR c.n 0 1000)) fun a H => ?_
   refine nl (tn (rt (ibr (tr ?_))))
   refine H.r1 (.bool (inR c.n 0 1000)) Tryz.results75 ?_
   exact ⟨by rw [show clP c = (inR c.n 0 1000) from by simp [clP, bodyC, g7, g36, g7p, g10p, g10_p, g32p, g36p] <;> simp [bne]], HP.bl⟩
  have g36p := g36
  iterate 3 refine H.sx rfl fun a H => ?_
  refine H.v 40 (.bool false) fun a H => H.v 2 (.bool false) fun a H => ?_
  refine nl (tn (rt (ibr (tr ?_))))
  refine H.r1 (.bool false) Tryz.results75 ?_
  exact ⟨by rw [show clP c = (false) from by simp [clP, bodyC, g7, g36, g7p, g10p, g10_p, g32p, g36p] <;> simp [bne]], HP.bl⟩
 have g32p := ne_of_beq_false g32
 refine sq (rg ?_)
 refine H.v 42 (.bool (c.kind == 4)) fun a H => H.v 41 (.bool (c.kind == 4)) fun a H => ?_
 refine nl (tn ?_)
 refine w_if H rfl (fun g41 => ?_) (fun g41 => ?_)
 ·have g41p := eq_of_beq g41
  refine sq (rg ?_)
  refine H.u 43 (clV c) (ex_lN (clL c) (HP.cells 0 rfl 0 8 (by kernel_rfl))) fun a H => H.cb HP 44 (Tryz.call121 _ _) (isItem_any c w_4) fun w_9 hb a H HP => H.v 45 (.bool (itemC c)) fun a H => ?_
  refine H.split 45 rfl (fun g45 H => ?_) (fun g45 H => ?_)
  ·have g45p := g45
   refine H.v 46 (pt b_1 5) fun a H => H.u 47 (ii c.n) (ex_l1 (HP.cell 0 rfl 5 rfl)) fun a H => H.cb HP 48 (Tryz.call122 _ _) (within6_any c.n 0 10000000000 w_9) fun w_10 hb a H HP => H.v 49 (.bool (inR c.n 0 10000000000)) fun a H => H.v 2 (.bool (inR c.n 0 10000000000)) fun a H => ?_
   refine nl (tn (rt (ibr (tr ?_))))
   refine H.r1 (.bool (inR c.n 0 10000000000)) Tryz.results75 ?_
   exact ⟨by rw [show clP c = (inR c.n 0 10000000000) from by simp [clP, bodyC, g7, g45, g7p, g10p, g10_p, g32p, g41p, g45p] <;> simp [bne]], HP.bl⟩
  have g45p := g45
  iterate 3 refine H.sx rfl fun a H => ?_
  refine H.v 49 (.bool false) fun a H => H.v 2 (.bool false) fun a H => ?_
  refine nl (tn (rt (ibr (tr ?_))))
  refine H.r1 (.bool false) Tryz.results75 ?_
  exact ⟨by rw [show clP c = (false) from by simp [clP, bodyC, g7, g45, g7p, g10p, g10_p, g32p, g41p, g45p] <;> simp [bne]], HP.bl⟩
 have g41p := ne_of_beq_false g41
 refine sq (rg ?_)
 refine H.v 51 (.bool (c.kind == 5)) fun a H => H.v 50 (.bool (c.kind == 5)) fun a H => ?_
 refine nl (tn ?_)
 refine w_if H rfl (fun g50 => ?_) (fun g50 => ?_)
 ·have g50p := eq_of_beq g50
  refine sq (rg ?_)
  refine H.v 52 (pt b_1 6) fun a H => H.u 53 (ii c.a) (ex_l1 (HP.cell 0 rfl 6 rfl)) fun a H => H.cb HP 54 (Tryz.call122 _ _) (within6_any c.a 1 200 w_4) fun w_11 hb a H HP => H.v 55 (.bool (inR c.a 1 200)) fun a H => ?_
  refine H.split 55 rfl (fun g55 H => ?_) (fun g55 H => ?_)
  ·have g55p := inR_iff.1 g55
   refine H.v 56 (pt b_1 7) fun a H => H.u 57 (ii c.b) (ex_l1 (HP.cell 0 rfl 7 rfl)) fun a H => H.cb HP 58 (Tryz.call122 _ _) (within6_any c.b 1 200 w_11) fun w_12 hb a H HP => H.v 59 (.bool (inR c.b 1 200)) fun a H => H.v 3 (.bool (inR c.b 1 200)) fun a H => ?_
   refine nl (tn (sq (rg ?_)))
   refine H.v 60 (.bool (inR c.b 1 200)) fun a H => H.v 61 (.bool (inR c.b 1 200)) fun a H => ?_
   refine H.split 61 rfl (fun g61 H => ?_) (fun g61 H => ?_)
   ·have g61p := inR_iff.1 g61
    refine H.v 62 (pt b_1 6) fun a H => H.u 63 (ii c.a) (ex_l1 (HP.cell 0 rfl 6 rfl)) fun a H => H.v 64 (pt b_1 7) fun a H => H.u 65 (ii c.b) (ex_l1 (HP.cell 0 rfl 7 rfl)) fun a H => H.v 66 (.bool (c.a != c.b)) fun a H => H.v 67 (.bool (c.a != c.b)) fun a H => H.v 68 (.bool (c.a != c.b)) fun a H => ?_
    refine H.split 68 rfl (fun g68 H => ?_) (fun g68 H => ?_)
    ·have g68p := bne_iff_ne.1 g68
     refine H.v 69 (pt b_1 5) fun a H => H.u 70 (ii c.n) (ex_l1 (HP.cell 0 rfl 5 rfl)) fun a H => H.cb HP 71 (Tryz.call122 _ _) (within6_any c.n 0 86400 w_12) fun w_13 hb a H HP => H.v 72 (.bool (inR c.n 0 86400)) fun a H => H.v 2 (.bool (inR c.n 0 86400)) fun a H => ?_
     refine nl (tn (rt (ibr (tr ?_))))
     refine H.r1 (.bool (inR c.n 0 86400)) Tryz.results75 ?_
     exact ⟨by rw [show clP c = (inR c.n 0 86400) from by simp [clP, bodyC, g7, g55, g61, g68, g7p, g10p, g10_p, g32p, g41p, g50p, g55p, g61p, g68p] <;> simp [bne]], HP.bl⟩
    have g68p := eq_of_bne_false g68
    iterate 3 refine H.sx rfl fun a H => ?_
    refine H.v 72 (.bool false) fun a H => H.v 2 (.bool false) fun a H => ?_
    refine nl (tn (rt (ibr (tr ?_))))
    refine H.r1 (.bool false) Tryz.results75 ?_
    exact ⟨by rw [show clP c = (false) from by simp [clP, bodyC, g7, g55, g61, g68, g7p, g10p, g10_p, g32p, g41p, g50p, g55p, g61p, g68p] <;> simp [bne]], HP.bl⟩
   have g61p := inR_not.1 g61
   iterate 5 refine H.sx rfl fun a H => ?_
   refine H.v 67 (.bool false) fun a H => H.v 68 (.bool false) fun a H => ?_
   iterate 3 refine H.sx rfl fun a H => ?_
   refine H.v 72 (.bool false) fun a H => H.v 2 (.bool false) fun a H => ?_
   refine nl (tn (rt (ibr (tr ?_))))
   refine H.r1 (.bool false) Tryz.results75 ?_
   exact ⟨by rw [show clP c = (false) from by simp [clP, bodyC, g7, g55, g61, g7p, g10p, g10_p, g32p, g41p, g50p, g55p, g61p] <;> simp [bne]], HP.bl⟩
  have g55p := inR_not.1 g55
  iterate 3 refine H.sx rfl fun a H => ?_
  refine H.v 59 (.bool false) fun a H => H.v 3 (.bool false) fun a H => ?_
  refine nl (tn (sq (rg ?_)))
  refine H.v 60 (.bool false) fun a H => H.v 61 (.bool false) fun a H => ?_
  iterate 5 refine H.sx rfl fun a H => ?_
  refine H.v 67 (.bool false) fun a H => H.v 68 (.bool false) fun a H => ?_
  iterate 3 refine H.sx rfl fun a H => ?_
  refine H.v 72 (.bool false) fun a H => H.v 2 (.bool false) fun a H => ?_
  refine nl (tn (rt (ibr (tr ?_))))
  refine H.r1 (.bool false) Tryz.results75 ?_
  exact ⟨by rw [show clP c = (false) from by simp [clP, bodyC, g7, g55, g7p, g10p, g10_p, g32p, g41p, g50p, g55p] <;> simp [bne]], HP.bl⟩
 have g50p := ne_of_beq_false g50
 refine sq (rg ?_)
 refine H.v 74 (.bool (c.kind == 6)) fun a H => H.v 73 (.bool (c.kind == 6)) fun a H => ?_
 refine nl (tn ?_)
 refine w_if H rfl (fun g73 => ?_) (fun g73 => ?_)
 ·have g73p := eq_of_beq g73
  refine sq (rg ?_)
  refine H.v 75 (pt b_1 6) fun a H => H.u 76 (ii c.a) (ex_l1 (HP.cell 0 rfl 6 rfl)) fun a H => H.cb HP 77 (Tryz.call122 _ _) (within6_any c.a 1 3 w_4) fun w_14 hb a H HP => H.v 78 (.bool (inR c.a 1 3)) fun a H => ?_
  refine H.split 78 rfl (fun g78 H => ?_) (fun g78 H => ?_)
  ·have g78p := inR_iff.1 g78
   refine H.v 79 (pt b_1 2) fun a H => H.u 80 (ii c.from_) (ex_l1 (HP.cell 0 rfl 2 rfl)) fun a H => H.cb HP 81 (Tryz.call123 _ _) (isTime_any c.from_ w_14) fun w_15 hb a H HP => H.v 82 (.bool (timeC c.from_)) fun a H => H.v 83 (.bool (timeC c.from_)) fun a H => ?_
   refine H.split 83 rfl (fun g83 H => ?_) (fun g83 H => ?_)
   ·have g83p := g83
    refine H.v 84 (pt b_1 3) fun a H => H.u 85 (ii c.to_) (ex_l1 (HP.cell 0 rfl 3 rfl)) fun a H => H.cb HP 86 (Tryz.call123 _ _) (isTime_any c.to_ w_15) fun w_16 hb a H HP => H.v 87 (.bool (timeC c.to_)) fun a H => H.v 88 (.bool (timeC c.to_)) fun a H => ?_
    refine H.split 88 rfl (fun g88 H => ?_) (fun g88 H => ?_)
    ·have g88p := g88
     refine H.v 89 (pt b_1 2) fun a H => H.u 90 (ii c.from_) (ex_l1 (HP.cell 0 rfl 2 rfl)) fun a H => H.v 91 (pt b_1 3) fun a H => H.u 92 (ii c.to_) (ex_l1 (HP.cell 0 rfl 3 rfl)) fun a H => H.v 93 (.bool (c.from_ != c.to_)) fun a H => H.v 94 (.bool (c.from_ != c.to_)) fun a H => H.v 2 (.bool (c.from_ != c.to_)) fun a H => ?_
     refine nl (tn (rt (ibr (tr ?_))))
     refine H.r1 (.bool (c.from_ != c.to_)) Tryz.results75 ?_
     exact ⟨by rw [show clP c = (c.from_ != c.to_) from by simp [clP, bodyC, g7, g78, g83, g88, g7p, g10p, g10_p, g32p, g41p, g50p, g73p, g78p, g83p, g88p] <;> simp [bne]], HP.bl⟩
    have g88p := g88
    iterate 5 refine H.sx rfl fun a H => ?_
    refine H.v 94 (.bool false) fun a H => H.v 2 (.bool false) fun a H => ?_
    refine nl (tn (rt (ibr (tr ?_))))
    refine H.r1 (.bool false) Tryz.results75 ?_
    exact ⟨by rw [show clP c = (false) from by simp [clP, bodyC, g7, g78, g83, g88, g7p, g10p, g10_p, g32p, g41p, g50p, g73p, g78p, g83p, g88p] <;> simp [bne]], HP.bl⟩
   have g83p := g83
   iterate 3 refine H.sx rfl fun a H => ?_
   refine H.v 87 (.bool false) fun a H => H.v 88 (.bool false) fun a H => ?_
   iterate 5 refine H.sx rfl fun a H => ?_
   refine H.v 94 (.bool false) fun a H => H.v 2 (.bool false) fun a H => ?_
   refine nl (tn (rt (ibr (tr ?_))))
   refine H.r1 (.bool false) Tryz.results75 ?_
   exact ⟨by rw [show clP c = (false) from by simp [clP, bodyC, g7, g78, g83, g7p, g10p, g10_p, g32p, g41p, g50p, g73p, g78p, g83p] <;> simp [bne]], HP.bl⟩
  have g78p := inR_not.1 g78
  iterate 3 refine H.sx rfl fun a H => ?_
  refine H.v 82 (.bool false) fun a H => H.v 83 (.bool false) fun a H => ?_
  iterate 3 refine H.sx rfl fun a H => ?_
  refine H.v 87 (.bool false) fun a H => H.v 88 (.bool false) fun a H => ?_
  iterate 5 refine H.sx rfl fun a H => ?_
  refine H.v 94 (.bool false) fun a H => H.v 2 (.bool false) fun a H => ?_
  refine nl (tn (rt (ibr (tr ?_))))
  refine H.r1 (.bool false) Tryz.results75 ?_
  exact ⟨by rw [show clP c = (false) from by simp [clP, bodyC, g7, g78, g7p, g10p, g10_p, g32p, g41p, g50p, g73p, g78p] <;> simp [bne]], HP.bl⟩
 have g73p := ne_of_beq_false g73
 refine sk (ibn (tn (sq (rg ?_))))
 refine H.v 2 (.bool false) fun a H => ?_
 refine nl (tn (rt ?_))
 refine H.r1 (.bool false) Tryz.results75 ?_
 exact ⟨by rw [show clP c = (false) from by simp [clP, bodyC, g7, g7p, g10p, g10_p, g32p, g41p, g50p, g73p] <;> simp [bne]], HP.bl⟩
theorem rrightsV_any (c : Cls) (w : World) : Calls Tryz.prog 41 #[(clV c)] w fun e w' => e = .returned (.bool (clP c)) ∧ Below w.heap.size w w' := by
 have HP := Hp.start w
 refine w_enter 206 [(0, (clV c))] Tryz.func41 rfl Tryz.ntmps41 (by kernel_rfl) (by kernel_rfl) fun a H => ?_
 refine sq (rg ?_)
 refine H.al HP 1 73 (clL c) fun b_1 w_2 a H HP => H.v 2 (.bool false) fun a H => ?_
 refine nl (tn ?_)
 refine w_cut (fun a wv => Sl 206 [(3, (.bool (itemC c))), (1, (pt b_1 0)), (2, (.bool false))] a ∧ Hp w wv [bx b_1 73 (clL c) true] []) ?_ ?_
 ·
  refine rg ?_
  refine H.v 6 (pt b_1 1) fun a H => H.u 7 (ii c.item) (ex_l1 (HP.cell 0 rfl 1 rfl)) fun a H => H.cb HP 8 (Tryz.call79 _ _) (rwithin6_any c.item 1 4611686018427387903 w_2) fun w_3 hb a H HP => H.v 9 (.bool (inR c.item 1 4611686018427387903)) fun a H => ?_
  refine H.split 9 rfl (fun g9 H => ?_) (fun g9 H => ?_)
  ·have g9p := inR_iff.1 g9
   refine H.v 10 (pt b_1 4) fun a H => H.u 11 (ii c.regions) (ex_l1 (HP.cell 0 rfl 4 rfl)) fun a H => H.cb HP 12 (Tryz.call79 _ _) (rwithin6_any c.regions 1 255 w_3) fun w_4 hb a H HP => H.v 13 (.bool (inR c.regions 1 255)) fun a H => H.v 3 (.bool (inR c.regions 1 255)) fun a H => ?_
   refine nl (tn ?_)
   have H := H.as 3 (.bool (itemC c)) rfl (congrArg Value.bool (by simp [itemC, g9]))
   exact ⟨H.keep (by kernel_rfl), HP⟩
  have g9p := inR_not.1 g9
  iterate 3 refine H.sx rfl fun a H => ?_
  refine H.v 13 (.bool false) fun a H => H.v 3 (.bool false) fun a H => ?_
  refine nl (tn ?_)
  have H := H.as 3 (.bool (itemC c)) rfl (congrArg Value.bool (by simp [itemC, g9]))
  exact ⟨H.keep (by kernel_rfl), HP⟩
 
 rintro a w_5 ⟨H, HP⟩
 refine sq (sq (rg ?_))
 refine H.v 14 (pt b_1 0) fun a H => H.u 15 (ii c.kind) (ex_l1 (HP.cell 0 rfl 0 rfl)) fun a H => ?_
 refine nl (tn (bk (sq (sq (rg ?_)))))
 refine H.v 17 (.bool (c.kind == 1)) fun a H => H.v 16 (.bool (c.kind == 1)) fun a H => ?_
 refine nl (tn ?_)
 refine w_if H rfl (fun g16 => ?_) (fun g16 => ?_)
 ·have g16p := eq_of_beq g16
  have H := H.as 16 (.bool true) rfl (congrArg Value.bool g16)
  refine sk (tn ?_)
  refine w_ift H rfl ?_
  refine sq (rg ?_)
  refine H.v 19 (.bool (itemC c)) fun a H => H.v 20 (.bool (itemC c)) fun a H => ?_
  refine H.split 20 rfl (fun g20 H => ?_) (fun g20 H => ?_)
  ·have g20p := g20
   refine H.v 21 (pt b_1 2) fun a H => H.u 22 (ii c.from_) (ex_l1 (HP.cell 0 rfl 2 rfl)) fun a H => H.v 23 (.bool (decide (c.from_ ≥ 0))) fun a H => H.v 24 (.bool (decide (c.from_ ≥ 0))) fun a H => H.v 25 (.bool (decide (c.from_ ≥ 0))) fun a H => ?_
   refine H.split 25 rfl (fun g25 H => ?_) (fun g25 H => ?_)
   ·have g25p := of_decide_eq_true g25
    refine H.v 26 (pt b_1 2) fun a H => H.u 27 (ii c.from_) (ex_l1 (HP.cell 0 rfl 2 rfl)) fun a H => H.v 28 (pt b_1 3) fun a H => H.u 29 (ii c.to_) (ex_l1 (HP.cell 0 rfl 3 rfl)) fun a H => H.v 30 (.bool (decide (c.from_ < c.to_))) fun a H => H.v 31 (.bool (decide (c.from_ < c.to_))) fun a H => H.v 32 (.bool (decide (c.from_ < c.to_))) fun a H => ?_
    refine H.split 32 rfl (fun g32 H => ?_) (fun g32 H => ?_)
    ·have g32p := of_decide_eq_true g32
     refine H.v 33 (pt b_1 3) fun a H => H.u 34 (ii c.to_) (ex_l1 (HP.cell 0 rfl 3 rfl)) fun a H => H.v 35 (.bool (decide (c.to_ ≤ 10000000000))) fun a H => H.v 36 (.bool (decide (c.to_ ≤ 10000000000))) fun a H => H.v 37 (.bool (decide (c.to_ ≤ 10000000000))) fun a H => ?_
     refine H.split 37 rfl (fun g37 H => ?_) (fun g37 H => ?_)
     ·have g37p := of_decide_eq_true g37
      refine H.v 38 (pt b_1 5) fun a H => H.u 39 (ii c.n) (ex_l1 (HP.cell 0 rfl 5 rfl)) fun a H => H.v 40 (.bool (c.n == 0)) fun a H => H.v 41 (.bool (c.n == 0)) fun a H => H.v 42 (.bool (c.n == 0)) fun a H => ?_
      refine H.split 42 rfl (fun g42 H => ?_) (fun g42 H => ?_)
      ·have g42p := eq_of_beq g42
       refine H.v 43 (pt b_1 6) fun a H => H.u 44 (ii c.a) (ex_l1 (HP.cell 0 rfl 6 rfl)) fun a H => H.v 45 (.bool (c.a == 0)) fun a H => H.v 46 (.bool (c.a == 0)) fun a H => H.v 47 (.bool (c.a == 0)) fun a H => ?_
       refine H.split 47 rfl (fun g47 H => ?_) (fun g47 H => ?_)
       ·have g47p := eq_of_beq g47
        refine H.v 48 (pt b_1 7) fun a H => H.u 49 (ii c.b) (ex_l1 (HP.cell 0 rfl 7 rfl)) fun a H => H.v 50 (.bool (c.b == 0)) fun a H => H.v 51 (.bool (c.b == 0)) fun a H => H.v 2 (.bool (c.b == 0)) fun a H => ?_
        refine nl (tn (rt (ibr (tr ?_))))
        refine H.r1 (.bool (c.b == 0)) Tryz.results41 ?_
        exact ⟨by rw [show clP c = (c.b == 0) from by simp [clP, useP, bodyC, timeC, g20, g25, g32, g37, g42, g47, g16p, g20p, g25p, g32p, g37p, g42p, g47p] <;> simp [bne]], HP.bl⟩
       have g47p := ne_of_beq_false g47
       iterate 3 refine H.sx rfl fun a H => ?_
       refine H.v 51 (.bool false) fun a H => H.v 2 (.bool false) fun a H => ?_
       refine nl (tn (rt (ibr (tr ?_))))
       refine H.r1 (.bool false) Tryz.results41 ?_
       exact ⟨by rw [show clP c = (false) from by simp [clP, useP, bodyC, timeC, g20, g25, g32, g37, g42, g47, g16p, g20p, g25p, g32p, g37p, g42p, g47p] <;> simp [bne]], HP.bl⟩
      have g42p := ne_of_beq_false g42
      iterate 3 refine H.sx rfl fun a H => ?_
      refine H.v 46 (.bool false) fun a H => H.v 47 (.bool false) fun a H => ?_
      iterate 3 refine H.sx rfl fun a H => ?_
      refine H.v 51 (.bool false) fun a H => H.v 2 (.bool false) fun a H => ?_
      refine nl (tn (rt (ibr (tr ?_))))
      refine H.r1 (.bool false) Tryz.results41 ?_
      exact ⟨by rw [show clP c = (false) from by simp [clP, useP, bodyC, timeC, g20, g25, g32, g37, g42, g16p, g20p, g25p, g32p, g37p, g42p] <;> simp [bne]], HP.bl⟩
     have g37p := of_decide_eq_false g37
     iterate 3 refine H.sx rfl fun a H => ?_
     refine H.v 41 (.bool false) fun a H => H.v 42 (.bool false) fun a H => ?_
     iterate 3 refine H.sx rfl fun a H => ?_
     refine H.v 46 (.bool false) fun a H => H.v 47 (.bool false) fun a H => ?_
     iterate 3 refine H.sx rfl fun a H => ?_
     refine H.v 51 (.bool false) fun a H => H.v 2 (.bool false) fun a H => ?_
     refine nl (tn (rt (ibr (tr ?_))))
     refine H.r1 (.bool false) Tryz.results41 ?_
     exact ⟨by rw [show clP c = (false) from by simp [clP, useP, bodyC, timeC, g20, g25, g32, g37, g16p, g20p, g25p, g32p, g37p] <;> simp [bne]], HP.bl⟩
    have g32p := of_decide_eq_false g32
    iterate 3 refine H.sx rfl fun a H => ?_
    refine H.v 36 (.bool false) fun a H => H.v 37 (.bool false) fun a H => ?_
    iterate 3 refine H.sx rfl fun a H => ?_
    refine H.v 41 (.bool false) fun a H => H.v 42 (.bool false) fun a H => ?_
    iterate 3 refine H.sx rfl fun a H => ?_
    refine H.v 46 (.bool false) fun a H => H.v 47 (.bool false) fun a H => ?_
    iterate 3 refine H.sx rfl fun a H => ?_
    refine H.v 51 (.bool false) fun a H => H.v 2 (.bool false) fun a H => ?_
    refine nl (tn (rt (ibr (tr ?_))))
    refine H.r1 (.bool false) Tryz.results41 ?_
    exact ⟨by rw [show clP c = (false) from by simp [clP, useP, bodyC, timeC, g20, g25, g32, g16p, g20p, g25p, g32p] <;> simp [bne]], HP.bl⟩
   have g25p := of_decide_eq_false g25
   iterate 5 refine H.sx rfl fun a H => ?_
   refine H.v 31 (.bool false) fun a H => H.v 32 (.bool false) fun a H => ?_
   iterate 3 refine H.sx rfl fun a H => ?_
   refine H.v 36 (.bool false) fun a H => H.v 37 (.bool false) fun a H => ?_
   iterate 3 refine H.sx rfl fun a H => ?_
   refine H.v 41 (.bool false) fun a H => H.v 42 (.bool false) fun a H => ?_
   iterate 3 refine H.sx rfl fun a H => ?_
   refine H.v 46 (.bool false) fun a H => H.v 47 (.bool false) fun a H => ?_
   iterate 3 refine H.sx rfl fun a H => ?_
   refine H.v 51 (.bool false) fun a H => H.v 2 (.bool false) fun a H => ?_
   refine nl (tn (rt (ibr (tr ?_))))
   refine H.r1 (.bool false) Tryz.results41 ?_
   exact ⟨by rw [show clP c = (false) from by simp [clP, useP, bodyC, timeC, g20, g25, g16p, g20p, g25p] <;> simp [bne]], HP.bl⟩
  have g20p := g20
  iterate 3 refine H.sx rfl fun a H => ?_
  refine H.v 24 (.bool false) fun a H => H.v 25 (.bool false) fun a H => ?_
  iterate 5 refine H.sx rfl fun a H => ?_
  refine H.v 31 (.bool false) fun a H => H.v 32 (.bool false) fun a H => ?_
  iterate 3 refine H.sx rfl fun a H => ?_
  refine H.v 36 (.bool false) fun a H => H.v 37 (.bool false) fun a H => ?_
  iterate 3 refine H.sx rfl fun a H => ?_
  refine H.v 41 (.bool false) fun a H => H.v 42 (.bool false) fun a H => ?_
  iterate 3 refine H.sx rfl fun a H => ?_
  refine H.v 46 (.bool false) fun a H => H.v 47 (.bool false) fun a H => ?_
  iterate 3 refine H.sx rfl fun a H => ?_
  refine H.v 51 (.bool false) fun a H => H.v 2 (.bool false) fun a H => ?_
  refine nl (tn (rt (ibr (tr ?_))))
  refine H.r1 (.bool false) Tryz.results41 ?_
  exact ⟨by rw [show clP c = (false) from by simp [clP, useP, bodyC, timeC, g20, g16p, g20p] <;> simp [bne]], HP.bl⟩
 have g16p := ne_of_beq_false g16
 have H := H.as 16 (.bool false) rfl (congrArg Value.bool g16)
 refine rg ?_
 refine H.v 18 (.bool (c.kind == 2)) fun a H => H.v 16 (.bool (c.kind == 2)) fun a H => ?_
 refine nl (tn ?_)
 refine w_if H rfl (fun g16_ => ?_) (fun g16_ => ?_)
 ·have g16_p := eq_of_beq g16_
  have H := H.as 16 (.bool true) rfl (congrArg Value.bool g16_)
  refine sq (rg ?_)
  refine H.v 19 (.bool (itemC c)) fun a H => H.v 20 (.bool (itemC c)) fun a H => ?_
  refine H.split 20 rfl (fun g20 H => ?_) (fun g20 H => ?_)
  ·have g20p := g20
   refine H.v 21 (pt b_1 2) fun a H => H.u 22 (ii c.from_) (ex_l1 (HP.cell 0 rfl 2 rfl)) fun a H => H.v 23 (.bool (decide (c.from_ ≥ 0))) fun a H => H.v 24 (.bool (decide (c.from_ ≥ 0))) fun a H => H.v 25 (.bool (decide (c.from_ ≥ 0))) fun a H => ?_
   refine H.split 25 rfl (fun g25 H => ?_) (fun g25 H => ?_)
   ·have g25p := of_decide_eq_true g25
    refine H.v 26 (pt b_1 2) fun a H => H.u 27 (ii c.from_) (ex_l1 (HP.cell 0 rfl 2 rfl)) fun a H => H.v 28 (pt b_1 3) fun a H => H.u 29 (ii c.to_) (ex_l1 (HP.cell 0 rfl 3 rfl)) fun a H => H.v 30 (.bool (decide (c.from_ < c.to_))) fun a H => H.v 31 (.bool (decide (c.from_ < c.to_))) fun a H => H.v 32 (.bool (decide (c.from_ < c.to_))) fun a H => ?_
    refine H.split 32 rfl (fun g32 H => ?_) (fun g32 H => ?_)
    ·have g32p := of_decide_eq_true g32
     refine H.v 33 (pt b_1 3) fun a H => H.u 34 (ii c.to_) (ex_l1 (HP.cell 0 rfl 3 rfl)) fun a H => H.v 35 (.bool (decide (c.to_ ≤ 10000000000))) fun a H => H.v 36 (.bool (decide (c.to_ ≤ 10000000000))) fun a H => H.v 37 (.bool (decide (c.to_ ≤ 10000000000))) fun a H => ?_
     refine H.split 37 rfl (fun g37 H => ?_) (fun g37 H => ?_)
     ·have g37p := of_decide_eq_true g37
      refine H.v 38 (pt b_1 5) fun a H => H.u 39 (ii c.n) (ex_l1 (HP.cell 0 rfl 5 rfl)) fun a H => H.v 40 (.bool (c.n == 0)) fun a H => H.v 41 (.bool (c.n == 0)) fun a H => H.v 42 (.bool (c.n == 0)) fun a H => ?_
      refine H.split 42 rfl (fun g42 H => ?_) (fun g42 H => ?_)
      ·have g42p := eq_of_beq g42
       refine H.v 43 (pt b_1 6) fun a H => H.u 44 (ii c.a) (ex_l1 (HP.cell 0 rfl 6 rfl)) fun a H => H.v 45 (.bool (c.a == 0)) fun a H => H.v 46 (.bool (c.a == 0)) fun a H => H.v 47 (.bool (c.a == 0)) fun a H => ?_
       refine H.split 47 rfl (fun g47 H => ?_) (fun g47 H => ?_)
       ·have g47p := eq_of_beq g47
        refine H.v 48 (pt b_1 7) fun a H => H.u 49 (ii c.b) (ex_l1 (HP.cell 0 rfl 7 rfl)) fun a H => H.v 50 (.bool (c.b == 0)) fun a H => H.v 51 (.bool (c.b == 0)) fun a H => H.v 2 (.bool (c.b == 0)) fun a H => ?_
        refine nl (tn (rt (ibr (tr ?_))))
        refine H.r1 (.bool (c.b == 0)) Tryz.results41 ?_
        exact ⟨by rw [show clP c = (c.b == 0) from by simp [clP, useP, bodyC, timeC, g20, g25, g32, g37, g42, g47, g16p, g16_p, g20p, g25p, g32p, g37p, g42p, g47p] <;> simp [bne]], HP.bl⟩
       have g47p := ne_of_beq_false g47
       iterate 3 refine H.sx rfl fun a H => ?_
       refine H.v 51 (.bool false) fun a H => H.v 2 (.bool false) fun a H => ?_
       refine nl (tn (rt (ibr (tr ?_))))
       refine H.r1 (.bool false) Tryz.results41 ?_
       exact ⟨by rw [show clP c = (false) from by simp [clP, useP, bodyC, timeC, g20, g25, g32, g37, g42, g47, g16p, g16_p, g20p, g25p, g32p, g37p, g42p, g47p] <;> simp [bne]], HP.bl⟩
      have g42p := ne_of_beq_false g42
      iterate 3 refine H.sx rfl fun a H => ?_
      refine H.v 46 (.bool false) fun a H => H.v 47 (.bool false) fun a H => ?_
      iterate 3 refine H.sx rfl fun a H => ?_
      refine H.v 51 (.bool false) fun a H => H.v 2 (.bool false) fun a H => ?_
      refine nl (tn (rt (ibr (tr ?_))))
      refine H.r1 (.bool false) Tryz.results41 ?_
      exact ⟨by rw [show clP c = (false) from by simp [clP, useP, bodyC, timeC, g20, g25, g32, g37, g42, g16p, g16_p, g20p, g25p, g32p, g37p, g42p] <;> simp [bne]], HP.bl⟩
     have g37p := of_decide_eq_false g37
     iterate 3 refine H.sx rfl fun a H => ?_
     refine H.v 41 (.bool false) fun a H => H.v 42 (.bool false) fun a H => ?_
     iterate 3 refine H.sx rfl fun a H => ?_
     refine H.v 46 (.bool false) fun a H => H.v 47 (.bool false) fun a H => ?_
     iterate 3 refine H.sx rfl fun a H => ?_
     refine H.v 51 (.bool false) fun a H => H.v 2 (.bool false) fun a H => ?_
     refine nl (tn (rt (ibr (tr ?_))))
     refine H.r1 (.bool false) Tryz.results41 ?_
     exact ⟨by rw [show clP c = (false) from by simp [clP, useP, bodyC, timeC, g20, g25, g32, g37, g16p, g16_p, g20p, g25p, g32p, g37p] <;> simp [bne]], HP.bl⟩
    have g32p := of_decide_eq_false g32
    iterate 3 refine H.sx rfl fun a H => ?_
    refine H.v 36 (.bool false) fun a H => H.v 37 (.bool false) fun a H => ?_
    iterate 3 refine H.sx rfl fun a H => ?_
    refine H.v 41 (.bool false) fun a H => H.v 42 (.bool false) fun a H => ?_
    iterate 3 refine H.sx rfl fun a H => ?_
    refine H.v 46 (.bool false) fun a H => H.v 47 (.bool false) fun a H => ?_
    iterate 3 refine H.sx rfl fun a H => ?_
    refine H.v 51 (.bool false) fun a H => H.v 2 (.bool false) fun a H => ?_
    refine nl (tn (rt (ibr (tr ?_))))
    refine H.r1 (.bool false) Tryz.results41 ?_
    exact ⟨by rw [show clP c = (false) from by simp [clP, useP, bodyC, timeC, g20, g25, g32, g16p, g16_p, g20p, g25p, g32p] <;> simp [bne]], HP.bl⟩
   have g25p := of_decide_eq_false g25
   iterate 5 refine H.sx rfl fun a H => ?_
   refine H.v 31 (.bool false) fun a H => H.v 32 (.bool false) fun a H => ?_
   iterate 3 refine H.sx rfl fun a H => ?_
   refine H.v 36 (.bool false) fun a H => H.v 37 (.bool false) fun a H => ?_
   iterate 3 refine H.sx rfl fun a H => ?_
   refine H.v 41 (.bool false) fun a H => H.v 42 (.bool false) fun a H => ?_
   iterate 3 refine H.sx rfl fun a H => ?_
   refine H.v 46 (.bool false) fun a H => H.v 47 (.bool false) fun a H => ?_
   iterate 3 refine H.sx rfl fun a H => ?_
   refine H.v 51 (.bool false) fun a H => H.v 2 (.bool false) fun a H => ?_
   refine nl (tn (rt (ibr (tr ?_))))
   refine H.r1 (.bool false) Tryz.results41 ?_
   exact ⟨by rw [show clP c = (false) from by simp [clP, useP, bodyC, timeC, g20, g25, g16p, g16_p, g20p, g25p] <;> simp [bne]], HP.bl⟩
  have g20p := g20
  iterate 3 refine H.sx rfl fun a H => ?_
  refine H.v 24 (.bool false) fun a H => H.v 25 (.bool false) fun a H => ?_
  iterate 5 refine H.sx rfl fun a H => ?_
  refine H.v 31 (.bool false) fun a H => H.v 32 (.bool false) fun a H => ?_
  iterate 3 refine H.sx rfl fun a H => ?_
  refine H.v 36 (.bool false) fun a H => H.v 37 (.bool false) fun a H => ?_
  iterate 3 refine H.sx rfl fun a H => ?_
  refine H.v 41 (.bool false) fun a H => H.v 42 (.bool false) fun a H => ?_
  iterate 3 refine H.sx rfl fun a H => ?_
  refine H.v 46 (.bool false) fun a H => H.v 47 (.bool false) fun a H => ?_
  iterate 3 refine H.sx rfl fun a H => ?_
  refine H.v 51 (.bool false) fun a H => H.v 2 (.bool false) fun a H => ?_
  refine nl (tn (rt (ibr (tr ?_))))
  refine H.r1 (.bool false) Tryz.results41 ?_
  exact ⟨by rw [show clP c = (false) from by simp [clP, useP, bodyC, timeC, g20, g16p, g16_p, g20p] <;> simp [bne]], HP.bl⟩
 have g16_p := ne_of_beq_false g16_
 have H := H.as 16 (.bool false) rfl (congrArg Value.bool g16_)
 refine sq (rg ?_)
 refine H.v 53 (.bool (c.kind == 3)) fun a H => H.v 52 (.bool (c.kind == 3)) fun a H => ?_
 refine nl (tn ?_)
 refine w_if H rfl (fun g52 => ?_) (fun g52 => ?_)
 ·have g52p := eq_of_beq g52
  refine sq (rg ?_)
  refine H.v 54 (.bool (itemC c)) fun a H => H.v 55 (.bool (itemC c)) fun a H => ?_
  refine H.split 55 rfl (fun g55 H => ?_) (fun g55 H => ?_)
  ·have g55p := g55
   refine H.v 56 (pt b_1 5) fun a H => H.u 57 (ii c.n) (ex_l1 (HP.cell 0 rfl 5 rfl)) fun a H => H.cb HP 58 (Tryz.call79 _ _) (rwithin6_any c.n 0 1000 w_5) fun w_6 hb a H HP => H.v 59 (.bool (inR c.n 0 1000)) fun a H => H.v 60 (.bool (inR c.n 0 1000)) fun a H => ?_
   refine H.split 60 rfl (fun g60 H => ?_) (fun g60 H => ?_)
   ·have g60p := inR_iff.1 g60
    refine H.v 61 (pt b_1 2) fun a H => H.u 62 (ii c.from_) (ex_l1 (HP.cell 0 rfl 2 rfl)) fun a H => H.v 63 (.bool (c.from_ == 0)) fun a H => H.v 64 (.bool (c.from_ == 0)) fun a H => H.v 65 (.bool (c.from_ == 0)) fun a H => ?_
    refine H.split 65 rfl (fun g65 H => ?_) (fun g65 H => ?_)
    ·have g65p := eq_of_beq g65
     refine H.v 66 (pt b_1 3) fun a H => H.u 67 (ii c.to_) (ex_l1 (HP.cell 0 rfl 3 rfl)) fun a H => H.v 68 (.bool (c.to_ == 0)) fun a H => H.v 69 (.bool (c.to_ == 0)) fun a H => H.v 70 (.bool (c.to_ == 0)) fun a H => ?_
     refine H.split 70 rfl (fun g70 H => ?_) (fun g70 H => ?_)
     ·have g70p := eq_of_beq g70
      refine H.v 71 (pt b_1 6) fun a H => H.u 72 (ii c.a) (ex_l1 (HP.cell 0 rfl 6 rfl)) fun a H => H.v 73 (.bool (c.a == 0)) fun a H => H.v 74 (.bool (c.a == 0)) fun a H => H.v 75 (.bool (c.a == 0)) fun a H => ?_
      refine H.split 75 rfl (fun g75 H => ?_) (fun g75 H => ?_)
      ·have g75p := eq_of_beq g75
       refine H.v 76 (pt b_1 7) fun a H => H.u 77 (ii c.b) (ex_l1 (HP.cell 0 rfl 7 rfl)) fun a H => H.v 78 (.bool (c.b == 0)) fun a H => H.v 79 (.bool (c.b == 0)) fun a H => H.v 2 (.bool (c.b == 0)) fun a H => ?_
       refine nl (tn (rt (ibr (tr ?_))))
       refine H.r1 (.bool (c.b == 0)) Tryz.results41 ?_
       exact ⟨by rw [show clP c = (c.b == 0) from by simp [clP, useP, bodyC, timeC, g55, g60, g65, g70, g75, g16p, g16_p, g52p, g55p, g60p, g65p, g70p, g75p] <;> simp [bne]], HP.bl⟩
      have g75p := ne_of_beq_false g75
      iterate 3 refine H.sx rfl fun a H => ?_
      refine H.v 79 (.bool false) fun a H => H.v 2 (.bool false) fun a H => ?_
      refine nl (tn (rt (ibr (tr ?_))))
      refine H.r1 (.bool false) Tryz.results41 ?_
      exact ⟨by rw [show clP c = (false) from by simp [clP, useP, bodyC, timeC, g55, g60, g65, g70, g75, g16p, g16_p, g52p, g55p, g60p, g65p, g70p, g75p] <;> simp [bne]], HP.bl⟩
     have g70p := ne_of_beq_false g70
     iterate 3 refine H.sx rfl fun a H => ?_
     refine H.v 74 (.bool false) fun a H => H.v 75 (.bool false) fun a H => ?_
     iterate 3 refine H.sx rfl fun a H => ?_
     refine H.v 79 (.bool false) fun a H => H.v 2 (.bool false) fun a H => ?_
     refine nl (tn (rt (ibr (tr ?_))))
     refine H.r1 (.bool false) Tryz.results41 ?_
     exact ⟨by rw [show clP c = (false) from by simp [clP, useP, bodyC, timeC, g55, g60, g65, g70, g16p, g16_p, g52p, g55p, g60p, g65p, g70p] <;> simp [bne]], HP.bl⟩
    have g65p := ne_of_beq_false g65
    iterate 3 refine H.sx rfl fun a H => ?_
    refine H.v 69 (.bool false) fun a H => H.v 70 (.bool false) fun a H => ?_
    iterate 3 refine H.sx rfl fun a H => ?_
    refine H.v 74 (.bool false) fun a H => H.v 75 (.bool false) fun a H => ?_
    iterate 3 refine H.sx rfl fun a H => ?_
    refine H.v 79 (.bool false) fun a H => H.v 2 (.bool false) fun a H => ?_
    refine nl (tn (rt (ibr (tr ?_))))
    refine H.r1 (.bool false) Tryz.results41 ?_
    exact ⟨by rw [show clP c = (false) from by simp [clP, useP, bodyC, timeC, g55, g60, g65, g16p, g16_p, g52p, g55p, g60p, g65p] <;> simp [bne]], HP.bl⟩
   have g60p := inR_not.1 g60
   iterate 3 refine H.sx rfl fun a H => ?_
   refine H.v 64 (.bool false) fun a H => H.v 65 (.bool false) fun a H => ?_
   iterate 3 refine H.sx rfl fun a H => ?_
   refine H.v 69 (.bool false) fun a H => H.v 70 (.bool false) fun a H => ?_
   iterate 3 refine H.sx rfl fun a H => ?_
   refine H.v 74 (.bool false) fun a H => H.v 75 (.bool false) fun a H => ?_
   iterate 3 refine H.sx rfl fun a H => ?_
   refine H.v 79 (.bool false) fun a H => H.v 2 (.bool false) fun a H => ?_
   refine nl (tn (rt (ibr (tr ?_))))
   refine H.r1 (.bool false) Tryz.results41 ?_
   exact ⟨by rw [show clP c = (false) from by simp [clP, useP, bodyC, timeC, g55, g60, g16p, g16_p, g52p, g55p, g60p] <;> simp [bne]], HP.bl⟩
  have g55p := g55
  iterate 3 refine H.sx rfl fun a H => ?_
  refine H.v 59 (.bool false) fun a H => H.v 60 (.bool false) fun a H => ?_
  iterate 3 refine H.sx rfl fun a H => ?_
  refine H.v 64 (.bool false) fun a H => H.v 65 (.bool false) fun a H => ?_
  iterate 3 refine H.sx rfl fun a H => ?_
  refine H.v 69 (.bool false) fun a H => H.v 70 (.bool false) fun a H => ?_
  iterate 3 refine H.sx rfl fun a H => ?_
  refine H.v 74 (.bool false) fun a H => H.v 75 (.bool false) fun a H => ?_
  iterate 3 refine H.sx rfl fun a H => ?_
  refine H.v 79 (.bool false) fun a H => H.v 2 (.bool false) fun a H => ?_
  refine nl (tn (rt (ibr (tr ?_))))
  refine H.r1 (.bool false) Tryz.results41 ?_
  exact ⟨by rw [show clP c = (false) from by simp [clP, useP, bodyC, timeC, g55, g16p, g16_p, g52p, g55p] <;> simp [bne]], HP.bl⟩
 have g52p := ne_of_beq_false g52
 refine sq (rg ?_)
 refine H.v 81 (.bool (c.kind == 4)) fun a H => H.v 80 (.bool (c.kind == 4)) fun a H => ?_
 refine nl (tn ?_)
 refine w_if H rfl (fun g80 => ?_) (fun g80 => ?_)
 ·have g80p := eq_of_beq g80
  refine sq (rg ?_)
  refine H.v 82 (.bool (itemC c)) fun a H => H.v 83 (.bool (itemC c)) fun a H => ?_
  refine H.split 83 rfl (fun g83 H => ?_) (fun g83 H => ?_)
  ·have g83p := g83
   refine H.v 84 (pt b_1 5) fun a H => H.u 85 (ii c.n) (ex_l1 (HP.cell 0 rfl 5 rfl)) fun a H => H.cb HP 86 (Tryz.call79 _ _) (rwithin6_any c.n 0 10000000000 w_5) fun w_7 hb a H HP => H.v 87 (.bool (inR c.n 0 10000000000)) fun a H => H.v 88 (.bool (inR c.n 0 10000000000)) fun a H => ?_
   refine H.split 88 rfl (fun g88 H => ?_) (fun g88 H => ?_)
   ·have g88p := inR_iff.1 g88
    refine H.v 89 (pt b_1 2) fun a H => H.u 90 (ii c.from_) (ex_l1 (HP.cell 0 rfl 2 rfl)) fun a H => H.v 91 (.bool (c.from_ == 0)) fun a H => H.v 92 (.bool (c.from_ == 0)) fun a H => H.v 93 (.bool (c.from_ == 0)) fun a H => ?_
    refine H.split 93 rfl (fun g93 H => ?_) (fun g93 H => ?_)
    ·have g93p := eq_of_beq g93
     refine H.v 94 (pt b_1 3) fun a H => H.u 95 (ii c.to_) (ex_l1 (HP.cell 0 rfl 3 rfl)) fun a H => H.v 96 (.bool (c.to_ == 0)) fun a H => H.v 97 (.bool (c.to_ == 0)) fun a H => H.v 98 (.bool (c.to_ == 0)) fun a H => ?_
     refine H.split 98 rfl (fun g98 H => ?_) (fun g98 H => ?_)
     ·have g98p := eq_of_beq g98
      refine H.v 99 (pt b_1 6) fun a H => H.u 100 (ii c.a) (ex_l1 (HP.cell 0 rfl 6 rfl)) fun a H => H.v 101 (.bool (c.a == 0)) fun a H => H.v 102 (.bool (c.a == 0)) fun a H => H.v 103 (.bool (c.a == 0)) fun a H => ?_
      refine H.split 103 rfl (fun g103 H => ?_) (fun g103 H => ?_)
      ·have g103p := eq_of_beq g103
       refine H.v 104 (pt b_1 7) fun a H => H.u 105 (ii c.b) (ex_l1 (HP.cell 0 rfl 7 rfl)) fun a H => H.v 106 (.bool (c.b == 0)) fun a H => H.v 107 (.bool (c.b == 0)) fun a H => H.v 2 (.bool (c.b == 0)) fun a H => ?_
       refine nl (tn (rt (ibr (tr ?_))))
       refine H.r1 (.bool (c.b == 0)) Tryz.results41 ?_
       exact ⟨by rw [show clP c = (c.b == 0) from by simp [clP, useP, bodyC, timeC, g83, g88, g93, g98, g103, g16p, g16_p, g52p, g80p, g83p, g88p, g93p, g98p, g103p] <;> simp [bne]], HP.bl⟩
      have g103p := ne_of_beq_false g103
      iterate 3 refine H.sx rfl fun a H => ?_
      refine H.v 107 (.bool false) fun a H => H.v 2 (.bool false) fun a H => ?_
      refine nl (tn (rt (ibr (tr ?_))))
      refine H.r1 (.bool false) Tryz.results41 ?_
      exact ⟨by rw [show clP c = (false) from by simp [clP, useP, bodyC, timeC, g83, g88, g93, g98, g103, g16p, g16_p, g52p, g80p, g83p, g88p, g93p, g98p, g103p] <;> simp [bne]], HP.bl⟩
     have g98p := ne_of_beq_false g98
     iterate 3 refine H.sx rfl fun a H => ?_
     refine H.v 102 (.bool false) fun a H => H.v 103 (.bool false) fun a H => ?_
     iterate 3 refine H.sx rfl fun a H => ?_
     refine H.v 107 (.bool false) fun a H => H.v 2 (.bool false) fun a H => ?_
     refine nl (tn (rt (ibr (tr ?_))))
     refine H.r1 (.bool false) Tryz.results41 ?_
     exact ⟨by rw [show clP c = (false) from by simp [clP, useP, bodyC, timeC, g83, g88, g93, g98, g16p, g16_p, g52p, g80p, g83p, g88p, g93p, g98p] <;> simp [bne]], HP.bl⟩
    have g93p := ne_of_beq_false g93
    iterate 3 refine H.sx rfl fun a H => ?_
    refine H.v 97 (.bool false) fun a H => H.v 98 (.bool false) fun a H => ?_
    iterate 3 refine H.sx rfl fun a H => ?_
    refine H.v 102 (.bool false) fun a H => H.v 103 (.bool false) fun a H => ?_
    iterate 3 refine H.sx rfl fun a H => ?_
    refine H.v 107 (.bool false) fun a H => H.v 2 (.bool false) fun a H => ?_
    refine nl (tn (rt (ibr (tr ?_))))
    refine H.r1 (.bool false) Tryz.results41 ?_
    exact ⟨by rw [show clP c = (false) from by simp [clP, useP, bodyC, timeC, g83, g88, g93, g16p, g16_p, g52p, g80p, g83p, g88p, g93p] <;> simp [bne]], HP.bl⟩
   have g88p := inR_not.1 g88
   iterate 3 refine H.sx rfl fun a H => ?_
   refine H.v 92 (.bool false) fun a H => H.v 93 (.bool false) fun a H => ?_
   iterate 3 refine H.sx rfl fun a H => ?_
   refine H.v 97 (.bool false) fun a H => H.v 98 (.bool false) fun a H => ?_
   iterate 3 refine H.sx rfl fun a H => ?_
   refine H.v 102 (.bool false) fun a H => H.v 103 (.bool false) fun a H => ?_
   iterate 3 refine H.sx rfl fun a H => ?_
   refine H.v 107 (.bool false) fun a H => H.v 2 (.bool false) fun a H => ?_
   refine nl (tn (rt (ibr (tr ?_))))
   refine H.r1 (.bool false) Tryz.results41 ?_
   exact ⟨by rw [show clP c = (false) from by simp [clP, useP, bodyC, timeC, g83, g88, g16p, g16_p, g52p, g80p, g83p, g88p] <;> simp [bne]], HP.bl⟩
  have g83p := g83
  iterate 3 refine H.sx rfl fun a H => ?_
  refine H.v 87 (.bool false) fun a H => H.v 88 (.bool false) fun a H => ?_
  iterate 3 refine H.sx rfl fun a H => ?_
  refine H.v 92 (.bool false) fun a H => H.v 93 (.bool false) fun a H => ?_
  iterate 3 refine H.sx rfl fun a H => ?_
  refine H.v 97 (.bool false) fun a H => H.v 98 (.bool false) fun a H => ?_
  iterate 3 refine H.sx rfl fun a H => ?_
  refine H.v 102 (.bool false) fun a H => H.v 103 (.bool false) fun a H => ?_
  iterate 3 refine H.sx rfl fun a H => ?_
  refine H.v 107 (.bool false) fun a H => H.v 2 (.bool false) fun a H => ?_
  refine nl (tn (rt (ibr (tr ?_))))
  refine H.r1 (.bool false) Tryz.results41 ?_
  exact ⟨by rw [show clP c = (false) from by simp [clP, useP, bodyC, timeC, g83, g16p, g16_p, g52p, g80p, g83p] <;> simp [bne]], HP.bl⟩
 have g80p := ne_of_beq_false g80
 refine sq (rg ?_)
 refine H.v 109 (.bool (c.kind == 5)) fun a H => H.v 108 (.bool (c.kind == 5)) fun a H => ?_
 refine nl (tn ?_)
 refine w_if H rfl (fun g108 => ?_) (fun g108 => ?_)
 ·have g108p := eq_of_beq g108
  refine sq (rg ?_)
  refine H.v 110 (pt b_1 6) fun a H => H.u 111 (ii c.a) (ex_l1 (HP.cell 0 rfl 6 rfl)) fun a H => H.cb HP 112 (Tryz.call79 _ _) (rwithin6_any c.a 1 200 w_5) fun w_8 hb a H HP => H.v 113 (.bool (inR c.a 1 200)) fun a H => ?_
  refine H.split 113 rfl (fun g113 H => ?_) (fun g113 H => ?_)
  ·have g113p := inR_iff.1 g113
   refine H.v 114 (pt b_1 7) fun a H => H.u 115 (ii c.b) (ex_l1 (HP.cell 0 rfl 7 rfl)) fun a H => H.cb HP 116 (Tryz.call79 _ _) (rwithin6_any c.b 1 200 w_8) fun w_9 hb a H HP => H.v 117 (.bool (inR c.b 1 200)) fun a H => H.v 118 (.bool (inR c.b 1 200)) fun a H => ?_
   refine H.split 118 rfl (fun g118 H => ?_) (fun g118 H => ?_)
   ·have g118p := inR_iff.1 g118
    refine H.v 119 (pt b_1 6) fun a H => H.u 120 (ii c.a) (ex_l1 (HP.cell 0 rfl 6 rfl)) fun a H => H.v 121 (pt b_1 7) fun a H => H.u 122 (ii c.b) (ex_l1 (HP.cell 0 rfl 7 rfl)) fun a H => H.v 123 (.bool (c.a != c.b)) fun a H => H.v 124 (.bool (c.a != c.b)) fun a H => H.v 4 (.bool (c.a != c.b)) fun a H => ?_
    refine nl (tn (sq (rg ?_)))
    refine H.v 125 (.bool (c.a != c.b)) fun a H => H.v 126 (.bool (c.a != c.b)) fun a H => ?_
    refine H.split 126 rfl (fun g126 H => ?_) (fun g126 H => ?_)
    ·have g126p := bne_iff_ne.1 g126
     refine H.v 127 (pt b_1 5) fun a H => H.u 128 (ii c.n) (ex_l1 (HP.cell 0 rfl 5 rfl)) fun a H => H.cb HP 129 (Tryz.call79 _ _) (rwithin6_any c.n 0 86400 w_9) fun w_10 hb a H HP => H.v 130 (.bool (inR c.n 0 86400)) fun a H => H.v 131 (.bool (inR c.n 0 86400)) fun a H => ?_
     refine H.split 131 rfl (fun g131 H => ?_) (fun g131 H => ?_)
     ·have g131p := inR_iff.1 g131
      refine H.v 132 (pt b_1 1) fun a H => H.u 133 (ii c.item) (ex_l1 (HP.cell 0 rfl 1 rfl)) fun a H => H.v 134 (.bool (c.item == 0)) fun a H => H.v 135 (.bool (c.item == 0)) fun a H => H.v 136 (.bool (c.item == 0)) fun a H => ?_
      refine H.split 136 rfl (fun g136 H => ?_) (fun g136 H => ?_)
      ·have g136p := eq_of_beq g136
       refine H.v 137 (pt b_1 2) fun a H => H.u 138 (ii c.from_) (ex_l1 (HP.cell 0 rfl 2 rfl)) fun a H => H.v 139 (.bool (c.from_ == 0)) fun a H => H.v 140 (.bool (c.from_ == 0)) fun a H => H.v 141 (.bool (c.from_ == 0)) fun a H => ?_
       refine H.split 141 rfl (fun g141 H => ?_) (fun g141 H => ?_)
       ·have g141p := eq_of_beq g141
        refine H.v 142 (pt b_1 3) fun a H => H.u 143 (ii c.to_) (ex_l1 (HP.cell 0 rfl 3 rfl)) fun a H => H.v 144 (.bool (c.to_ == 0)) fun a H => H.v 145 (.bool (c.to_ == 0)) fun a H => H.v 146 (.bool (c.to_ == 0)) fun a H => ?_
        refine H.split 146 rfl (fun g146 H => ?_) (fun g146 H => ?_)
        ·have g146p := eq_of_beq g146
         refine H.v 147 (pt b_1 4) fun a H => H.u 148 (ii c.regions) (ex_l1 (HP.cell 0 rfl 4 rfl)) fun a H => H.v 149 (.bool (c.regions == 0)) fun a H => H.v 150 (.bool (c.regions == 0)) fun a H => H.v 2 (.bool (c.regions == 0)) fun a H => ?_
         refine nl (tn (rt (ibr (tr ?_))))
         refine H.r1 (.bool (c.regions == 0)) Tryz.results41 ?_
         exact ⟨by rw [show clP c = (c.regions == 0) from by simp [clP, useP, bodyC, timeC, g113, g118, g126, g131, g136, g141, g146, g16p, g16_p, g52p, g80p, g108p, g113p, g118p, g126p, g131p, g136p, g141p, g146p] <;> simp [bne]], HP.bl⟩
        have g146p := ne_of_beq_false g146
        iterate 3 refine H.sx rfl fun a H => ?_
        refine H.v 150 (.bool false) fun a H => H.v 2 (.bool false) fun a H => ?_
        refine nl (tn (rt (ibr (tr ?_))))
        refine H.r1 (.bool false) Tryz.results41 ?_
        exact ⟨by rw [show clP c = (false) from by simp [clP, useP, bodyC, timeC, g113, g118, g126, g131, g136, g141, g146, g16p, g16_p, g52p, g80p, g108p, g113p, g118p, g126p, g131p, g136p, g141p, g146p] <;> simp [bne]], HP.bl⟩
       have g141p := ne_of_beq_false g141
       iterate 3 refine H.sx rfl fun a H => ?_
       refine H.v 145 (.bool false) fun a H => H.v 146 (.bool false) fun a H => ?_
       iterate 3 refine H.sx rfl fun a H => ?_
       refine H.v 150 (.bool false) fun a H => H.v 2 (.bool false) fun a H => ?_
       refine nl (tn (rt (ibr (tr ?_))))
       refine H.r1 (.bool false) Tryz.results41 ?_
       exact ⟨by rw [show clP c = (false) from by simp [clP, useP, bodyC, timeC, g113, g118, g126, g131, g136, g141, g16p, g16_p, g52p, g80p, g108p, g113p, g118p, g126p, g131p, g136p, g141p] <;> simp [bne]], HP.bl⟩
      have g136p := ne_of_beq_false g136
      iterate 3 refine H.sx rfl fun a H => ?_
      refine H.v 140 (.bool false) fun a H => H.v 141 (.bool false) fun a H => ?_
      iterate 3 refine H.sx rfl fun a H => ?_
      refine H.v 145 (.bool false) fun a H => H.v 146 (.bool false) fun a H => ?_
      iterate 3 refine H.sx rfl fun a H => ?_
      refine H.v 150 (.bool false) fun a H => H.v 2 (.bool false) fun a H => ?_
      refine nl (tn (rt (ibr (tr ?_))))
      refine H.r1 (.bool false) Tryz.results41 ?_
      exact ⟨by rw [show clP c = (false) from by simp [clP, useP, bodyC, timeC, g113, g118, g126, g131, g136, g16p, g16_p, g52p, g80p, g108p, g113p, g118p, g126p, g131p, g136p] <;> simp [bne]], HP.bl⟩
     have g131p := inR_not.1 g131
     iterate 3 refine H.sx rfl fun a H => ?_
     refine H.v 135 (.bool false) fun a H => H.v 136 (.bool false) fun a H => ?_
     iterate 3 refine H.sx rfl fun a H => ?_
     refine H.v 140 (.bool false) fun a H => H.v 141 (.bool false) fun a H => ?_
     iterate 3 refine H.sx rfl fun a H => ?_
     refine H.v 145 (.bool false) fun a H => H.v 146 (.bool false) fun a H => ?_
     iterate 3 refine H.sx rfl fun a H => ?_
     refine H.v 150 (.bool false) fun a H => H.v 2 (.bool false) fun a H => ?_
     refine nl (tn (rt (ibr (tr ?_))))
     refine H.r1 (.bool false) Tryz.results41 ?_
     exact ⟨by rw [show clP c = (false) from by simp [clP, useP, bodyC, timeC, g113, g118, g126, g131, g16p, g16_p, g52p, g80p, g108p, g113p, g118p, g126p, g131p] <;> simp [bne]], HP.bl⟩
    have g126p := eq_of_bne_false g126
    iterate 3 refine H.sx rfl fun a H => ?_
    refine H.v 130 (.bool false) fun a H => H.v 131 (.bool false) fun a H => ?_
    iterate 3 refine H.sx rfl fun a H => ?_
    refine H.v 135 (.bool false) fun a H => H.v 136 (.bool false) fun a H => ?_
    iterate 3 refine H.sx rfl fun a H => ?_
    refine H.v 140 (.bool false) fun a H => H.v 141 (.bool false) fun a H => ?_
    iterate 3 refine H.sx rfl fun a H => ?_
    refine H.v 145 (.bool false) fun a H => H.v 146 (.bool false) fun a H => ?_
    iterate 3 refine H.sx rfl fun a H => ?_
    refine H.v 150 (.bool false) fun a H => H.v 2 (.bool false) fun a H => ?_
    refine nl (tn (rt (ibr (tr ?_))))
    refine H.r1 (.bool false) Tryz.results41 ?_
    exact ⟨by rw [show clP c = (false) from by simp [clP, useP, bodyC, timeC, g113, g118, g126, g16p, g16_p, g52p, g80p, g108p, g113p, g118p, g126p] <;> simp [bne]], HP.bl⟩
   have g118p := inR_not.1 g118
   iterate 5 refine H.sx rfl fun a H => ?_
   refine H.v 124 (.bool false) fun a H => H.v 4 (.bool false) fun a H => ?_
   refine nl (tn (sq (rg ?_)))
   refine H.v 125 (.bool false) fun a H => H.v 126 (.bool false) fun a H => ?_
   iterate 3 refine H.sx rfl fun a H => ?_
   refine H.v 130 (.bool false) fun a H => H.v 131 (.bool false) fun a H => ?_
   iterate 3 refine H.sx rfl fun a H => ?_
   refine H.v 135 (.bool false) fun a H => H.v 136 (.bool false) fun a H => ?_
   iterate 3 refine H.sx rfl fun a H => ?_
   refine H.v 140 (.bool false) fun a H => H.v 141 (.bool false) fun a H => ?_
   iterate 3 refine H.sx rfl fun a H => ?_
   refine H.v 145 (.bool false) fun a H => H.v 146 (.bool false) fun a H => ?_
   iterate 3 refine H.sx rfl fun a H => ?_
   refine H.v 150 (.bool false) fun a H => H.v 2 (.bool false) fun a H => ?_
   refine nl (tn (rt (ibr (tr ?_))))
   refine H.r1 (.bool false) Tryz.results41 ?_
   exact ⟨by rw [show clP c = (false) from by simp [clP, useP, bodyC, timeC, g113, g118, g16p, g16_p, g52p, g80p, g108p, g113p, g118p] <;> simp [bne]], HP.bl⟩
  have g113p := inR_not.1 g113
  iterate 3 refine H.sx rfl fun a H => ?_
  refine H.v 117 (.bool false) fun a H => H.v 118 (.bool false) fun a H => ?_
  iterate 5 refine H.sx rfl fun a H => ?_
  refine H.v 124 (.bool false) fun a H => H.v 4 (.bool false) fun a H => ?_
  refine nl (tn (sq (rg ?_)))
  refine H.v 125 (.bool false) fun a H => H.v 126 (.bool false) fun a H => ?_
  iterate 3 refine H.sx rfl fun a H => ?_
  refine H.v 130 (.bool false) fun a H => H.v 131 (.bool false) fun a H => ?_
  iterate 3 refine H.sx rfl fun a H => ?_
  refine H.v 135 (.bool false) fun a H => H.v 136 (.bool false) fun a H => ?_
  iterate 3 refine H.sx rfl fun a H => ?_
  refine H.v 140 (.bool false) fun a H => H.v 141 (.bool false) fun a H => ?_
  iterate 3 refine H.sx rfl fun a H => ?_
  refine H.v 145 (.bool false) fun a H => H.v 146 (.bool false) fun a H => ?_
  iterate 3 refine H.sx rfl fun a H => ?_
  refine H.v 150 (.bool false) fun a H => H.v 2 (.bool false) fun a H => ?_
  refine nl (tn (rt (ibr (tr ?_))))
  refine H.r1 (.bool false) Tryz.results41 ?_
  exact ⟨by rw [show clP c = (false) from by simp [clP, useP, bodyC, timeC, g113, g16p, g16_p, g52p, g80p, g108p, g113p] <;> simp [bne]], HP.bl⟩
 have g108p := ne_of_beq_false g108
 refine sq (rg ?_)
 refine H.v 152 (.bool (c.kind == 6)) fun a H => H.v 151 (.bool (c.kind == 6)) fun a H => ?_
 refine nl (tn ?_)
 refine w_if H rfl (fun g151 => ?_) (fun g151 => ?_)
 ·have g151p := eq_of_beq g151
  refine sq (rg ?_)
  refine H.v 153 (pt b_1 2) fun a H => H.u 154 (ii c.from_) (ex_l1 (HP.cell 0 rfl 2 rfl)) fun a H => H.cb HP 155 (Tryz.call79 _ _) (rwithin6_any c.from_ 0 86340 w_5) fun w_11 hb a H HP => H.v 156 (.bool (inR c.from_ 0 86340)) fun a H => ?_
  refine H.split 156 rfl (fun g156 H => ?_) (fun g156 H => ?_)
  ·have g156p := inR_iff.1 g156
   refine H.v 157 (pt b_1 3) fun a H => H.u 158 (ii c.to_) (ex_l1 (HP.cell 0 rfl 3 rfl)) fun a H => H.cb HP 159 (Tryz.call79 _ _) (rwithin6_any c.to_ 0 86340 w_11) fun w_12 hb a H HP => H.v 160 (.bool (inR c.to_ 0 86340)) fun a H => H.v 161 (.bool (inR c.to_ 0 86340)) fun a H => ?_
   refine H.split 161 rfl (fun g161 H => ?_) (fun g161 H => ?_)
   ·have g161p := inR_iff.1 g161
    refine H.v 162 (pt b_1 2) fun a H => H.u 163 (ii c.from_) (ex_l1 (HP.cell 0 rfl 2 rfl)) fun a H => ?_
    have hr164 : 0 ≤ c.from_ := by have := inR_iff.1 ‹inR c.from_ 0 86340 = true›; omega
    have hr164 : 0 ≤ c.from_ := by have := inR_iff.1 ‹inR c.from_ 0 86340 = true›; omega
    refine H.valE 164 (ii (c.from_.tmod 60)) (ii (c.from_ % 60)) (by kernel_rfl) (by kernel_rfl) ((by rw [tmod_nn _ _ (by omega)])) fun a H => H.v 165 (.bool ((c.from_ % 60) == 0)) fun a H => H.v 166 (.bool ((c.from_ % 60) == 0)) fun a H => H.v 167 (.bool ((c.from_ % 60) == 0)) fun a H => ?_
    refine H.split 167 rfl (fun g167 H => ?_) (fun g167 H => ?_)
    ·have g167p := eq_of_beq g167
     refine H.v 168 (pt b_1 3) fun a H => H.u 169 (ii c.to_) (ex_l1 (HP.cell 0 rfl 3 rfl)) fun a H => ?_
     have hr170 : 0 ≤ c.to_ := by have := inR_iff.1 ‹inR c.to_ 0 86340 = true›; omega
     have hr170 : 0 ≤ c.to_ := by have := inR_iff.1 ‹inR c.to_ 0 86340 = true›; omega
     refine H.valE 170 (ii (c.to_.tmod 60)) (ii (c.to_ % 60)) (by kernel_rfl) (by kernel_rfl) ((by rw [tmod_nn _ _ (by omega)])) fun a H => H.v 171 (.bool ((c.to_ % 60) == 0)) fun a H => H.v 172 (.bool ((c.to_ % 60) == 0)) fun a H => H.v 173 (.bool ((c.to_ % 60) == 0)) fun a H => ?_
     refine H.split 173 rfl (fun g173 H => ?_) (fun g173 H => ?_)
     ·have g173p := eq_of_beq g173
      refine H.v 174 (pt b_1 2) fun a H => H.u 175 (ii c.from_) (ex_l1 (HP.cell 0 rfl 2 rfl)) fun a H => H.v 176 (pt b_1 3) fun a H => H.u 177 (ii c.to_) (ex_l1 (HP.cell 0 rfl 3 rfl)) fun a H => H.v 178 (.bool (c.from_ != c.to_)) fun a H => H.v 179 (.bool (c.from_ != c.to_)) fun a H => H.v 5 (.bool (c.from_ != c.to_)) fun a H => ?_
      refine nl (tn (sq (rg ?_)))
      refine H.v 180 (.bool (c.from_ != c.to_)) fun a H => H.v 181 (.bool (c.from_ != c.to_)) fun a H => ?_
      refine H.split 181 rfl (fun g181 H => ?_) (fun g181 H => ?_)
      ·have g181p := bne_iff_ne.1 g181
       refine H.v 182 (pt b_1 6) fun a H => H.u 183 (ii c.a) (ex_l1 (HP.cell 0 rfl 6 rfl)) fun a H => H.cb HP 184 (Tryz.call79 _ _) (rwithin6_any c.a 1 3 w_12) fun w_13 hb a H HP => H.v 185 (.bool (inR c.a 1 3)) fun a H => H.v 186 (.bool (inR c.a 1 3)) fun a H => ?_
       refine H.split 186 rfl (fun g186 H => ?_) (fun g186 H => ?_)
       ·have g186p := inR_iff.1 g186
        refine H.v 187 (pt b_1 1) fun a H => H.u 188 (ii c.item) (ex_l1 (HP.cell 0 rfl 1 rfl)) fun a H => H.v 189 (.bool (c.item == 0)) fun a H => H.v 190 (.bool (c.item == 0)) fun a H => H.v 191 (.bool (c.item == 0)) fun a H => ?_
        refine H.split 191 rfl (fun g191 H => ?_) (fun g191 H => ?_)
        ·have g191p := eq_of_beq g191
         refine H.v 192 (pt b_1 4) fun a H => H.u 193 (ii c.regions) (ex_l1 (HP.cell 0 rfl 4 rfl)) fun a H => H.v 194 (.bool (c.regions == 0)) fun a H => H.v 195 (.bool (c.regions == 0)) fun a H => H.v 196 (.bool (c.regions == 0)) fun a H => ?_
         refine H.split 196 rfl (fun g196 H => ?_) (fun g196 H => ?_)
         ·have g196p := eq_of_beq g196
          refine H.v 197 (pt b_1 5) fun a H => H.u 198 (ii c.n) (ex_l1 (HP.cell 0 rfl 5 rfl)) fun a H => H.v 199 (.bool (c.n == 0)) fun a H => H.v 200 (.bool (c.n == 0)) fun a H => H.v 201 (.bool (c.n == 0)) fun a H => ?_
          refine H.split 201 rfl (fun g201 H => ?_) (fun g201 H => ?_)
          ·have g201p := eq_of_beq g201
           refine H.v 202 (pt b_1 7) fun a H => H.u 203 (ii c.b) (ex_l1 (HP.cell 0 rfl 7 rfl)) fun a H => H.v 204 (.bool (c.b == 0)) fun a H => H.v 205 (.bool (c.b == 0)) fun a H => H.v 2 (.bool (c.b == 0)) fun a H => ?_
           refine nl (tn (rt (ibr (tr ?_))))
           refine H.r1 (.bool (c.b == 0)) Tryz.results41 ?_
           exact ⟨by rw [show clP c = (c.b == 0) from by simp [clP, useP, bodyC, timeC, g156, g161, g167, g173, g181, g186, g191, g196, g201, g16p, g16_p, g52p, g80p, g108p, g151p, g156p, g161p, g167p, g173p, g181p, g186p, g191p, g196p, g201p] <;> simp [bne]], HP.bl⟩
          have g201p := ne_of_beq_false g201
          iterate 3 refine H.sx rfl fun a H => ?_
          refine H.v 205 (.bool false) fun a H => H.v 2 (.bool false) fun a H => ?_
          refine nl (tn (rt (ibr (tr ?_))))
          refine H.r1 (.bool false) Tryz.results41 ?_
          exact ⟨by rw [show clP c = (false) from by simp [clP, useP, bodyC, timeC, g156, g161, g167, g173, g181, g186, g191, g196, g201, g16p, g16_p, g52p, g80p, g108p, g151p, g156p, g161p, g167p, g173p, g181p, g186p, g191p, g196p, g201p] <;> simp [bne]], HP.bl⟩
         have g196p := ne_of_beq_false g196
         iterate 3 refine H.sx rfl fun a H => ?_
         refine H.v 200 (.bool false) fun a H => H.v 201 (.bool false) fun a H => ?_
         iterate 3 refine H.sx rfl fun a H => ?_
         refine H.v 205 (.bool false) fun a H => H.v 2 (.bool false) fun a H => ?_
         refine nl (tn (rt (ibr (tr ?_))))
         refine H.r1 (.bool false) Tryz.results41 ?_
         exact ⟨by rw [show clP c = (false) from by simp [clP, useP, bodyC, timeC, g156, g161, g167, g173, g181, g186, g191, g196, g16p, g16_p, g52p, g80p, g108p, g151p, g156p, g161p, g167p, g173p, g181p, g186p, g191p, g196p] <;> simp [bne]], HP.bl⟩
        have g191p := ne_of_beq_false g191
        iterate 3 refine H.sx rfl fun a H => ?_
        refine H.v 195 (.bool false) fun a H => H.v 196 (.bool false) fun a H => ?_
        iterate 3 refine H.sx rfl fun a H => ?_
        refine H.v 200 (.bool false) fun a H => H.v 201 (.bool false) fun a H => ?_
        iterate 3 refine H.sx rfl fun a H => ?_
        refine H.v 205 (.bool false) fun a H => H.v 2 (.bool false) fun a H => ?_
        refine nl (tn (rt (ibr (tr ?_))))
        refine H.r1 (.bool false) Tryz.results41 ?_
        exact ⟨by rw [show clP c = (false) from by simp [clP, useP, bodyC, timeC, g156, g161, g167, g173, g181, g186, g191, g16p, g16_p, g52p, g80p, g108p, g151p, g156p, g161p, g167p, g173p, g181p, g186p, g191p] <;> simp [bne]], HP.bl⟩
       have g186p := inR_not.1 g186
       iterate 3 refine H.sx rfl fun a H => ?_
       refine H.v 190 (.bool false) fun a H => H.v 191 (.bool false) fun a H => ?_
       iterate 3 refine H.sx rfl fun a H => ?_
       refine H.v 195 (.bool false) fun a H => H.v 196 (.bool false) fun a H => ?_
       iterate 3 refine H.sx rfl fun a H => ?_
       refine H.v 200 (.bool false) fun a H => H.v 201 (.bool false) fun a H => ?_
       iterate 3 refine H.sx rfl fun a H => ?_
       refine H.v 205 (.bool false) fun a H => H.v 2 (.bool false) fun a H => ?_
       refine nl (tn (rt (ibr (tr ?_))))
       refine H.r1 (.bool false) Tryz.results41 ?_
       exact ⟨by rw [show clP c = (false) from by simp [clP, useP, bodyC, timeC, g156, g161, g167, g173, g181, g186, g16p, g16_p, g52p, g80p, g108p, g151p, g156p, g161p, g167p, g173p, g181p, g186p] <;> simp [bne]], HP.bl⟩
      have g181p := eq_of_bne_false g181
      iterate 3 refine H.sx rfl fun a H => ?_
      refine H.v 185 (.bool false) fun a H => H.v 186 (.bool false) fun a H => ?_
      iterate 3 refine H.sx rfl fun a H => ?_
      refine H.v 190 (.bool false) fun a H => H.v 191 (.bool false) fun a H => ?_
      iterate 3 refine H.sx rfl fun a H => ?_
      refine H.v 195 (.bool false) fun a H => H.v 196 (.bool false) fun a H => ?_
      iterate 3 refine H.sx rfl fun a H => ?_
      refine H.v 200 (.bool false) fun a H => H.v 201 (.bool false) fun a H => ?_
      iterate 3 refine H.sx rfl fun a H => ?_
      refine H.v 205 (.bool false) fun a H => H.v 2 (.bool false) fun a H => ?_
      refine nl (tn (rt (ibr (tr ?_))))
      refine H.r1 (.bool false) Tryz.results41 ?_
      exact ⟨by rw [show clP c = (false) from by simp [clP, useP, bodyC, timeC, g156, g161, g167, g173, g181, g16p, g16_p, g52p, g80p, g108p, g151p, g156p, g161p, g167p, g173p, g181p] <;> simp [bne]], HP.bl⟩
     have g173p := ne_of_beq_false g173
     iterate 5 refine H.sx rfl fun a H => ?_
     refine H.v 179 (.bool false) fun a H => H.v 5 (.bool false) fun a H => ?_
     refine nl (tn (sq (rg ?_)))
     refine H.v 180 (.bool false) fun a H => H.v 181 (.bool false) fun a H => ?_
     iterate 3 refine H.sx rfl fun a H => ?_
     refine H.v 185 (.bool false) fun a H => H.v 186 (.bool false) fun a H => ?_
     iterate 3 refine H.sx rfl fun a H => ?_
     refine H.v 190 (.bool false) fun a H => H.v 191 (.bool false) fun a H => ?_
     iterate 3 refine H.sx rfl fun a H => ?_
     refine H.v 195 (.bool false) fun a H => H.v 196 (.bool false) fun a H => ?_
     iterate 3 refine H.sx rfl fun a H => ?_
     refine H.v 200 (.bool false) fun a H => H.v 201 (.bool false) fun a H => ?_
     iterate 3 refine H.sx rfl fun a H => ?_
     refine H.v 205 (.bool false) fun a H => H.v 2 (.bool false) fun a H => ?_
     refine nl (tn (rt (ibr (tr ?_))))
     refine H.r1 (.bool false) Tryz.results41 ?_
     exact ⟨by rw [show clP c = (false) from by simp [clP, useP, bodyC, timeC, g156, g161, g167, g173, g16p, g16_p, g52p, g80p, g108p, g151p, g156p, g161p, g167p, g173p] <;> simp [bne]], HP.bl⟩
    have g167p := ne_of_beq_false g167
    iterate 4 refine H.sx rfl fun a H => ?_
    refine H.v 172 (.bool false) fun a H => H.v 173 (.bool false) fun a H => ?_
    iterate 5 refine H.sx rfl fun a H => ?_
    refine H.v 179 (.bool false) fun a H => H.v 5 (.bool false) fun a H => ?_
    refine nl (tn (sq (rg ?_)))
    refine H.v 180 (.bool false) fun a H => H.v 181 (.bool false) fun a H => ?_
    iterate 3 refine H.sx rfl fun a H => ?_
    refine H.v 185 (.bool false) fun a H => H.v 186 (.bool false) fun a H => ?_
    iterate 3 refine H.sx rfl fun a H => ?_
    refine H.v 190 (.bool false) fun a H => H.v 191 (.bool false) fun a H => ?_
    iterate 3 refine H.sx rfl fun a H => ?_
    refine H.v 195 (.bool false) fun a H => H.v 196 (.bool false) fun a H => ?_
    iterate 3 refine H.sx rfl fun a H => ?_
    refine H.v 200 (.bool false) fun a H => H.v 201 (.bool false) fun a H => ?_
    iterate 3 refine H.sx rfl fun a H => ?_
    refine H.v 205 (.bool false) fun a H => H.v 2 (.bool false) fun a H => ?_
    refine nl (tn (rt (ibr (tr ?_))))
    refine H.r1 (.bool false) Tryz.results41 ?_
    exact ⟨by rw [show clP c = (false) from by simp [clP, useP, bodyC, timeC, g156, g161, g167, g16p, g16_p, g52p, g80p, g108p, g151p, g156p, g161p, g167p] <;> simp [bne]], HP.bl⟩
   have g161p := inR_not.1 g161
   iterate 4 refine H.sx rfl fun a H => ?_
   refine H.v 166 (.bool false) fun a H => H.v 167 (.bool false) fun a H => ?_
   iterate 4 refine H.sx rfl fun a H => ?_
   refine H.v 172 (.bool false) fun a H => H.v 173 (.bool false) fun a H => ?_
   iterate 5 refine H.sx rfl fun a H => ?_
   refine H.v 179 (.bool false) fun a H => H.v 5 (.bool false) fun a H => ?_
   refine nl (tn (sq (rg ?_)))
   refine H.v 180 (.bool false) fun a H => H.v 181 (.bool false) fun a H => ?_
   iterate 3 refine H.sx rfl fun a H => ?_
   refine H.v 185 (.bool false) fun a H => H.v 186 (.bool false) fun a H => ?_
   iterate 3 refine H.sx rfl fun a H => ?_
   refine H.v 190 (.bool false) fun a H => H.v 191 (.bool false) fun a H => ?_
   iterate 3 refine H.sx rfl fun a H => ?_
   refine H.v 195 (.bool false) fun a H => H.v 196 (.bool false) fun a H => ?_
   iterate 3 refine H.sx rfl fun a H => ?_
   refine H.v 200 (.bool false) fun a H => H.v 201 (.bool false) fun a H => ?_
   iterate 3 refine H.sx rfl fun a H => ?_
   refine H.v 205 (.bool false) fun a H => H.v 2 (.bool false) fun a H => ?_
   refine nl (tn (rt (ibr (tr ?_))))
   refine H.r1 (.bool false) Tryz.results41 ?_
   exact ⟨by rw [show clP c = (false) from by simp [clP, useP, bodyC, timeC, g156, g161, g16p, g16_p, g52p, g80p, g108p, g151p, g156p, g161p] <;> simp [bne]], HP.bl⟩
  have g156p := inR_not.1 g156
  iterate 3 refine H.sx rfl fun a H => ?_
  refine H.v 160 (.bool false) fun a H => H.v 161 (.bool false) fun a H => ?_
  iterate 4 refine H.sx rfl fun a H => ?_
  refine H.v 166 (.bool false) fun a H => H.v 167 (.bool false) fun a H => ?_
  iterate 4 refine H.sx rfl fun a H => ?_
  refine H.v 172 (.bool false) fun a H => H.v 173 (.bool false) fun a H => ?_
  iterate 5 refine H.sx rfl fun a H => ?_
  refine H.v 179 (.bool false) fun a H => H.v 5 (.bool false) fun a H => ?_
  refine nl (tn (sq (rg ?_)))
  refine H.v 180 (.bool false) fun a H => H.v 181 (.bool false) fun a H => ?_
  iterate 3 refine H.sx rfl fun a H => ?_
  refine H.v 185 (.bool false) fun a H => H.v 186 (.bool false) fun a H => ?_
  iterate 3 refine H.sx rfl fun a H => ?_
  refine H.v 190 (.bool false) fun a H => H.v 191 (.bool false) fun a H => ?_
  iterate 3 refine H.sx rfl fun a H => ?_
  refine H.v 195 (.bool false) fun a H => H.v 196 (.bool false) fun a H => ?_
  iterate 3 refine H.sx rfl fun a H => ?_
  refine H.v 200 (.bool false) fun a H => H.v 201 (.bool false) fun a H => ?_
  iterate 3 refine H.sx rfl fun a H => ?_
  refine H.v 205 (.bool false) fun a H => H.v 2 (.bool false) fun a H => ?_
  refine nl (tn (rt (ibr (tr ?_))))
  refine H.r1 (.bool false) Tryz.results41 ?_
  exact ⟨by rw [show clP c = (false) from by simp [clP, useP, bodyC, timeC, g156, g16p, g16_p, g52p, g80p, g108p, g151p, g156p] <;> simp [bne]], HP.bl⟩
 have g151p := ne_of_beq_false g151
 refine sk (ibn (tn (sq (rg ?_))))
 refine H.v 2 (.bool false) fun a H => ?_
 refine nl (tn (rt ?_))
 refine H.r1 (.bool false) Tryz.results41 ?_
 exact ⟨by rw [show clP c = (false) from by simp [clP, useP, bodyC, timeC, g16p, g16_p, g52p, g80p, g108p, g151p] <;> simp [bne]], HP.bl⟩
theorem isOffset_any (n : Int) (w : World) : Calls Tryz.prog 114 #[.int .i64 n] w fun e w' => e = .returned (.bool (inR n (-50400) 50400)) ∧ Below w.heap.size w w' := by
 have HP := Hp.start w
 refine w_enter 9 [(0, (ii n))] Tryz.func114 rfl Tryz.ntmps114 (by kernel_rfl) (by kernel_rfl) fun a H => ?_
 refine sq (rg ?_)
 refine H.v 2 (.bool false) fun a H => ?_
 refine nl (tn (sq (rg ?_)))
 refine H.v 3 (ii n) fun a H => H.v 4 (.bool (decide (n ≥ (-50400)))) fun a H => H.v 5 (.bool (decide (n ≥ (-50400)))) fun a H => ?_
 refine H.split 5 rfl (fun g5 H => ?_) (fun g5 H => ?_)
 ·have g5p := of_decide_eq_true g5
  refine H.v 6 (ii n) fun a H => H.v 7 (.bool (decide (n ≤ 50400))) fun a H => H.v 8 (.bool (decide (n ≤ 50400))) fun a H => H.v 2 (.bool (decide (n ≤ 50400))) fun a H => ?_
  refine nl (tn (rt ?_))
  refine H.r1 (.bool (decide (n ≤ 50400))) Tryz.results114 ?_
  exact ⟨by rw [show inR n (-50400) 50400 = (decide (n ≤ 50400)) from by simp [inR, g5, g5p]], HP.bl⟩
 have g5p := of_decide_eq_false g5
 refine H.s 6 fun a H => ?_
 refine H.s 7 fun a H => ?_
 refine H.v 8 (.bool false) fun a H => H.v 2 (.bool false) fun a H => ?_
 refine nl (tn (rt ?_))
 refine H.r1 (.bool false) Tryz.results114 ?_
 exact ⟨by rw [show inR n (-50400) 50400 = (false) from by simp [inR, g5, g5p]], HP.bl⟩
theorem zone_any (off : Int) (A : Option Addr) (c : Nat) (sh : Alts) (w : World) (hr : IsAl w A sh) (hl : sh.length ≤ maxLen) : Calls Tryz.prog 69 #[.agg #[.int .i64 off, .slice A sh.length c]] w fun e w' => e = .returned (.bool (zoneP off sh)) ∧ Below w.heap.size w w' := by
 unfold maxLen at hl
 have HP := Hp.start w
 refine w_enter 41 [(0, (.agg #[(ii off), (.slice A sh.length c)]))] Tryz.func69 rfl Tryz.ntmps69 (by kernel_rfl) (by kernel_rfl) fun a H => ?_
 refine sq (rg ?_)
 refine H.al HP 1 26 [(ii off), (.slice A sh.length c)] fun b_1 w_2 a H HP => H.v 2 (.bool false) fun a H => ?_
 refine nl (tn (sq (sq (rg ?_))))
 refine H.v 6 (pt b_1 1) fun a H => H.u 7 (.slice A sh.length c) (ex_l1 (HP.cell 0 rfl 1 rfl)) fun a H => H.v 8 (ii sh.length) fun a H => H.v 9 (.bool (decide ((sh.length : Int) > 40))) fun a H => H.v 10 (.bool (decide ((sh.length : Int) > 40))) fun a H => ?_
 refine H.split 10 rfl (fun g10 H => ?_) (fun g10 H => ?_)
 ·have g10p := of_decide_eq_true g10
  iterate 4 refine H.sx rfl fun a H => ?_
  refine H.vx rfl (.bool true) fun a H => ?_
  refine nl (tn ?_)
  refine w_ift H rfl ?_
  refine sq (rg ?_)
  refine H.v 2 (.bool false) fun a H => ?_
  refine nl (tn (rt (tr ?_)))
  refine H.r1 (.bool false) Tryz.results69 ?_
  exact ⟨by rw [show zoneP off sh = false from by (first | (rw [Bool.eq_iff_iff]; (try simp only [zoneP, g10, g10p]); (try simp only [Bool.and_eq_true, Bool.or_eq_true, Bool.not_eq_true', Bool.false_eq_true, decide_eq_true_eq, decide_eq_false_iff_not, inR_iff, inR_not, beq_iff_eq, bne_iff_ne, beq_eq_false_iff_ne, ne_eq, Bool.true_and, Bool.and_true, Bool.false_and, Bool.and_false, Bool.true_or, Bool.or_true, Bool.false_or, Bool.or_false, Bool.not_true, Bool.not_false, and_true, true_and, iff_true, true_iff, iff_false, false_iff, or_true, true_or, or_false, false_or, not_true_eq_false, not_false_eq_true, and_false, false_and]); first | omega | (simp; done) | (simp; omega)) | (simp [zoneP, g10, g10p]; done) | (simp [zoneP, g10, g10p] <;> simp [bne]))], HP.bl⟩
 have g10p := of_decide_eq_false g10
 refine H.v 11 (pt b_1 0) fun a H => H.u 12 (ii off) (ex_l1 (HP.cell 0 rfl 0 rfl)) fun a H => H.cb HP 13 (Tryz.call114 _ _) (isOffset_any off w_2) fun w_3 hb a H HP => H.v 14 (.bool (!(inR off (-50400) 50400))) fun a H => H.v 15 (.bool (!(inR off (-50400) 50400))) fun a H => ?_
 refine nl (tn ?_)
 refine w_if H rfl (fun g15 => ?_) (fun g15 => ?_)
 ·have g15p := inR_not.1 (not_is_true g15)
  refine sq (rg ?_)
  refine H.v 2 (.bool false) fun a H => ?_
  refine nl (tn (rt (tr ?_)))
  refine H.r1 (.bool false) Tryz.results69 ?_
  exact ⟨by rw [show zoneP off sh = false from by (first | (rw [Bool.eq_iff_iff]; (try simp only [zoneP, g10, g10p, g15, g15p]); (try simp only [Bool.and_eq_true, Bool.or_eq_true, Bool.not_eq_true', Bool.false_eq_true, decide_eq_true_eq, decide_eq_false_iff_not, inR_iff, inR_not, beq_iff_eq, bne_iff_ne, beq_eq_false_iff_ne, ne_eq, Bool.true_and, Bool.and_true, Bool.false_and, Bool.and_false, Bool.true_or, Bool.or_true, Bool.false_or, Bool.or_false, Bool.not_true, Bool.not_false, and_true, true_and, iff_true, true_iff, iff_false, false_iff, or_true, true_or, or_false, false_or, not_true_eq_false, not_false_eq_true, and_false, false_and]); first | omega | (simp; done) | (simp; omega)) | (simp [zoneP, g10, g10p, g15, g15p]; done) | (simp [zoneP, g10, g10p, g15, g15p] <;> simp [bne]))], HP.bl⟩
 have g15p := inR_iff.1 (not_is_false g15)
 refine sk (tn (sq (rg ?_)))
 refine H.v 3 (ii (-1)) fun a H => ?_
 refine nl (tn (sq (sq (rg ?_))))
 refine H.v 16 (pt b_1 1) fun a H => H.u 17 (.slice A sh.length c) (ex_l1 (HP.cell 0 rfl 1 rfl)) fun a H => H.v 18 (ii sh.length) fun a H => H.v 19 (ii 0) fun a H => ?_
 refine nl (tn (bk ?_))
 refine w_loop (fun mm a wv => ∃ (i : Nat), ∃ (last : Int), sh.length - i = mm ∧ Sl 41 [(19, (ii i)), (3, (ii last)), (18, (ii sh.length)), (17, (.slice A sh.length c)), (16, (pt b_1 1)), (15, (.bool (!(inR off (-50400) 50400)))), (14, (.bool (!(inR off (-50400) 50400)))), (13, (.bool (inR off (-50400) 50400))), (12, (ii off)), (11, (pt b_1 0)), (10, (.bool false)), (9, (.bool (decide ((sh.length : Int) > 40)))), (8, (ii sh.length)), (7, (.slice A sh.length c)), (6, (pt b_1 1)), (1, (pt b_1 0)), (0, (.agg #[(ii off), (.slice A sh.length c)]))] a ∧ Hp w wv [bx b_1 26 [(ii off), (.slice A sh.length c)] true] [] ∧ (i ≤ sh.length) ∧ (shP (-1) sh = shP last (sh.drop i))) (sh.length - 0) ?_ ?_
 ·exact ⟨0, (-1), (by omega), H.keep (by kernel_rfl), HP, (Nat.zero_le _), rfl⟩
 rintro mm a w_4 ⟨i, last, hmeas, H, HP, hib, hrel⟩
 refine sq (rg ?_)
 refine H.v 20 (.bool (decide ((i : Int) < (sh.length : Int)))) fun a H => ?_
 refine nl (tn (sq ?_))
 refine w_if H rfl (fun g20 => ?_) (fun g20 => ?_)
 ·have g20p := of_decide_eq_true g20
  refine sk (tn (sq (bk (sq ?_))))
  obtain ⟨bu_6, ou_7, x_5, hA_8, _, hd_10, hx_9, hm_11, _⟩ := IsRow.get altC_size (hr.below HP.bl) (i := i) (by omega)
  have hst : shP last (sh.drop i) = (decide (last < x_5.1) && decide (x_5.1 ≤ 10000000000) && inR x_5.2 (-50400) 50400 && shP x_5.1 (sh.drop (i + 1))) := by rw [hd_10]; rfl
  refine rg ?_
  refine H.u 21 (.pointer (some ⟨bu_6, ou_7 + i * 2, none⟩)) (ex_indexA (b := bu_6) (off := ou_7) (len := sh.length) (cap := c) (e := 76) (k := 2) (ik := .i64) (i := (i : Int)) (m := i) hA_8 (by kernel_rfl) (by kernel_rfl) (by omega) (by omega) (by kernel_rfl) (by kernel_rfl)) fun a H => H.u 22 (alV x_5) (ex_lN (alL x_5) (IsRow.cells altC_size (hr.below HP.bl) hA_8 hx_9)) fun a H => H.al HP 5 76 [(ii 0), (ii 0)] fun b_12 w_13 a H HP => H.st HP 0 b_12 0 2 76 true (alV x_5) [bx b_12 76 (alL x_5) true, bx b_1 26 [(ii off), (.slice A sh.length c)] true] rfl fun w_14 a H HP => ?_
  refine nl (tn (sq (sq (rg ?_))))
  refine H.v 23 (pt b_12 0) fun a H => H.u 24 (ii x_5.1) (ex_l1 (HP.cell 0 rfl 0 rfl)) fun a H => H.v 25 (ii last) fun a H => H.v 26 (.bool (decide (x_5.1 ≤ last))) fun a H => H.v 27 (.bool (decide (x_5.1 ≤ last))) fun a H => ?_
  refine H.split 27 rfl (fun g27 H => ?_) (fun g27 H => ?_)
  ·have g27p := of_decide_eq_true g27
   iterate 3 refine H.sx rfl fun a H => ?_
   iterate 2 refine H.vx rfl (.bool true) fun a H => ?_
   iterate 4 refine H.sx rfl fun a H => ?_
   refine H.vx rfl (.bool true) fun a H => ?_
   refine nl (tn ?_)
   refine w_ift H rfl ?_
   refine sq (rg ?_)
   refine H.v 2 (.bool false) fun a H => ?_
   refine nl (tn (rt (tr (ibr (tr (tr (ibr (tr ?_))))))))
   refine H.r1 (.bool false) Tryz.results69 ?_
   have hz : shP (-1) sh = false := by rw [hrel, hst]; (first | (rw [Bool.eq_iff_iff]; (try simp only [g10, g10p, g15, g15p, g20, g20p, g27, g27p]); (try simp only [Bool.and_eq_true, Bool.or_eq_true, Bool.not_eq_true', Bool.false_eq_true, decide_eq_true_eq, decide_eq_false_iff_not, inR_iff, inR_not, beq_iff_eq, bne_iff_ne, beq_eq_false_iff_ne, ne_eq, Bool.true_and, Bool.and_true, Bool.false_and, Bool.and_false, Bool.true_or, Bool.or_true, Bool.false_or, Bool.or_false, Bool.not_true, Bool.not_false, and_true, true_and, iff_true, true_iff, iff_false, false_iff, or_true, true_or, or_false, false_or, not_true_eq_false, not_false_eq_true, and_false, false_and]); first | omega | (simp; done) | (simp; omega)) | (simp [g10, g10p, g15, g15p, g20, g20p, g27, g27p]; done) | (simp [g10, g10p, g15, g15p, g20, g20p, g27, g27p] <;> simp [bne]))
   exact ⟨by unfold zoneP; rw [hz]; simp, HP.bl⟩
  have g27p := of_decide_eq_false g27
  refine H.v 28 (pt b_12 0) fun a H => H.u 29 (ii x_5.1) (ex_l1 (HP.cell 0 rfl 0 rfl)) fun a H => H.v 30 (.bool (decide (x_5.1 > 10000000000))) fun a H => H.v 31 (.bool (decide (x_5.1 > 10000000000))) fun a H => H.v 32 (.bool (decide (x_5.1 > 10000000000))) fun a H => ?_
  refine H.split 32 rfl (fun g32 H => ?_) (fun g32 H => ?_)
  ·have g32p := of_decide_eq_true g32
   iterate 4 refine H.sx rfl fun a H => ?_
   refine H.vx rfl (.bool true) fun a H => ?_
   refine nl (tn ?_)
   refine w_ift H rfl ?_
   refine sq (rg ?_)
   refine H.v 2 (.bool false) fun a H => ?_
   refine nl (tn (rt (tr (ibr (tr (tr (ibr (tr ?_))))))))
   refine H.r1 (.bool false) Tryz.results69 ?_
   have hz : shP (-1) sh = false := by rw [hrel, hst]; (first | (rw [Bool.eq_iff_iff]; (try simp only [g10, g10p, g15, g15p, g20, g20p, g27, g27p, g32, g32p]); (try simp only [Bool.and_eq_true, Bool.or_eq_true, Bool.not_eq_true', Bool.false_eq_true, decide_eq_true_eq, decide_eq_false_iff_not, inR_iff, inR_not, beq_iff_eq, bne_iff_ne, beq_eq_false_iff_ne, ne_eq, Bool.true_and, Bool.and_true, Bool.false_and, Bool.and_false, Bool.true_or, Bool.or_true, Bool.false_or, Bool.or_false, Bool.not_true, Bool.not_false, and_true, true_and, iff_true, true_iff, iff_false, false_iff, or_true, true_or, or_false, false_or, not_true_eq_false, not_false_eq_true, and_false, false_and]); first | omega | (simp; done) | (simp; omega)) | (simp [g10, g10p, g15, g15p, g20, g20p, g27, g27p, g32, g32p]; done) | (simp [g10, g10p, g15, g15p, g20, g20p, g27, g27p, g32, g32p] <;> simp [bne]))
   exact ⟨by unfold zoneP; rw [hz]; simp, HP.bl⟩
  have g32p := of_decide_eq_false g32
  refine H.v 33 (pt b_12 1) fun a H => H.u 34 (ii x_5.2) (ex_l1 (HP.cell 0 rfl 1 rfl)) fun a H => H.cb HP 35 (Tryz.call114 _ _) (isOffset_any x_5.2 w_14) fun w_15 hb a H HP => H.v 36 (.bool (!(inR x_5.2 (-50400) 50400))) fun a H => H.v 37 (.bool (!(inR x_5.2 (-50400) 50400))) fun a H => ?_
  refine nl (tn ?_)
  refine w_if H rfl (fun g37 => ?_) (fun g37 => ?_)
  ·have g37p := inR_not.1 (not_is_true g37)
   refine sq (rg ?_)
   refine H.v 2 (.bool false) fun a H => ?_
   refine nl (tn (rt (tr (ibr (tr (tr (ibr (tr ?_))))))))
   refine H.r1 (.bool false) Tryz.results69 ?_
   have hz : shP (-1) sh = false := by rw [hrel, hst]; (first | (rw [Bool.eq_iff_iff]; (try simp only [g10, g10p, g15, g15p, g20, g20p, g27, g27p, g32, g32p, g37, g37p]); (try simp only [Bool.and_eq_true, Bool.or_eq_true, Bool.not_eq_true', Bool.false_eq_true, decide_eq_true_eq, decide_eq_false_iff_not, inR_iff, inR_not, beq_iff_eq, bne_iff_ne, beq_eq_false_iff_ne, ne_eq, Bool.true_and, Bool.and_true, Bool.false_and, Bool.and_false, Bool.true_or, Bool.or_true, Bool.false_or, Bool.or_false, Bool.not_true, Bool.not_false, and_true, true_and, iff_true, true_iff, iff_false, false_iff, or_true, true_or, or_false, false_or, not_true_eq_false, not_false_eq_true, and_false, false_and]); first | omega | (simp; done) | (simp; omega)) | (simp [g10, g10p, g15, g15p, g20, g20p, g27, g27p, g32, g32p, g37, g37p]; done) | (simp [g10, g10p, g15, g15p, g20, g20p, g27, g27p, g32, g32p, g37, g37p] <;> simp [bne]))
   exact ⟨by unfold zoneP; rw [hz]; simp, HP.bl⟩
  have g37p := inR_iff.1 (not_is_false g37)
  refine sk (tn (rg ?_))
  refine H.v 38 (pt b_12 0) fun a H => H.u 39 (ii x_5.1) (ex_l1 (HP.cell 0 rfl 0 rfl)) fun a H => H.v 3 (ii x_5.1) fun a H => ?_
  refine nl (ibn (tn (rg ?_)))
  refine H.valE 40 (ii (IntKind.i64.wrap ((i : Int) + 1))) (ii ((i : Int) + 1)) (by kernel_rfl) (by kernel_rfl) ((by rw [wrap_ini64 _ (by omega)])) fun a H => H.v 19 (ii ((i : Int) + 1)) fun a H => ?_
  refine nl (tn ?_)
  have H := H.as 19 (ii ((i + 1 : Nat) : Int)) rfl rfl
  refine ⟨_, ?_, i + 1, x_5.1, rfl, H.keep (by kernel_rfl), (HP.tail rfl), (by omega), (by rw [hrel, hst, decide_eq_true (show last < x_5.1 by omega), decide_eq_true (show x_5.1 ≤ 10000000000 by omega), inR_iff.2 (show -50400 ≤ x_5.2 ∧ x_5.2 ≤ 50400 by omega)]; rfl)⟩
  omega
 have g20p := of_decide_eq_false g20
 refine wp_exit (then_exit (then_exit ?_))
 refine w_exit_here ?_
 refine tn (sq (rg ?_))
 refine H.v 2 (.bool true) fun a H => ?_
 refine nl (tn (rt ?_))
 refine H.r1 (.bool true) Tryz.results69 ?_
 have hz : shP (-1) sh = true := by rw [hrel, List.drop_eq_nil_of_le (by omega)]; rfl
 exact ⟨by rw [show zoneP off sh = true from by (first | (rw [Bool.eq_iff_iff]; (try simp only [zoneP, hz, g10, g10p, g15, g15p, g20, g20p]); (try simp only [Bool.and_eq_true, Bool.or_eq_true, Bool.not_eq_true', Bool.false_eq_true, decide_eq_true_eq, decide_eq_false_iff_not, inR_iff, inR_not, beq_iff_eq, bne_iff_ne, beq_eq_false_iff_ne, ne_eq, Bool.true_and, Bool.and_true, Bool.false_and, Bool.and_false, Bool.true_or, Bool.or_true, Bool.false_or, Bool.or_false, Bool.not_true, Bool.not_false, and_true, true_and, iff_true, true_iff, iff_false, false_iff, or_true, true_or, or_false, false_or, not_true_eq_false, not_false_eq_true, and_false, false_and]); first | omega | (simp; done) | (simp; omega)) | (simp [zoneP, hz, g10, g10p, g15, g15p, g20, g20p]; done) | (simp [zoneP, hz, g10, g10p, g15, g15p, g20, g20p] <;> simp [bne]))], HP.bl⟩
theorem rzone_any (off : Int) (A : Option Addr) (c : Nat) (sh : Alts) (w : World) (hr : IsAl w A sh) (hl : sh.length ≤ maxLen) : Calls Tryz.prog 37 #[.agg #[.int .i64 off, .slice A sh.length c]] w fun e w' => e = .returned (.bool (zoneP off sh)) ∧ Below w.heap.size w w' := by
 unfold maxLen at hl
 have HP := Hp.start w
 refine w_enter 63 [(0, (.agg #[(ii off), (.slice A sh.length c)]))] Tryz.func37 rfl Tryz.ntmps37 (by kernel_rfl) (by kernel_rfl) fun a H => ?_
 refine sq (rg ?_)
 refine H.al HP 1 26 [(ii off), (.slice A sh.length c)] fun b_1 w_2 a H HP => H.v 2 (.bool false) fun a H => ?_
 refine nl (tn (sq (sq (rg ?_))))
 refine H.v 5 (pt b_1 0) fun a H => H.u 6 (ii off) (ex_l1 (HP.cell 0 rfl 0 rfl)) fun a H => H.v 7 (.bool (decide (off < (-50400)))) fun a H => H.v 8 (.bool (decide (off < (-50400)))) fun a H => ?_
 refine H.split 8 rfl (fun g8 H => ?_) (fun g8 H => ?_)
 ·have g8p := of_decide_eq_true g8
  iterate 3 refine H.sx rfl fun a H => ?_
  iterate 2 refine H.vx rfl (.bool true) fun a H => ?_
  iterate 4 refine H.sx rfl fun a H => ?_
  refine H.vx rfl (.bool true) fun a H => ?_
  refine nl (tn ?_)
  refine w_ift H rfl ?_
  refine sq (rg ?_)
  refine H.v 2 (.bool false) fun a H => ?_
  refine nl (tn (rt (tr ?_)))
  refine H.r1 (.bool false) Tryz.results37 ?_
  exact ⟨by rw [show zoneP off sh = false from by (first | (rw [Bool.eq_iff_iff]; (try simp only [zoneP, g8, g8p]); (try simp only [Bool.and_eq_true, Bool.or_eq_true, Bool.not_eq_true', Bool.false_eq_true, decide_eq_true_eq, decide_eq_false_iff_not, inR_iff, inR_not, beq_iff_eq, bne_iff_ne, beq_eq_false_iff_ne, ne_eq, Bool.true_and, Bool.and_true, Bool.false_and, Bool.and_false, Bool.true_or, Bool.or_true, Bool.false_or, Bool.or_false, Bool.not_true, Bool.not_false, and_true, true_and, iff_true, true_iff, iff_false, false_iff, or_true, true_or, or_false, false_or, not_true_eq_false, not_false_eq_true, and_false, false_and]); first | omega | (simp; done) | (simp; omega)) | (simp [zoneP, g8, g8p]; done) | (simp [zoneP, g8, g8p] <;> simp [bne]))], HP.bl⟩
 have g8p := of_decide_eq_false g8
 refine H.v 9 (pt b_1 0) fun a H => H.u 10 (ii off) (ex_l1 (HP.cell 0 rfl 0 rfl)) fun a H => H.v 11 (.bool (decide (off > 50400))) fun a H => H.v 12 (.bool (decide (off > 50400))) fun a H => H.v 13 (.bool (decide (off > 50400))) fun a H => ?_
 refine H.split 13 rfl (fun g13 H => ?_) (fun g13 H => ?_)
 ·have g13p := of_decide_eq_true g13
  iterate 4 refine H.sx rfl fun a H => ?_
  refine H.vx rfl (.bool true) fun a H => ?_
  refine nl (tn ?_)
  refine w_ift H rfl ?_
  refine sq (rg ?_)
  refine H.v 2 (.bool false) fun a H => ?_
  refine nl (tn (rt (tr ?_)))
  refine H.r1 (.bool false) Tryz.results37 ?_
  exact ⟨by rw [show zoneP off sh = false from by (first | (rw [Bool.eq_iff_iff]; (try simp only [zoneP, g8, g8p, g13, g13p]); (try simp only [Bool.and_eq_true, Bool.or_eq_true, Bool.not_eq_true', Bool.false_eq_true, decide_eq_true_eq, decide_eq_false_iff_not, inR_iff, inR_not, beq_iff_eq, bne_iff_ne, beq_eq_false_iff_ne, ne_eq, Bool.true_and, Bool.and_true, Bool.false_and, Bool.and_false, Bool.true_or, Bool.or_true, Bool.false_or, Bool.or_false, Bool.not_true, Bool.not_false, and_true, true_and, iff_true, true_iff, iff_false, false_iff, or_true, true_or, or_false, false_or, not_true_eq_false, not_false_eq_true, and_false, false_and]); first | omega | (simp; done) | (simp; omega)) | (simp [zoneP, g8, g8p, g13, g13p]; done) | (simp [zoneP, g8, g8p, g13, g13p] <;> simp [bne]))], HP.bl⟩
 have g13p := of_decide_eq_false g13
 refine H.v 14 (pt b_1 1) fun a H => H.u 15 (.slice A sh.length c) (ex_l1 (HP.cell 0 rfl 1 rfl)) fun a H => H.v 16 (ii sh.length) fun a H => H.v 17 (.bool (decide ((sh.length : Int) > 40))) fun a H => H.v 18 (.bool (decide ((sh.length : Int) > 40))) fun a H => ?_
 refine nl (tn ?_)
 refine w_if H rfl (fun g18 => ?_) (fun g18 => ?_)
 ·have g18p := of_decide_eq_true g18
  refine sq (rg ?_)
  refine H.v 2 (.bool false) fun a H => ?_
  refine nl (tn (rt (tr ?_)))
  refine H.r1 (.bool false) Tryz.results37 ?_
  exact ⟨by rw [show zoneP off sh = false from by (first | (rw [Bool.eq_iff_iff]; (try simp only [zoneP, g8, g8p, g13, g13p, g18, g18p]); (try simp only [Bool.and_eq_true, Bool.or_eq_true, Bool.not_eq_true', Bool.false_eq_true, decide_eq_true_eq, decide_eq_false_iff_not, inR_iff, inR_not, beq_iff_eq, bne_iff_ne, beq_eq_false_iff_ne, ne_eq, Bool.true_and, Bool.and_true, Bool.false_and, Bool.and_false, Bool.true_or, Bool.or_true, Bool.false_or, Bool.or_false, Bool.not_true, Bool.not_false, and_true, true_and, iff_true, true_iff, iff_false, false_iff, or_true, true_or, or_false, false_or, not_true_eq_false, not_false_eq_true, and_false, false_and]); first | omega | (simp; done) | (simp; omega)) | (simp [zoneP, g8, g8p, g13, g13p, g18, g18p]; done) | (simp [zoneP, g8, g8p, g13, g13p, g18, g18p] <;> simp [bne]))], HP.bl⟩
 have g18p := of_decide_eq_false g18
 refine sk (tn (sq (sq (rg ?_))))
 refine H.v 3 (ii 0) fun a H => ?_
 refine nl (tn (bk ?_))
 refine w_loop (fun mm a wv => ∃ (i : Nat), ∃ (last : Int), sh.length - i = mm ∧ Sl 63 [(3, (ii i)), (18, (.bool (decide ((sh.length : Int) > 40)))), (17, (.bool (decide ((sh.length : Int) > 40)))), (16, (ii sh.length)), (15, (.slice A sh.length c)), (14, (pt b_1 1)), (13, (.bool false)), (12, (.bool (decide (off > 50400)))), (11, (.bool (decide (off > 50400)))), (10, (ii off)), (9, (pt b_1 0)), (8, (.bool false)), (7, (.bool (decide (off < (-50400))))), (6, (ii off)), (5, (pt b_1 0)), (1, (pt b_1 0)), (0, (.agg #[(ii off), (.slice A sh.length c)]))] a ∧ Hp w wv [bx b_1 26 [(ii off), (.slice A sh.length c)] true] [] ∧ (i ≤ sh.length) ∧ ((i = 0 ∧ last = -1) ∨ (∃ y, i ≠ 0 ∧ sh[i - 1]? = some y ∧ last = y.1)) ∧ (-1 ≤ last) ∧ (shP (-1) sh = shP last (sh.drop i))) (sh.length - 0) ?_ ?_
 ·exact ⟨0, (-1), (by omega), H.keep (by kernel_rfl), HP, (Nat.zero_le _), (.inl ⟨rfl, rfl⟩), (Int.le_refl _), rfl⟩
 rintro mm a w_3 ⟨i, last, hmeas, H, HP, hib, hlast, hge, hrel⟩
 refine sq (sq (rg ?_))
 refine H.v 19 (ii i) fun a H => H.v 20 (pt b_1 1) fun a H => H.u 21 (.slice A sh.length c) (ex_l1 (HP.cell 0 rfl 1 rfl)) fun a H => H.v 22 (ii sh.length) fun a H => H.v 23 (.bool (decide ((i : Int) < (sh.length : Int)))) fun a H => ?_
 refine nl (tn ?_)
 refine w_if H rfl (fun g23 => ?_) (fun g23 => ?_)
 ·have g23p := of_decide_eq_true g23
  refine sk (tn (sq (bk (sq ?_))))
  obtain ⟨bu_5, ou_6, x_4, hA_7, _, hd_9, hx_8, hm_10, _⟩ := IsRow.get altC_size (hr.below HP.bl) (i := i) (by omega)
  have hst : shP last (sh.drop i) = (decide (last < x_4.1) && decide (x_4.1 ≤ 10000000000) && inR x_4.2 (-50400) 50400 && shP x_4.1 (sh.drop (i + 1))) := by rw [hd_9]; rfl
  refine rg ?_
  refine H.v 26 (pt b_1 1) fun a H => H.u 27 (.slice A sh.length c) (ex_l1 (HP.cell 0 rfl 1 rfl)) fun a H => H.v 28 (ii i) fun a H => H.u 29 (.pointer (some ⟨bu_5, ou_6 + i * 2, none⟩)) (ex_indexA (b := bu_5) (off := ou_6) (len := sh.length) (cap := c) (e := 76) (k := 2) (ik := .i64) (i := (i : Int)) (m := i) hA_7 (by kernel_rfl) (by kernel_rfl) (by omega) (by omega) (by kernel_rfl) (by kernel_rfl)) fun a H => H.u 30 (alV x_4) (ex_lN (alL x_4) (IsRow.cells altC_size (hr.below HP.bl) hA_7 hx_8)) fun a H => H.al HP 4 76 [(ii 0), (ii 0)] fun b_11 w_12 a H HP => H.st HP 0 b_11 0 2 76 true (alV x_4) [bx b_11 76 (alL x_4) true, bx b_1 26 [(ii off), (.slice A sh.length c)] true] rfl fun w_13 a H HP => ?_
  refine nl (tn (sq (sq (rg ?_))))
  refine H.v 31 (pt b_11 0) fun a H => H.u 32 (ii x_4.1) (ex_l1 (HP.cell 0 rfl 0 rfl)) fun a H => H.v 33 (.bool (decide (x_4.1 < 0))) fun a H => H.v 34 (.bool (decide (x_4.1 < 0))) fun a H => ?_
  refine H.split 34 rfl (fun g34 H => ?_) (fun g34 H => ?_)
  ·have g34p := of_decide_eq_true g34
   iterate 2 ((iterate 3 refine H.sx rfl fun a H => ?_); (iterate 2 refine H.vx rfl (.bool true) fun a H => ?_))
   iterate 3 refine H.sx rfl fun a H => ?_
   refine H.vx rfl (.bool true) fun a H => ?_
   refine nl (tn ?_)
   refine w_ift H rfl ?_
   refine sq (rg ?_)
   refine H.v 2 (.bool false) fun a H => ?_
   refine nl (tn (rt (tr (ibr (tr (tr (ibr (tr ?_))))))))
   refine H.r1 (.bool false) Tryz.results37 ?_
   have hz : shP (-1) sh = false := by rw [hrel, hst]; (first | (rw [Bool.eq_iff_iff]; (try simp only [g8, g8p, g13, g13p, g18, g18p, g23, g23p, g34, g34p]); (try simp only [Bool.and_eq_true, Bool.or_eq_true, Bool.not_eq_true', Bool.false_eq_true, decide_eq_true_eq, decide_eq_false_iff_not, inR_iff, inR_not, beq_iff_eq, bne_iff_ne, beq_eq_false_iff_ne, ne_eq, Bool.true_and, Bool.and_true, Bool.false_and, Bool.and_false, Bool.true_or, Bool.or_true, Bool.false_or, Bool.or_false, Bool.not_true, Bool.not_false, and_true, true_and, iff_true, true_iff, iff_false, false_iff, or_true, true_or, or_false, false_or, not_true_eq_false, not_false_eq_true, and_false, false_and]); first | omega | (simp; done) | (simp; omega)) | (simp [g8, g8p, g13, g13p, g18, g18p, g23, g23p, g34, g34p]; done) | (simp [g8, g8p, g13, g13p, g18, g18p, g23, g23p, g34, g34p] <;> simp [bne]))
   exact ⟨by unfold zoneP; rw [hz]; simp, HP.bl⟩
  have g34p := of_decide_eq_false g34
  refine H.v 35 (pt b_11 0) fun a H => H.u 36 (ii x_4.1) (ex_l1 (HP.cell 0 rfl 0 rfl)) fun a H => H.v 37 (.bool (decide (x_4.1 > 10000000000))) fun a H => H.v 38 (.bool (decide (x_4.1 > 10000000000))) fun a H => H.v 39 (.bool (decide (x_4.1 > 10000000000))) fun a H => ?_
  refine H.split 39 rfl (fun g39 H => ?_) (fun g39 H => ?_)
  ·have g39p := of_decide_eq_true g39
   iterate 3 refine H.sx rfl fun a H => ?_
   iterate 2 refine H.vx rfl (.bool true) fun a H => ?_
   iterate 3 refine H.sx rfl fun a H => ?_
   refine H.vx rfl (.bool true) fun a H => ?_
   refine nl (tn ?_)
   refine w_ift H rfl ?_
   refine sq (rg ?_)
   refine H.v 2 (.bool false) fun a H => ?_
   refine nl (tn (rt (tr (ibr (tr (tr (ibr (tr ?_))))))))
   refine H.r1 (.bool false) Tryz.results37 ?_
   have hz : shP (-1) sh = false := by rw [hrel, hst]; (first | (rw [Bool.eq_iff_iff]; (try simp only [g8, g8p, g13, g13p, g18, g18p, g23, g23p, g34, g34p, g39, g39p]); (try simp only [Bool.and_eq_true, Bool.or_eq_true, Bool.not_eq_true', Bool.false_eq_true, decide_eq_true_eq, decide_eq_false_iff_not, inR_iff, inR_not, beq_iff_eq, bne_iff_ne, beq_eq_false_iff_ne, ne_eq, Bool.true_and, Bool.and_true, Bool.false_and, Bool.and_false, Bool.true_or, Bool.or_true, Bool.false_or, Bool.or_false, Bool.not_true, Bool.not_false, and_true, true_and, iff_true, true_iff, iff_false, false_iff, or_true, true_or, or_false, false_or, not_true_eq_false, not_false_eq_true, and_false, false_and]); first | omega | (simp; done) | (simp; omega)) | (simp [g8, g8p, g13, g13p, g18, g18p, g23, g23p, g34, g34p, g39, g39p]; done) | (simp [g8, g8p, g13, g13p, g18, g18p, g23, g23p, g34, g34p, g39, g39p] <;> simp [bne]))
   exact ⟨by unfold zoneP; rw [hz]; simp, HP.bl⟩
  have g39p := of_decide_eq_false g39
  refine H.v 40 (pt b_11 1) fun a H => H.u 41 (ii x_4.2) (ex_l1 (HP.cell 0 rfl 1 rfl)) fun a H => H.v 42 (.bool (decide (x_4.2 < (-50400)))) fun a H => H.v 43 (.bool (decide (x_4.2 < (-50400)))) fun a H => H.v 44 (.bool (decide (x_4.2 < (-50400)))) fun a H => ?_
  refine H.split 44 rfl (fun g44 H => ?_) (fun g44 H => ?_)
  ·have g44p := of_decide_eq_true g44
   iterate 3 refine H.sx rfl fun a H => ?_
   refine H.vx rfl (.bool true) fun a H => ?_
   refine nl (tn ?_)
   refine w_ift H rfl ?_
   refine sq (rg ?_)
   refine H.v 2 (.bool false) fun a H => ?_
   refine nl (tn (rt (tr (ibr (tr (tr (ibr (tr ?_))))))))
   refine H.r1 (.bool false) Tryz.results37 ?_
   have hz : shP (-1) sh = false := by rw [hrel, hst]; (first | (rw [Bool.eq_iff_iff]; (try simp only [g8, g8p, g13, g13p, g18, g18p, g23, g23p, g34, g34p, g39, g39p, g44, g44p]); (try simp only [Bool.and_eq_true, Bool.or_eq_true, Bool.not_eq_true', Bool.false_eq_true, decide_eq_true_eq, decide_eq_false_iff_not, inR_iff, inR_not, beq_iff_eq, bne_iff_ne, beq_eq_false_iff_ne, ne_eq, Bool.true_and, Bool.and_true, Bool.false_and, Bool.and_false, Bool.true_or, Bool.or_true, Bool.false_or, Bool.or_false, Bool.not_true, Bool.not_false, and_true, true_and, iff_true, true_iff, iff_false, false_iff, or_true, true_or, or_false, false_or, not_true_eq_false, not_false_eq_true, and_false, false_and]); first | omega | (simp; done) | (simp; omega)) | (simp [g8, g8p, g13, g13p, g18, g18p, g23, g23p, g34, g34p, g39, g39p, g44, g44p]; done) | (simp [g8, g8p, g13, g13p, g18, g18p, g23, g23p, g34, g34p, g39, g39p, g44, g44p] <;> simp [bne]))
   exact ⟨by unfold zoneP; rw [hz]; simp, HP.bl⟩
  have g44p := of_decide_eq_false g44
  refine H.v 45 (pt b_11 1) fun a H => H.u 46 (ii x_4.2) (ex_l1 (HP.cell 0 rfl 1 rfl)) fun a H => H.v 47 (.bool (decide (x_4.2 > 50400))) fun a H => H.v 48 (.bool (decide (x_4.2 > 50400))) fun a H => ?_
  refine nl (tn ?_)
  refine w_if H rfl (fun g48 => ?_) (fun g48 => ?_)
  ·have g48p := of_decide_eq_true g48
   refine sq (rg ?_)
   refine H.v 2 (.bool false) fun a H => ?_
   refine nl (tn (rt (tr (ibr (tr (tr (ibr (tr ?_))))))))
   refine H.r1 (.bool false) Tryz.results37 ?_
   have hz : shP (-1) sh = false := by rw [hrel, hst]; (first | (rw [Bool.eq_iff_iff]; (try simp only [g8, g8p, g13, g13p, g18, g18p, g23, g23p, g34, g34p, g39, g39p, g44, g44p, g48, g48p]); (try simp only [Bool.and_eq_true, Bool.or_eq_true, Bool.not_eq_true', Bool.false_eq_true, decide_eq_true_eq, decide_eq_false_iff_not, inR_iff, inR_not, beq_iff_eq, bne_iff_ne, beq_eq_false_iff_ne, ne_eq, Bool.true_and, Bool.and_true, Bool.false_and, Bool.and_false, Bool.true_or, Bool.or_true, Bool.false_or, Bool.or_false, Bool.not_true, Bool.not_false, and_true, true_and, iff_true, true_iff, iff_false, false_iff, or_true, true_or, or_false, false_or, not_true_eq_false, not_false_eq_true, and_false, false_and]); first | omega | (simp; done) | (simp; omega)) | (simp [g8, g8p, g13, g13p, g18, g18p, g23, g23p, g34, g34p, g39, g39p, g44, g44p, g48, g48p]; done) | (simp [g8, g8p, g13, g13p, g18, g18p, g23, g23p, g34, g34p, g39, g39p, g44, g44p, g48, g48p] <;> simp [bne]))
   exact ⟨by unfold zoneP; rw [hz]; simp, HP.bl⟩
  have g48p := of_decide_eq_false g48
  refine sk (tn (sq ?_))
  refine An.start (fun v => Hp w v [bx b_11 76 (alL x_4) true, bx b_1 26 [(ii off), (.slice A sh.length c)] true] []) 14 14 HP wide_follows rfl fun w_14 HP => ?_
  refine An.p H (.inr HP) 0 49 (ii i) fun a H => ?_
  refine An.p H (.inr HP) 1 50 (.bool (decide ((i : Int) > 0))) fun a H => ?_
  refine An.p H (.inr HP) 2 51 (.bool (decide ((i : Int) > 0))) fun a H => ?_
  refine H.split 51 rfl (fun g51 H => ?_) (fun g51 H => ?_)
  ·have g51p := of_decide_eq_true g51
   refine An.p H (.inr HP) 3 52 (pt b_11 0) fun a H => ?_
   refine An.vw H (HP) 4 53 (ii x_4.1) (fun _ hS => ex_l1 (hS.cell 0 rfl 0 rfl)) fun a H => ?_
   refine An.p H (.inr HP) 5 54 (pt b_1 1) fun a H => ?_
   refine An.vw H (HP) 6 55 (.slice A sh.length c) (fun _ hS => ex_l1 (hS.cell 1 rfl 1 rfl)) fun a H => ?_
   refine An.p H (.inr HP) 7 56 (ii i) fun a H => ?_
   obtain ⟨bu_16, ou_17, x_15, hA_18, _, hd_20, hx_19, hm_21, _⟩ := IsRow.get altC_size (hr.below HP.bl) (i := i - 1) (by omega)
   have hly : last = x_15.1 := by rcases hlast with ⟨h1, _⟩ | ⟨z, h1, h2, h3⟩; (exfalso; omega); (rw [hx_19] at h2; cases h2; exact h3)
   refine An.pureE H (.inr (HP)) 8 57 (ii (IntKind.i64.wrap ((i : Int) - 1))) (ii ((i - 1 : Nat) : Int)) rfl (by kernel_rfl) (by kernel_rfl) (fun _ _ _ h => h) (fun _ => by kernel_rfl) ((by rw [wrap_ini64 _ (by omega)]; congr 1; omega)) fun a H => ?_
   refine An.q H (.inr (HP)) 9 58 (.pointer (some ⟨bu_16, ou_17 + (i - 1) * 2, none⟩)) (fun _ => ex_indexA (b := bu_16) (off := ou_17) (len := sh.length) (cap := c) (e := 76) (k := 2) (ik := .i64) (i := ((i - 1 : Nat) : Int)) (m := (i - 1)) hA_18 (by kernel_rfl) (by kernel_rfl) (by omega) (by omega) (by kernel_rfl) (by kernel_rfl)) fun a H => ?_
   refine An.p H (.inr HP) 10 59 (.pointer (some ⟨bu_16, ou_17 + (i - 1) * 2, none⟩)) fun a H => ?_
   refine An.vw H (HP) 11 60 (ii x_15.1) (fun _ hS => ex_l1 (IsRow.cells altC_size (hr.below (hS.below (by kernel_rfl))) hA_18 hx_19 0 _ rfl)) fun a H => ?_
   refine An.p H (.inr HP) 12 61 (.bool (decide (x_4.1 ≤ x_15.1))) fun a H => ?_
   refine An.p H (.inr HP) 13 62 (.bool (decide (x_4.1 ≤ x_15.1))) fun a H => ?_
   refine An.done (by kernel_rfl) ?_
   refine tn ?_
   refine w_if H rfl (fun g62 => ?_) (fun g62 => ?_)
   ·have g62p := of_decide_eq_true g62
    refine sq (rg ?_)
    refine H.v 2 (.bool false) fun a H => ?_
    refine nl (tn (rt (ibr (tr (tr (ibr (tr ?_)))))))
    refine H.r1 (.bool false) Tryz.results37 ?_
    have hz : shP (-1) sh = false := by rw [hrel, hst]; (first | (rw [Bool.eq_iff_iff]; (try simp only [g8, g8p, g13, g13p, g18, g18p, g23, g23p, g34, g34p, g39, g39p, g44, g44p, g48, g48p, g51, g51p, g62, g62p]); (try simp only [Bool.and_eq_true, Bool.or_eq_true, Bool.not_eq_true', Bool.false_eq_true, decide_eq_true_eq, decide_eq_false_iff_not, inR_iff, inR_not, beq_iff_eq, bne_iff_ne, beq_eq_false_iff_ne, ne_eq, Bool.true_and, Bool.and_true, Bool.false_and, Bool.and_false, Bool.true_or, Bool.or_true, Bool.false_or, Bool.or_false, Bool.not_true, Bool.not_false, and_true, true_and, iff_true, true_iff, iff_false, false_iff, or_true, true_or, or_false, false_or, not_true_eq_false, not_false_eq_true, and_false, false_and]); first | omega | (simp; done) | (simp; omega)) | (simp [g8, g8p, g13, g13p, g18, g18p, g23, g23p, g34, g34p, g39, g39p, g44, g44p, g48, g48p, g51, g51p, g62, g62p]; done) | (simp [g8, g8p, g13, g13p, g18, g18p, g23, g23p, g34, g34p, g39, g39p, g44, g44p, g48, g48p, g51, g51p, g62, g62p] <;> simp [bne]))
    exact ⟨by unfold zoneP; rw [hz]; simp, HP.bl⟩
   have g62p := of_decide_eq_false g62
   refine sk (ibn (tn (rg ?_)))
   refine H.v 24 (ii i) fun a H => H.valE 25 (ii (IntKind.i64.wrap ((i : Int) + 1))) (ii ((i : Int) + 1)) (by kernel_rfl) (by kernel_rfl) ((by rw [wrap_ini64 _ (by omega)])) fun a H => H.v 3 (ii ((i : Int) + 1)) fun a H => ?_
   refine nl (tn ?_)
   have hlt : last < x_4.1 := by rcases hlast with ⟨h1, h2⟩ | ⟨z, h1, h2, h3⟩ <;> omega
   have H := H.as 3 (ii ((i + 1 : Nat) : Int)) rfl rfl
   refine ⟨_, ?_, i + 1, x_4.1, rfl, H.keep (by kernel_rfl), (HP.tail rfl), (by omega), (.inr ⟨x_4, by omega, by simpa using hx_8, rfl⟩), (by omega), (by rw [hrel, hst, decide_eq_true hlt, decide_eq_true (show x_4.1 ≤ 10000000000 by omega), inR_iff.2 (show -50400 ≤ x_4.2 ∧ x_4.2 ≤ 50400 by omega)]; rfl)⟩
   omega
  have g51p := of_decide_eq_false g51
  refine An.s H (.inr HP) 3 52 fun a H => ?_
  refine An.s H (.inr HP) 4 53 fun a H => ?_
  refine An.s H (.inr HP) 5 54 fun a H => ?_
  refine An.s H (.inr HP) 6 55 fun a H => ?_
  refine An.s H (.inr HP) 7 56 fun a H => ?_
  refine An.s H (.inr HP) 8 57 fun a H => ?_
  refine An.s H (.inr HP) 9 58 fun a H => ?_
  refine An.s H (.inr HP) 10 59 fun a H => ?_
  refine An.s H (.inr HP) 11 60 fun a H => ?_
  refine An.s H (.inr HP) 12 61 fun a H => ?_
  refine An.p H (.inr HP) 13 62 (.bool false) fun a H => ?_
  refine An.done (by kernel_rfl) ?_
  refine tn ?_
  refine w_iff H rfl ?_
  refine sk (ibn (tn (rg ?_)))
  refine H.v 24 (ii i) fun a H => H.valE 25 (ii (IntKind.i64.wrap ((i : Int) + 1))) (ii ((i : Int) + 1)) (by kernel_rfl) (by kernel_rfl) ((by rw [wrap_ini64 _ (by omega)])) fun a H => H.v 3 (ii ((i : Int) + 1)) fun a H => ?_
  refine nl (tn ?_)
  have hlt : last < x_4.1 := by rcases hlast with ⟨h1, h2⟩ | ⟨z, h1, h2, h3⟩ <;> omega
  have H := H.as 3 (ii ((i + 1 : Nat) : Int)) rfl rfl
  refine ⟨_, ?_, i + 1, x_4.1, rfl, H.keep (by kernel_rfl), (HP.tail rfl), (by omega), (.inr ⟨x_4, by omega, by simpa using hx_8, rfl⟩), (by omega), (by rw [hrel, hst, decide_eq_true hlt, decide_eq_true (show x_4.1 ≤ 10000000000 by omega), inR_iff.2 (show -50400 ≤ x_4.2 ∧ x_4.2 ≤ 50400 by omega)]; rfl)⟩
  omega
 have g23p := of_decide_eq_false g23
 refine wp_exit (then_exit (then_exit ?_))
 refine w_exit_here ?_
 refine tn (sq (rg ?_))
 refine H.v 2 (.bool true) fun a H => ?_
 refine nl (tn (rt ?_))
 refine H.r1 (.bool true) Tryz.results37 ?_
 have hz : shP (-1) sh = true := by rw [hrel, List.drop_eq_nil_of_le (by omega)]; rfl
 exact ⟨by rw [show zoneP off sh = true from by (first | (rw [Bool.eq_iff_iff]; (try simp only [zoneP, hz, g8, g8p, g13, g13p, g18, g18p, g23, g23p]); (try simp only [Bool.and_eq_true, Bool.or_eq_true, Bool.not_eq_true', Bool.false_eq_true, decide_eq_true_eq, decide_eq_false_iff_not, inR_iff, inR_not, beq_iff_eq, bne_iff_ne, beq_eq_false_iff_ne, ne_eq, Bool.true_and, Bool.and_true, Bool.false_and, Bool.and_false, Bool.true_or, Bool.or_true, Bool.false_or, Bool.or_false, Bool.not_true, Bool.not_false, and_true, true_and, iff_true, true_iff, iff_false, false_iff, or_true, true_or, or_false, false_or, not_true_eq_false, not_false_eq_true, and_false, false_and]); first | omega | (simp; done) | (simp; omega)) | (simp [zoneP, hz, g8, g8p, g13, g13p, g18, g18p, g23, g23p]; done) | (simp [zoneP, hz, g8, g8p, g13, g13p, g18, g18p, g23, g23p] <;> simp [bne]))], HP.bl⟩
def bookC (p : Pln) (m1 m2 : Nat) : List Value := plC p ++ [.map (some m1), .map (some m2)]
structure BookAt (w : World) (b m1 m2 : Nat) (p : Pln) : Prop where
 box : Box w b 67 (bookC p m1 m2).toArray
 m1 : MapAt w m1 (itM p.its)
 m2 : MapAt w m2 (bkM p.bs)
 pl : IsPln w p
theorem BookAt.below {w w' : World} {b m1 m2 : Nat} {p : Pln} (h : BookAt w b m1 m2 p) (hb : Below w.heap.size w w') : BookAt w' b m1 m2 p := ⟨h.box.next hb, h.m1.next hb, h.m2.next hb, h.pl.below hb⟩
theorem gI_frames {its : List Itm} (h : its.all itemP = true) (k : Int) : 0 ≤ (gI its k).frames ∧ (gI its k).frames ≤ 100000000 := by
 unfold gI fI
 cases hf : its.find? fun x => x.id == k with
 | none => simp [itZ]
 | some x =>
  have := List.all_eq_true.1 h x (List.mem_of_find?_eq_some hf)
  simp only [itemP, Bool.and_eq_true, inR_iff] at this
  simp only [Option.getD_some]
  omega
theorem any_hit {r t : Int} {a : Int × Int} (h : ([r, t] : List Int) = [a.1, a.2]) : (a.1 == r && a.2 == t) = true := by
 simp only [List.cons.injEq, and_true] at h
 simp [← h.1, ← h.2]
theorem any_miss {r t : Int} {a : Int × Int} (h : ([r, t] : List Int) ≠ [a.1, a.2]) : (a.1 == r && a.2 == t) = false := by
 rw [← Bool.not_eq_true]
 intro hh
 simp only [Bool.and_eq_true, beq_iff_eq] at hh
 exact h (by rw [hh.1, hh.2])
theorem fits_any (x : Ent) (b m1 m2 : Nat) (p : Pln) (w : World) (hBk : BookAt w b m1 m2 p) (hlen : 1 ≤ p.length ∧ p.length ≤ 100000000) (hits : p.its.all itemP = true) : Calls Tryz.prog 72 #[.pointer (some ⟨b, 0, none⟩), (enV x)] w fun e w' => e = .returned (.bool (fitsP p.its p.length x)) ∧ Below w.heap.size w w' := by
 have HP := Hp.start w
 have hgb := gI_frames hits x.item
 refine w_enter 65 [(0, (pt b 0)), (1, (enV x))] Tryz.func72 rfl Tryz.ntmps72 (by kernel_rfl) (by kernel_rfl) fun a H => ?_
 refine sq (rg ?_)
 refine H.al HP 3 43 (enL x) fun b_1 w_2 a H HP => H.v 4 (.bool false) fun a H => ?_
 refine nl (tn (sq ?_))
 refine An.start (fun v => Hp w v [bx b_1 43 (enL x) true] []) 13 13 HP wide_follows rfl fun w_3 HP => ?_
 refine An.p H (.inr HP) 0 8 (pt b 0) fun a H => ?_
 refine An.p H (.inr HP) 1 9 (pt b 0) fun a H => ?_
 refine An.p H (.inr HP) 2 10 (pt b 13) fun a H => ?_
 refine An.vw H (HP) 3 11 (.map (some m1)) (fun _ hS => ex_l1 ((hBk.below (hS.below (by kernel_rfl))).box.cell (i := 13) rfl)) fun a H => ?_
 refine An.p H (.inr HP) 4 12 (pt b_1 1) fun a H => ?_
 refine An.vw H (HP) 5 13 (ii x.item) (fun _ hS => ex_l1 (hS.cell 0 rfl 1 rfl)) fun a H => ?_
 refine An.vw H (HP) 6 14 (.tuple #[(itV (gI p.its x.item)), (.bool (hI p.its x.item))]) (fun _ hS => ex_lookI2 (l := p.its) (kt := 3) (et := 38) (s1 := 5) (s2 := 40) (by kernel_rfl) (by kernel_rfl) (by kernel_rfl) (by kernel_rfl) (by kernel_rfl) ((hBk.below (hS.below (by kernel_rfl))).m1)) fun a H => ?_
 refine An.q H (.inr (HP)) 7 7 (.tuple #[(itV (gI p.its x.item)), (.bool (hI p.its x.item))]) (fun _ => by kernel_rfl) fun a H => ?_
 refine An.q H (.inr (HP)) 8 15 (itV (gI p.its x.item)) (fun _ => by kernel_rfl) fun a H => ?_
 refine An.p H (.inr HP) 9 16 (.bool (hI p.its x.item)) fun a H => ?_
 refine An.one 10 (by kernel_rfl) ?_
 refine Op.alloc H HP 5 (fun b => (pt b 0)) 38 [(ii 0), (ii 0), (ii 0), (ii 0), (ii 0)] rfl (by kernel_rfl) (fun w => by kernel_rfl) fun b_4 w_5 a H HP => ?_
 refine ⟨.inr ((HP.tail rfl)), ?_⟩
 refine An.one 11 (by kernel_rfl) ?_
 refine Op.store H HP 0 b_4 0 5 38 [(ii 0), (ii 0), (ii 0), (ii 0), (ii 0)] true (itV (gI p.its x.item)) [bx b_4 38 (itL (gI p.its x.item)) true, bx b_1 43 (enL x) true] rfl (by kernel_rfl) (by kernel_rfl) (by kernel_rfl) rfl (by kernel_rfl) (by kernel_rfl) (by kernel_rfl) (by kernel_rfl) (by kernel_rfl) fun w_6 a H HP => ?_
 refine ⟨.inr ((HP.tail rfl)), ?_⟩
 refine An.p H (.inr ((HP.tail rfl))) 12 6 (.bool (hI p.its x.item)) fun a H => ?_
 refine An.done (by kernel_rfl) ?_
 refine tn (sq (sq (rg ?_)))
 refine H.v 17 (.bool (hI p.its x.item)) fun a H => H.v 18 (.bool (!(hI p.its x.item))) fun a H => H.v 19 (.bool (!(hI p.its x.item))) fun a H => ?_
 refine H.split 19 rfl (fun g19 H => ?_) (fun g19 H => ?_)
 ·have g19p := not_is_true g19
  iterate 3 refine H.sx rfl fun a H => ?_
  iterate 2 refine H.vx rfl (.bool true) fun a H => ?_
  iterate 6 refine H.sx rfl fun a H => ?_
  refine H.vx rfl (.bool true) fun a H => ?_
  refine nl (tn ?_)
  refine w_ift H rfl ?_
  refine sq (rg ?_)
  refine H.v 4 (.bool false) fun a H => ?_
  refine nl (tn (rt (tr ?_)))
  refine H.r1 (.bool false) Tryz.results72 ?_
  exact ⟨by rw [show fitsP p.its p.length x = (false) from by (first | (rw [Bool.eq_iff_iff]; (try simp only [fitsP, g19, g19p]); (try simp only [Bool.and_eq_true, Bool.or_eq_true, Bool.not_eq_true', Bool.false_eq_true, decide_eq_true_eq, decide_eq_false_iff_not, inR_iff, inR_not, beq_iff_eq, bne_iff_ne, beq_eq_false_iff_ne, ne_eq, Bool.true_and, Bool.and_true, Bool.false_and, Bool.and_false, Bool.true_or, Bool.or_true, Bool.false_or, Bool.or_false, Bool.not_true, Bool.not_false, and_true, true_and, iff_true, true_iff, iff_false, false_iff, or_true, true_or, or_false, false_or, not_true_eq_false, not_false_eq_true, and_false, false_and]); first | omega | (simp; done) | (simp; omega)) | (simp [fitsP, g19, g19p]; done) | (simp [fitsP, g19, g19p] <;> simp [bne]))], HP.bl⟩
 have g19p := not_is_false g19
 refine H.v 20 (pt b_4 1) fun a H => H.u 21 (ii ((gI p.its x.item).kind)) (ex_l1 (HP.cell 0 rfl 1 rfl)) fun a H => H.v 22 (.bool (((gI p.its x.item).kind) == 5)) fun a H => H.v 23 (.bool (((gI p.its x.item).kind) == 5)) fun a H => H.v 24 (.bool (((gI p.its x.item).kind) == 5)) fun a H => ?_
 refine H.split 24 rfl (fun g24 H => ?_) (fun g24 H => ?_)
 ·have g24p := eq_of_beq g24
  iterate 6 refine H.sx rfl fun a H => ?_
  refine H.vx rfl (.bool true) fun a H => ?_
  refine nl (tn ?_)
  refine w_ift H rfl ?_
  refine sq (rg ?_)
  refine H.v 4 (.bool false) fun a H => ?_
  refine nl (tn (rt (tr ?_)))
  refine H.r1 (.bool false) Tryz.results72 ?_
  exact ⟨by rw [show fitsP p.its p.length x = (false) from by (first | (rw [Bool.eq_iff_iff]; (try simp only [fitsP, g19, g19p, g24, g24p]); (try simp only [Bool.and_eq_true, Bool.or_eq_true, Bool.not_eq_true', Bool.false_eq_true, decide_eq_true_eq, decide_eq_false_iff_not, inR_iff, inR_not, beq_iff_eq, bne_iff_ne, beq_eq_false_iff_ne, ne_eq, Bool.true_and, Bool.and_true, Bool.false_and, Bool.and_false, Bool.true_or, Bool.or_true, Bool.false_or, Bool.or_false, Bool.not_true, Bool.not_false, and_true, true_and, iff_true, true_iff, iff_false, false_iff, or_true, true_or, or_false, false_or, not_true_eq_false, not_false_eq_true, and_false, false_and]); first | omega | (simp; done) | (simp; omega)) | (simp [fitsP, g19, g19p, g24, g24p]; done) | (simp [fitsP, g19, g19p, g24, g24p] <;> simp [bne]))], HP.bl⟩
 have g24p := ne_of_beq_false g24
 refine H.v 25 (pt b_1 2) fun a H => H.u 26 (ii x.frames) (ex_l1 (HP.cell 1 rfl 2 rfl)) fun a H => H.v 27 (pt b_4 2) fun a H => H.u 28 (ii ((gI p.its x.item).frames)) (ex_l1 (HP.cell 0 rfl 2 rfl)) fun a H => H.cb HP 29 (Tryz.call67 _ _) (within_any x.frames 1 ((gI p.its x.item).frames) w_6) fun w_7 hb a H HP => H.v 30 (.bool (!(inR x.frames 1 ((gI p.its x.item).frames)))) fun a H => H.v 31 (.bool (!(inR x.frames 1 ((gI p.its x.item).frames)))) fun a H => ?_
 refine nl (tn ?_)
 refine w_if H rfl (fun g31 => ?_) (fun g31 => ?_)
 ·have g31p := inR_not.1 (not_is_true g31)
  refine sq (rg ?_)
  refine H.v 4 (.bool false) fun a H => ?_
  refine nl (tn (rt (tr ?_)))
  refine H.r1 (.bool false) Tryz.results72 ?_
  exact ⟨by rw [show fitsP p.its p.length x = (false) from by (first | (rw [Bool.eq_iff_iff]; (try simp only [fitsP, g19, g19p, g24, g24p, g31, g31p]); (try simp only [Bool.and_eq_true, Bool.or_eq_true, Bool.not_eq_true', Bool.false_eq_true, decide_eq_true_eq, decide_eq_false_iff_not, inR_iff, inR_not, beq_iff_eq, bne_iff_ne, beq_eq_false_iff_ne, ne_eq, Bool.true_and, Bool.and_true, Bool.false_and, Bool.and_false, Bool.true_or, Bool.or_true, Bool.false_or, Bool.or_false, Bool.not_true, Bool.not_false, and_true, true_and, iff_true, true_iff, iff_false, false_iff, or_true, true_or, or_false, false_or, not_true_eq_false, not_false_eq_true, and_false, false_and]); first | omega | (simp; done) | (simp; omega)) | (simp [fitsP, g19, g19p, g24, g24p, g31, g31p]; done) | (simp [fitsP, g19, g19p, g24, g24p, g31, g31p] <;> simp [bne]))], HP.bl⟩
 have g31p := inR_iff.1 (not_is_false g31)
 refine sk (tn (sq (sq (rg ?_))))
 refine H.v 32 (pt b_4 1) fun a H => H.u 33 (ii ((gI p.its x.item).kind)) (ex_l1 (HP.cell 0 rfl 1 rfl)) fun a H => H.v 34 (.bool (((gI p.its x.item).kind) != 4)) fun a H => H.v 35 (.bool (((gI p.its x.item).kind) != 4)) fun a H => ?_
 refine H.split 35 rfl (fun g35 H => ?_) (fun g35 H => ?_)
 ·have g35p := bne_iff_ne.1 g35
  refine H.v 36 (pt b_1 2) fun a H => H.u 37 (ii x.frames) (ex_l1 (HP.cell 1 rfl 2 rfl)) fun a H => H.v 38 (pt b_4 2) fun a H => H.u 39 (ii ((gI p.its x.item).frames)) (ex_l1 (HP.cell 0 rfl 2 rfl)) fun a H => H.v 40 (.bool (x.frames != ((gI p.its x.item).frames))) fun a H => H.v 41 (.bool (x.frames != ((gI p.its x.item).frames))) fun a H => ?_
  refine nl (tn ?_)
  refine w_if H rfl (fun g41 => ?_) (fun g41 => ?_)
  ·have g41p := bne_iff_ne.1 g41
   refine sq (rg ?_)
   refine H.v 4 (.bool false) fun a H => ?_
   refine nl (tn (rt (tr ?_)))
   refine H.r1 (.bool false) Tryz.results72 ?_
   exact ⟨by rw [show fitsP p.its p.length x = (false) from by (first | (rw [Bool.eq_iff_iff]; (try simp only [fitsP, g19, g19p, g24, g24p, g31, g31p, g35, g35p, g41, g41p]); (try simp only [Bool.and_eq_true, Bool.or_eq_true, Bool.not_eq_true', Bool.false_eq_true, decide_eq_true_eq, decide_eq_false_iff_not, inR_iff, inR_not, beq_iff_eq, bne_iff_ne, beq_eq_false_iff_ne, ne_eq, Bool.true_and, Bool.and_true, Bool.false_and, Bool.and_false, Bool.true_or, Bool.or_true, Bool.false_or, Bool.or_false, Bool.not_true, Bool.not_false, and_true, true_and, iff_true, true_iff, iff_false, false_iff, or_true, true_or, or_false, false_or, not_true_eq_false, not_false_eq_true, and_false, false_and]); first | omega | (simp; done) | (simp; omega)) | (simp [fitsP, g19, g19p, g24, g24p, g31, g31p, g35, g35p, g41, g41p]; done) | (simp [fitsP, g19, g19p, g24, g24p, g31, g31p, g35, g35p, g41, g41p] <;> simp [bne]))], HP.bl⟩
  have g41p := eq_of_bne_false g41
  refine sk (tn (sq ?_))
  refine An.start (fun v => Hp w v [bx b_4 38 (itL (gI p.its x.item)) true, bx b_1 43 (enL x) true] []) 24 24 HP wide_follows rfl fun w_8 HP => ?_
  refine An.p H (.inr HP) 0 42 (pt b_1 3) fun a H => ?_
  refine An.vw H (HP) 1 43 (ii x.earliest) (fun _ hS => ex_l1 (hS.cell 1 rfl 3 rfl)) fun a H => ?_
  refine An.p H (.inr HP) 2 44 (.bool (decide (0 ≤ x.earliest))) fun a H => ?_
  refine An.p H (.inr HP) 3 45 (.bool (decide (0 ≤ x.earliest))) fun a H => ?_
  refine H.split 45 rfl (fun g45 H => ?_) (fun g45 H => ?_)
  ·have g45p := of_decide_eq_true g45
   refine An.p H (.inr HP) 4 46 (pt b_1 3) fun a H => ?_
   refine An.vw H (HP) 5 47 (ii x.earliest) (fun _ hS => ex_l1 (hS.cell 1 rfl 3 rfl)) fun a H => ?_
   refine An.p H (.inr HP) 6 48 (pt b_1 4) fun a H => ?_
   refine An.vw H (HP) 7 49 (ii x.latest) (fun _ hS => ex_l1 (hS.cell 1 rfl 4 rfl)) fun a H => ?_
   refine An.p H (.inr HP) 8 50 (.bool (decide (x.earliest ≤ x.latest))) fun a H => ?_
   refine An.p H (.inr HP) 9 51 (.bool (decide (x.earliest ≤ x.latest))) fun a H => ?_
   refine An.p H (.inr HP) 10 52 (.bool (decide (x.earliest ≤ x.latest))) fun a H => ?_
   refine H.split 52 rfl (fun g52 H => ?_) (fun g52 H => ?_)
   ·have g52p := of_decide_eq_true g52
    refine An.p H (.inr HP) 11 53 (pt b_1 4) fun a H => ?_
    refine An.vw H (HP) 12 54 (ii x.latest) (fun _ hS => ex_l1 (hS.cell 1 rfl 4 rfl)) fun a H => ?_
    refine An.p H (.inr HP) 13 55 (pt b 0) fun a H => ?_
    refine An.p H (.inr HP) 14 56 (pt b 0) fun a H => ?_
    refine An.p H (.inr HP) 15 57 (pt b 0) fun a H => ?_
    refine An.p H (.inr HP) 16 58 (pt b 7) fun a H => ?_
    refine An.vw H (HP) 17 59 (ii p.length) (fun _ hS => ex_l1 ((hBk.below (hS.below (by kernel_rfl))).box.cell (i := 7) rfl)) fun a H => ?_
    refine An.p H (.inr HP) 18 60 (pt b_1 2) fun a H => ?_
    refine An.vw H (HP) 19 61 (ii x.frames) (fun _ hS => ex_l1 (hS.cell 1 rfl 2 rfl)) fun a H => ?_
    have hfr : 1 ≤ x.frames ∧ x.frames ≤ (gI p.its x.item).frames := ‹1 ≤ x.frames ∧ x.frames ≤ (gI p.its x.item).frames›
    have hfr : 1 ≤ x.frames ∧ x.frames ≤ (gI p.its x.item).frames := ‹1 ≤ x.frames ∧ x.frames ≤ (gI p.its x.item).frames›
    refine An.pureE H (.inr (HP)) 20 62 (ii (IntKind.i64.wrap (p.length - x.frames))) (ii (p.length - x.frames)) rfl (by kernel_rfl) (by kernel_rfl) (fun _ _ _ h => h) (fun _ => by kernel_rfl) ((by rw [wrap_ini64 _ (by omega)])) fun a H => ?_
    refine An.p H (.inr HP) 21 63 (.bool (decide (x.latest ≤ (p.length - x.frames)))) fun a H => ?_
    refine An.p H (.inr HP) 22 64 (.bool (decide (x.latest ≤ (p.length - x.frames)))) fun a H => ?_
    refine An.p H (.inr HP) 23 4 (.bool (decide (x.latest ≤ (p.length - x.frames)))) fun a H => ?_
    refine An.done (by kernel_rfl) ?_
    refine tn (rt ?_)
    refine H.r1 (.bool (decide (x.latest ≤ (p.length - x.frames)))) Tryz.results72 ?_
    exact ⟨by rw [show fitsP p.its p.length x = (decide (x.latest ≤ (p.length - x.frames))) from by (first | (rw [Bool.eq_iff_iff]; (try simp only [fitsP, g19, g19p, g24, g24p, g31, g31p, g35, g35p, g41, g41p, g45, g45p, g52, g52p]); (try simp only [Bool.and_eq_true, Bool.or_eq_true, Bool.not_eq_true', Bool.false_eq_true, decide_eq_true_eq, decide_eq_false_iff_not, inR_iff, inR_not, beq_iff_eq, bne_iff_ne, beq_eq_false_iff_ne, ne_eq, Bool.true_and, Bool.and_true, Bool.false_and, Bool.and_false, Bool.true_or, Bool.or_true, Bool.false_or, Bool.or_false, Bool.not_true, Bool.not_false, and_true, true_and, iff_true, true_iff, iff_false, false_iff, or_true, true_or, or_false, false_or, not_true_eq_false, not_false_eq_true, and_false, false_and]); first | omega | (simp; done) | (simp; omega)) | (simp [fitsP, g19, g19p, g24, g24p, g31, g31p, g35, g35p, g41, g41p, g45, g45p, g52, g52p]; done) | (simp [fitsP, g19, g19p, g24, g24p, g31, g31p, g35, g35p, g41, g41p, g45, g45p, g52, g52p] <;> simp [bne]))], HP.bl⟩
   have g52p := of_decide_eq_false g52
   refine An.s H (.inr HP) 11 53 fun a H => ?_
   refine An.s H (.inr HP) 12 54 fun a H => ?_
   refine An.s H (.inr HP) 13 55 fun a H => ?_
   refine An.s H (.inr HP) 14 56 fun a H => ?_
   refine An.s H (.inr HP) 15 57 fun a H => ?_
   refine An.s H (.inr HP) 16 58 fun a H => ?_
   refine An.s H (.inr HP) 17 59 fun a H => ?_
   refine An.s H (.inr HP) 18 60 fun a H => ?_
   refine An.s H (.inr HP) 19 61 fun a H => ?_
   refine An.s H (.inr HP) 20 62 fun a H => ?_
   refine An.s H (.inr HP) 21 63 fun a H => ?_
   refine An.p H (.inr HP) 22 64 (.bool false) fun a H => ?_
   refine An.p H (.inr HP) 23 4 (.bool false) fun a H => ?_
   refine An.done (by kernel_rfl) ?_
   refine tn (rt ?_)
   refine H.r1 (.bool false) Tryz.results72 ?_
   exact ⟨by rw [show fitsP p.its p.length x = (false) from by (first | (rw [Bool.eq_iff_iff]; (try simp only [fitsP, g19, g19p, g24, g24p, g31, g31p, g35, g35p, g41, g41p, g45, g45p, g52, g52p]); (try simp only [Bool.and_eq_true, Bool.or_eq_true, Bool.not_eq_true', Bool.false_eq_true, decide_eq_true_eq, decide_eq_false_iff_not, inR_iff, inR_not, beq_iff_eq, bne_iff_ne, beq_eq_false_iff_ne, ne_eq, Bool.true_and, Bool.and_true, Bool.false_and, Bool.and_false, Bool.true_or, Bool.or_true, Bool.false_or, Bool.or_false, Bool.not_true, Bool.not_false, and_true, true_and, iff_true, true_iff, iff_false, false_iff, or_true, true_or, or_false, false_or, not_true_eq_false, not_false_eq_true, and_false, false_and]); first | omega | (simp; done) | (simp; omega)) | (simp [fitsP, g19, g19p, g24, g24p, g31, g31p, g35, g35p, g41, g41p, g45, g45p, g52, g52p]; done) | (simp [fitsP, g19, g19p, g24, g24p, g31, g31p, g35, g35p, g41, g41p, g45, g45p, g52, g52p] <;> simp [bne]))], HP.bl⟩
  have g45p := of_decide_eq_false g45
  refine An.s H (.inr HP) 4 46 fun a H => ?_
  refine An.s H (.inr HP) 5 47 fun a H => ?_
  refine An.s H (.inr HP) 6 48 fun a H => ?_
  refine An.s H (.inr HP) 7 49 fun a H => ?_
  refine An.s H (.inr HP) 8 50 fun a H => ?_
  refine An.p H (.inr HP) 9 51 (.bool false) fun a H => ?_
  refine An.p H (.inr HP) 10 52 (.bool false) fun a H => ?_
  refine An.s H (.inr HP) 11 53 fun a H => ?_
  refine An.s H (.inr HP) 12 54 fun a H => ?_
  refine An.s H (.inr HP) 13 55 fun a H => ?_
  refine An.s H (.inr HP) 14 56 fun a H => ?_
  refine An.s H (.inr HP) 15 57 fun a H => ?_
  refine An.s H (.inr HP) 16 58 fun a H => ?_
  refine An.s H (.inr HP) 17 59 fun a H => ?_
  refine An.s H (.inr HP) 18 60 fun a H => ?_
  refine An.s H (.inr HP) 19 61 fun a H => ?_
  refine An.s H (.inr HP) 20 62 fun a H => ?_
  refine An.s H (.inr HP) 21 63 fun a H => ?_
  refine An.p H (.inr HP) 22 64 (.bool false) fun a H => ?_
  refine An.p H (.inr HP) 23 4 (.bool false) fun a H => ?_
  refine An.done (by kernel_rfl) ?_
  refine tn (rt ?_)
  refine H.r1 (.bool false) Tryz.results72 ?_
  exact ⟨by rw [show fitsP p.its p.length x = (false) from by (first | (rw [Bool.eq_iff_iff]; (try simp only [fitsP, g19, g19p, g24, g24p, g31, g31p, g35, g35p, g41, g41p, g45, g45p]); (try simp only [Bool.and_eq_true, Bool.or_eq_true, Bool.not_eq_true', Bool.false_eq_true, decide_eq_true_eq, decide_eq_false_iff_not, inR_iff, inR_not, beq_iff_eq, bne_iff_ne, beq_eq_false_iff_ne, ne_eq, Bool.true_and, Bool.and_true, Bool.false_and, Bool.and_false, Bool.true_or, Bool.or_true, Bool.false_or, Bool.or_false, Bool.not_true, Bool.not_false, and_true, true_and, iff_true, true_iff, iff_false, false_iff, or_true, true_or, or_false, false_or, not_true_eq_false, not_false_eq_true, and_false, false_and]); first | omega | (simp; done) | (simp; omega)) | (simp [fitsP, g19, g19p, g24, g24p, g31, g31p, g35, g35p, g41, g41p, g45, g45p]; done) | (simp [fitsP, g19, g19p, g24, g24p, g31, g31p, g35, g35p, g41, g41p, g45, g45p] <;> simp [bne]))], HP.bl⟩
 have g35p := eq_of_bne_false g35
 iterate 5 refine H.sx rfl fun a H => ?_
 refine H.v 41 (.bool false) fun a H => ?_
 refine nl (tn ?_)
 refine w_iff H rfl ?_
 refine sk (tn (sq ?_))
 refine An.start (fun v => Hp w v [bx b_4 38 (itL (gI p.its x.item)) true, bx b_1 43 (enL x) true] []) 24 24 HP wide_follows rfl fun w_9 HP => ?_
 refine An.p H (.inr HP) 0 42 (pt b_1 3) fun a H => ?_
 refine An.vw H (HP) 1 43 (ii x.earliest) (fun _ hS => ex_l1 (hS.cell 1 rfl 3 rfl)) fun a H => ?_
 refine An.p H (.inr HP) 2 44 (.bool (decide (0 ≤ x.earliest))) fun a H => ?_
 refine An.p H (.inr HP) 3 45 (.bool (decide (0 ≤ x.earliest))) fun a H => ?_
 refine H.split 45 rfl (fun g45 H => ?_) (fun g45 H => ?_)
 ·have g45p := of_decide_eq_true g45
  refine An.p H (.inr HP) 4 46 (pt b_1 3) fun a H => ?_
  refine An.vw H (HP) 5 47 (ii x.earliest) (fun _ hS => ex_l1 (hS.cell 1 rfl 3 rfl)) fun a H => ?_
  refine An.p H (.inr HP) 6 48 (pt b_1 4) fun a H => ?_
  refine An.vw H (HP) 7 49 (ii x.latest) (fun _ hS => ex_l1 (hS.cell 1 rfl 4 rfl)) fun a H => ?_
  refine An.p H (.inr HP) 8 50 (.bool (decide (x.earliest ≤ x.latest))) fun a H => ?_
  refine An.p H (.inr HP) 9 51 (.bool (decide (x.earliest ≤ x.latest))) fun a H => ?_
  refine An.p H (.inr HP) 10 52 (.bool (decide (x.earliest ≤ x.latest))) fun a H => ?_
  refine H.split 52 rfl (fun g52 H => ?_) (fun g52 H => ?_)
  ·have g52p := of_decide_eq_true g52
   refine An.p H (.inr HP) 11 53 (pt b_1 4) fun a H => ?_
   refine An.vw H (HP) 12 54 (ii x.latest) (fun _ hS => ex_l1 (hS.cell 1 rfl 4 rfl)) fun a H => ?_
   refine An.p H (.inr HP) 13 55 (pt b 0) fun a H => ?_
   refine An.p H (.inr HP) 14 56 (pt b 0) fun a H => ?_
   refine An.p H (.inr HP) 15 57 (pt b 0) fun a H => ?_
   refine An.p H (.inr HP) 16 58 (pt b 7) fun a H => ?_
   refine An.vw H (HP) 17 59 (ii p.length) (fun _ hS => ex_l1 ((hBk.below (hS.below (by kernel_rfl))).box.cell (i := 7) rfl)) fun a H => ?_
   refine An.p H (.inr HP) 18 60 (pt b_1 2) fun a H => ?_
   refine An.vw H (HP) 19 61 (ii x.frames) (fun _ hS => ex_l1 (hS.cell 1 rfl 2 rfl)) fun a H => ?_
   have hfr : 1 ≤ x.frames ∧ x.frames ≤ (gI p.its x.item).frames := ‹1 ≤ x.frames ∧ x.frames ≤ (gI p.its x.item).frames›
   have hfr : 1 ≤ x.frames ∧ x.frames ≤ (gI p.its x.item).frames := ‹1 ≤ x.frames ∧ x.frames ≤ (gI p.its x.item).frames›
   refine An.pureE H (.inr (HP)) 20 62 (ii (IntKind.i64.wrap (p.length - x.frames))) (ii (p.length - x.frames)) rfl (by kernel_rfl) (by kernel_rfl) (fun _ _ _ h => h) (fun _ => by kernel_rfl) ((by rw [wrap_ini64 _ (by omega)])) fun a H => ?_
   refine An.p H (.inr HP) 21 63 (.bool (decide (x.latest ≤ (p.length - x.frames)))) fun a H => ?_
   refine An.p H (.inr HP) 22 64 (.bool (decide (x.latest ≤ (p.length - x.frames)))) fun a H => ?_
   refine An.p H (.inr HP) 23 4 (.bool (decide (x.latest ≤ (p.length - x.frames)))) fun a H => ?_
   refine An.done (by kernel_rfl) ?_
   refine tn (rt ?_)
   refine H.r1 (.bool (decide (x.latest ≤ (p.length - x.frames)))) Tryz.results72 ?_
   exact ⟨by rw [show fitsP p.its p.length x = (decide (x.latest ≤ (p.length - x.frames))) from by (first | (rw [Bool.eq_iff_iff]; (try simp only [fitsP, g19, g19p, g24, g24p, g31, g31p, g35, g35p, g45, g45p, g52, g52p]); (try simp only [Bool.and_eq_true, Bool.or_eq_true, Bool.not_eq_true', Bool.false_eq_true, decide_eq_true_eq, decide_eq_false_iff_not, inR_iff, inR_not, beq_iff_eq, bne_iff_ne, beq_eq_false_iff_ne, ne_eq, Bool.true_and, Bool.and_true, Bool.false_and, Bool.and_false, Bool.true_or, Bool.or_true, Bool.false_or, Bool.or_false, Bool.not_true, Bool.not_false, and_true, true_and, iff_true, true_iff, iff_false, false_iff, or_true, true_or, or_false, false_or, not_true_eq_false, not_false_eq_true, and_false, false_and]); first | omega | (simp; done) | (simp; omega)) | (simp [fitsP, g19, g19p, g24, g24p, g31, g31p, g35, g35p, g45, g45p, g52, g52p]; done) | (simp [fitsP, g19, g19p, g24, g24p, g31, g31p, g35, g35p, g45, g45p, g52, g52p] <;> simp [bne]))], HP.bl⟩
  have g52p := of_decide_eq_false g52
  refine An.s H (.inr HP) 11 53 fun a H => ?_
  refine An.s H (.inr HP) 12 54 fun a H => ?_
  refine An.s H (.inr HP) 13 55 fun a H => ?_
  refine An.s H (.inr HP) 14 56 fun a H => ?_
  refine An.s H (.inr HP) 15 57 fun a H => ?_
  refine An.s H (.inr HP) 16 58 fun a H => ?_
  refine An.s H (.inr HP) 17 59 fun a H => ?_
  refine An.s H (.inr HP) 18 60 fun a H => ?_
  refine An.s H (.inr HP) 19 61 fun a H => ?_
  refine An.s H (.inr HP) 20 62 fun a H => ?_
  refine An.s H (.inr HP) 21 63 fun a H => ?_
  refine An.p H (.inr HP) 22 64 (.bool false) fun a H => ?_
  refine An.p H (.inr HP) 23 4 (.bool false) fun a H => ?_
  refine An.done (by kernel_rfl) ?_
  refine tn (rt ?_)
  refine H.r1 (.bool false) Tryz.results72 ?_
  exact ⟨by rw [show fitsP p.its p.length x = (false) from by (first | (rw [Bool.eq_iff_iff]; (try simp only [fitsP, g19, g19p, g24, g24p, g31, g31p, g35, g35p, g45, g45p, g52, g52p]); (try simp only [Bool.and_eq_true, Bool.or_eq_true, Bool.not_eq_true', Bool.false_eq_true, decide_eq_true_eq, decide_eq_false_iff_not, inR_iff, inR_not, beq_iff_eq, bne_iff_ne, beq_eq_false_iff_ne, ne_eq, Bool.true_and, Bool.and_true, Bool.false_and, Bool.and_false, Bool.true_or, Bool.or_true, Bool.false_or, Bool.or_false, Bool.not_true, Bool.not_false, and_true, true_and, iff_true, true_iff, iff_false, false_iff, or_true, true_or, or_false, false_or, not_true_eq_false, not_false_eq_true, and_false, false_and]); first | omega | (simp; done) | (simp; omega)) | (simp [fitsP, g19, g19p, g24, g24p, g31, g31p, g35, g35p, g45, g45p, g52, g52p]; done) | (simp [fitsP, g19, g19p, g24, g24p, g31, g31p, g35, g35p, g45, g45p, g52, g52p] <;> simp [bne]))], HP.bl⟩
 have g45p := of_decide_eq_false g45
 refine An.s H (.inr HP) 4 46 fun a H => ?_
 refine An.s H (.inr HP) 5 47 fun a H => ?_
 refine An.s H (.inr HP) 6 48 fun a H => ?_
 refine An.s H (.inr HP) 7 49 fun a H => ?_
 refine An.s H (.inr HP) 8 50 fun a H => ?_
 refine An.p H (.inr HP) 9 51 (.bool false) fun a H => ?_
 refine An.p H (.inr HP) 10 52 (.bool false) fun a H => ?_
 refine An.s H (.inr HP) 11 53 fun a H => ?_
 refine An.s H (.inr HP) 12 54 fun a H => ?_
 refine An.s H (.inr HP) 13 55 fun a H => ?_
 refine An.s H (.inr HP) 14 56 fun a H => ?_
 refine An.s H (.inr HP) 15 57 fun a H => ?_
 refine An.s H (.inr HP) 16 58 fun a H => ?_
 refine An.s H (.inr HP) 17 59 fun a H => ?_
 refine An.s H (.inr HP) 18 60 fun a H => ?_
 refine An.s H (.inr HP) 19 61 fun a H => ?_
 refine An.s H (.inr HP) 20 62 fun a H => ?_
 refine An.s H (.inr HP) 21 63 fun a H => ?_
 refine An.p H (.inr HP) 22 64 (.bool false) fun a H => ?_
 refine An.p H (.inr HP) 23 4 (.bool false) fun a H => ?_
 refine An.done (by kernel_rfl) ?_
 refine tn (rt ?_)
 refine H.r1 (.bool false) Tryz.results72 ?_
 exact ⟨by rw [show fitsP p.its p.length x = (false) from by (first | (rw [Bool.eq_iff_iff]; (try simp only [fitsP, g19, g19p, g24, g24p, g31, g31p, g35, g35p, g45, g45p]); (try simp only [Bool.and_eq_true, Bool.or_eq_true, Bool.not_eq_true', Bool.false_eq_true, decide_eq_true_eq, decide_eq_false_iff_not, inR_iff, inR_not, beq_iff_eq, bne_iff_ne, beq_eq_false_iff_ne, ne_eq, Bool.true_and, Bool.and_true, Bool.false_and, Bool.and_false, Bool.true_or, Bool.or_true, Bool.false_or, Bool.or_false, Bool.not_true, Bool.not_false, and_true, true_and, iff_true, true_iff, iff_false, false_iff, or_true, true_or, or_false, false_or, not_true_eq_false, not_false_eq_true, and_false, false_and]); first | omega | (simp; done) | (simp; omega)) | (simp [fitsP, g19, g19p, g24, g24p, g31, g31p, g35, g35p, g45, g45p]; done) | (simp [fitsP, g19, g19p, g24, g24p, g31, g31p, g35, g35p, g45, g45p] <;> simp [bne]))], HP.bl⟩
theorem index_any (A : Option Addr) (c : Nat) (al : Alts) (r t : Int) (w : World) (hr : IsAl w A al) (hl : al.length ≤ maxLen) : Calls Tryz.prog 130 #[.slice A al.length c, .agg #[.int .i64 r, .int .i64 t]] w fun e w' => ∃ n : Int, e = .returned (ii n) ∧ al.any (fun a : Int × Int => a.1 == r && a.2 == t) = decide (n ≥ 0) ∧ Below w.heap.size w w' := by
 unfold maxLen at hl
 have HP := Hp.start w
 refine w_enter 19 [(0, (.slice A al.length c)), (1, (.agg #[(ii r), (ii t)]))] Tryz.func130 rfl Tryz.ntmps130 (by kernel_rfl) (by kernel_rfl) fun a H => ?_
 refine sq (rg ?_)
 refine H.al HP 3 62 [(ii r), (ii t)] fun b_1 w_2 a H HP => H.v 4 (ii 0) fun a H => ?_
 refine nl (tn (sq (sq (rg ?_))))
 refine H.v 6 (.slice A al.length c) fun a H => H.v 7 (ii al.length) fun a H => H.v 8 (ii 0) fun a H => ?_
 refine nl (tn (bk ?_))
 refine w_loop (fun mm a wv => ∃ (i : Nat), al.length - i = mm ∧ Sl 19 [(8, (ii i)), (7, (ii al.length)), (6, (.slice A al.length c)), (3, (pt b_1 0)), (0, (.slice A al.length c)), (1, (.agg #[(ii r), (ii t)]))] a ∧ Hp w wv [bx b_1 62 [(ii r), (ii t)] true] [] ∧ (i ≤ al.length) ∧ (al.any (fun a : Int × Int => a.1 == r && a.2 == t) = (al.drop i).any (fun a : Int × Int => a.1 == r && a.2 == t))) (al.length - 0) ?_ ?_
 ·exact ⟨0, (by omega), H.keep (by kernel_rfl), HP, (Nat.zero_le _), rfl⟩
 rintro mm a w_3 ⟨i, hmeas, H, HP, hib, hrel⟩
 refine sq (rg ?_)
 refine H.v 9 (.bool (decide ((i : Int) < (al.length : Int)))) fun a H => ?_
 refine nl (tn (sq ?_))
 refine w_if H rfl (fun g9 => ?_) (fun g9 => ?_)
 ·have g9p := of_decide_eq_true g9
  refine sk (tn (sq (bk (sq (rg ?_)))))
  refine H.v 10 (ii i) fun a H => H.v 5 (ii i) fun a H => ?_
  refine nl (tn (sq ?_))
  obtain ⟨bu_5, ou_6, x_4, hA_7, _, hd_9, hx_8, hm_10, _⟩ := IsRow.get altC_size (hr.below HP.bl) (i := i) (by omega)
  refine An.start (fun v => Hp w v [bx b_1 62 [(ii r), (ii t)] true] []) 6 6 HP wide_follows rfl fun w_11 HP => ?_
  refine An.vw H (HP) 0 11 (.agg #[(ii r), (ii t)]) (fun _ hS => ex_lN [(ii r), (ii t)] (hS.cells 0 rfl 0 2 (by kernel_rfl))) fun a H => ?_
  refine An.p H (.inr HP) 1 12 (.slice A al.length c) fun a H => ?_
  refine An.p H (.inr HP) 2 13 (ii i) fun a H => ?_
  refine An.q H (.inr (HP)) 3 14 (.pointer (some ⟨bu_5, ou_6 + i * 2, none⟩)) (fun _ => ex_indexA (b := bu_5) (off := ou_6) (len := al.length) (cap := c) (e := 62) (k := 2) (ik := .i64) (i := (i : Int)) (m := i) hA_7 (by kernel_rfl) (by kernel_rfl) (by omega) (by omega) (by kernel_rfl) (by kernel_rfl)) fun a H => ?_
  refine An.vw H (HP) 4 15 (alV x_4) (fun _ hS => ex_lN (alL x_4) (IsRow.cells altC_size (hr.below (hS.below (by kernel_rfl))) hA_7 hx_8)) fun a H => ?_
  refine An.q H (.inr (HP)) 5 16 (.bool (([r, t] : List Int) == [x_4.1, x_4.2])) (fun _ => ex_eqL (a := [r, t]) (b := [x_4.1, x_4.2]) (by kernel_rfl) (by kernel_rfl) (by kernel_rfl) rfl) fun a H => ?_
  refine An.done (by kernel_rfl) ?_
  refine tn ?_
  refine w_if H rfl (fun g16 => ?_) (fun g16 => ?_)
  ·have g16p := eq_of_beq g16
   refine sq (rg ?_)
   refine H.v 17 (ii i) fun a H => H.v 4 (ii i) fun a H => ?_
   refine nl (tn (rt (ibr (tr (tr (ibr (tr ?_)))))))
   refine H.r1 (ii i) Tryz.results130 ?_
   exact ⟨_, rfl, by rw [hrel, hd_9, List.any_cons, any_hit g16p]; simp, HP.bl⟩
  have g16p := ne_of_beq_false g16
  refine sk (ibn (tn (rg ?_)))
  refine H.valE 18 (ii (IntKind.i64.wrap ((i : Int) + 1))) (ii ((i : Int) + 1)) (by kernel_rfl) (by kernel_rfl) ((by rw [wrap_ini64 _ (by omega)])) fun a H => H.v 8 (ii ((i : Int) + 1)) fun a H => ?_
  refine nl (tn ?_)
  have H := H.as 8 (ii ((i + 1 : Nat) : Int)) rfl rfl
  refine ⟨_, ?_, i + 1, rfl, H.keep (by kernel_rfl), HP, (by omega), (by rw [hrel, hd_9, List.any_cons, any_miss g16p]; rfl)⟩
  omega
 have g9p := of_decide_eq_false g9
 refine wp_exit (then_exit (then_exit ?_))
 refine w_exit_here ?_
 refine tn (sq (rg ?_))
 refine H.v 4 (ii (-1)) fun a H => ?_
 refine nl (tn (rt ?_))
 refine H.r1 (ii (-1)) Tryz.results130 ?_
 exact ⟨_, rfl, by rw [hrel, List.drop_eq_nil_of_le (by omega)]; rfl, HP.bl⟩
theorem contains_any (A : Option Addr) (c : Nat) (al : Alts) (r t : Int) (w : World) (hr : IsAl w A al) (hl : al.length ≤ maxLen) : Calls Tryz.prog 119 #[.slice A al.length c, .agg #[.int .i64 r, .int .i64 t]] w fun e w' => e = .returned (.bool (al.any (fun a : Int × Int => a.1 == r && a.2 == t))) ∧ Below w.heap.size w w' := by
 have HP := Hp.start w
 refine w_enter 9 [(0, (.slice A al.length c)), (1, (.agg #[(ii r), (ii t)]))] Tryz.func119 rfl Tryz.ntmps119 (by kernel_rfl) (by kernel_rfl) fun a H => ?_
 refine sq (rg ?_)
 refine H.al HP 3 62 [(ii r), (ii t)] fun b_1 w_2 a H HP => H.v 4 (.bool false) fun a H => ?_
 refine nl (tn (sq (rg ?_)))
 refine H.v 5 (.slice A al.length c) fun a H => H.u 6 (.agg #[(ii r), (ii t)]) (ex_lN [(ii r), (ii t)] (HP.cells 0 rfl 0 2 (by kernel_rfl))) fun a H => ?_
 refine H.cl 7 (Tryz.call130 _ _) (index_any A c al r t w_2 (hr.below HP.bl) hl) ?_
 rintro e w_3 ⟨n, rfl, hn, hb⟩
 refine ⟨_, rfl, ?_⟩
 intro a H
 have HP := HP.next hb
 refine H.v 8 (.bool (decide (n ≥ 0))) fun a H => H.v 4 (.bool (decide (n ≥ 0))) fun a H => ?_
 refine nl (tn (rt ?_))
 refine H.r1 (.bool (decide (n ≥ 0))) Tryz.results119 ?_
 exact ⟨by rw [hn], HP.bl⟩
theorem fulfils_any (x : Ent) (b m1 m2 : Nat) (p : Pln) (w : World) (hBk : BookAt w b m1 m2 p) (hx : x.ok w) : Calls Tryz.prog 74 #[.pointer (some ⟨b, 0, none⟩), (enV x)] w fun e w' => e = .returned (.bool (fulP p.bs x)) ∧ Below w.heap.size w w' := by
 have HP := Hp.start w
 refine w_enter 38 [(0, (pt b 0)), (1, (enV x))] Tryz.func74 rfl Tryz.ntmps74 (by kernel_rfl) (by kernel_rfl) fun a H => ?_
 refine sq (rg ?_)
 refine H.al HP 3 43 (enL x) fun b_1 w_2 a H HP => H.v 4 (.bool false) fun a H => ?_
 refine nl (tn (sq (sq (rg ?_))))
 refine H.v 7 (pt b_1 5) fun a H => H.u 8 (ii x.booking) (ex_l1 (HP.cell 0 rfl 5 rfl)) fun a H => H.v 9 (.bool (x.booking == 0)) fun a H => ?_
 refine nl (tn ?_)
 refine w_if H rfl (fun g9 => ?_) (fun g9 => ?_)
 ·have g9p := eq_of_beq g9
  refine sq (rg ?_)
  refine H.v 4 (.bool true) fun a H => ?_
  refine nl (tn (rt (tr ?_)))
  refine H.r1 (.bool true) Tryz.results74 ?_
  exact ⟨by rw [show fulP p.bs x = (true) from by simp [fulP, g9, g9p]], HP.bl⟩
 have g9p := ne_of_beq_false g9
 refine sk (tn (sq ?_))
 refine An.start (fun v => Hp w v [bx b_1 43 (enL x) true] []) 13 13 HP wide_follows rfl fun w_3 HP => ?_
 refine An.p H (.inr HP) 0 11 (pt b 0) fun a H => ?_
 refine An.p H (.inr HP) 1 12 (pt b 0) fun a H => ?_
 refine An.p H (.inr HP) 2 13 (pt b 14) fun a H => ?_
 refine An.vw H (HP) 3 14 (.map (some m2)) (fun _ hS => ex_l1 ((hBk.below (hS.below (by kernel_rfl))).box.cell (i := 14) rfl)) fun a H => ?_
 refine An.p H (.inr HP) 4 15 (pt b_1 5) fun a H => ?_
 refine An.vw H (HP) 5 16 (ii x.booking) (fun _ hS => ex_l1 (hS.cell 0 rfl 5 rfl)) fun a H => ?_
 refine An.vw H (HP) 6 17 (.tuple #[(bkV (gB p.bs x.booking)), (.bool (hB p.bs x.booking))]) (fun _ hS => ex_lookB2 (l := p.bs) (kt := 3) (et := 47) (s1 := 7) (s2 := 56) (by kernel_rfl) (by kernel_rfl) (by kernel_rfl) (by kernel_rfl) (by kernel_rfl) ((hBk.below (hS.below (by kernel_rfl))).m2)) fun a H => ?_
 refine An.q H (.inr (HP)) 7 10 (.tuple #[(bkV (gB p.bs x.booking)), (.bool (hB p.bs x.booking))]) (fun _ => by kernel_rfl) fun a H => ?_
 refine An.q H (.inr (HP)) 8 18 (bkV (gB p.bs x.booking)) (fun _ => by kernel_rfl) fun a H => ?_
 refine An.p H (.inr HP) 9 19 (.bool (hB p.bs x.booking)) fun a H => ?_
 refine An.one 10 (by kernel_rfl) ?_
 refine Op.alloc H HP 5 (fun b => (pt b 0)) 47 [(ii 0), (ii 0), (ii 0), (ii 0), (ii 0), (ii 0), (ii 0)] rfl (by kernel_rfl) (fun w => by kernel_rfl) fun b_4 w_5 a H HP => ?_
 refine ⟨.inr ((HP.tail rfl)), ?_⟩
 refine An.one 11 (by kernel_rfl) ?_
 refine Op.store H HP 0 b_4 0 7 47 [(ii 0), (ii 0), (ii 0), (ii 0), (ii 0), (ii 0), (ii 0)] true (bkV (gB p.bs x.booking)) [bx b_4 47 (bkL (gB p.bs x.booking)) true, bx b_1 43 (enL x) true] rfl (by kernel_rfl) (by kernel_rfl) (by kernel_rfl) rfl (by kernel_rfl) (by kernel_rfl) (by kernel_rfl) (by kernel_rfl) (by kernel_rfl) fun w_6 a H HP => ?_
 refine ⟨.inr ((HP.tail rfl)), ?_⟩
 refine An.p H (.inr ((HP.tail rfl))) 12 6 (.bool (hB p.bs x.booking)) fun a H => ?_
 refine An.done (by kernel_rfl) ?_
 refine tn (sq (sq (rg ?_)))
 refine H.v 20 (.bool (hB p.bs x.booking)) fun a H => H.v 21 (.bool (!(hB p.bs x.booking))) fun a H => ?_
 refine nl (tn ?_)
 refine w_if H rfl (fun g21 => ?_) (fun g21 => ?_)
 ·have g21p := not_is_true g21
  refine sq (rg ?_)
  refine H.v 4 (.bool false) fun a H => ?_
  refine nl (tn (rt (tr ?_)))
  refine H.r1 (.bool false) Tryz.results74 ?_
  exact ⟨by rw [show fulP p.bs x = (false) from by simp [fulP, g9, g9p, g21, g21p]], HP.bl⟩
 have g21p := not_is_false g21
 refine sk (tn (sq (sq (rg ?_))))
 refine H.v 22 (pt b_4 2) fun a H => H.u 23 (ii ((gB p.bs x.booking).region)) (ex_l1 (HP.cell 0 rfl 2 rfl)) fun a H => H.v 24 (.bool (((gB p.bs x.booking).region) == 0)) fun a H => ?_
 refine nl (tn ?_)
 refine w_if H rfl (fun g24 => ?_) (fun g24 => ?_)
 ·have g24p := eq_of_beq g24
  refine sq (rg ?_)
  refine H.v 25 (pt b_4 1) fun a H => H.u 26 (ii ((gB p.bs x.booking).item)) (ex_l1 (HP.cell 0 rfl 1 rfl)) fun a H => H.v 27 (pt b_1 1) fun a H => H.u 28 (ii x.item) (ex_l1 (HP.cell 1 rfl 1 rfl)) fun a H => H.v 29 (.bool (((gB p.bs x.booking).item) == x.item)) fun a H => H.v 4 (.bool (((gB p.bs x.booking).item) == x.item)) fun a H => ?_
  refine nl (tn (rt (tr ?_)))
  refine H.r1 (.bool (((gB p.bs x.booking).item) == x.item)) Tryz.results74 ?_
  exact ⟨by rw [show fulP p.bs x = (((gB p.bs x.booking).item) == x.item) from by simp [fulP, g9, g9p, g21, g21p, g24, g24p]], HP.bl⟩
 have g24p := ne_of_beq_false g24
 refine sk (tn (sq (rg ?_)))
 refine H.v 30 (pt b_1 6) fun a H => H.u 31 (.slice x.A x.al.length x.c) (ex_l1 (HP.cell 1 rfl 6 rfl)) fun a H => H.v 32 (pt b_4 2) fun a H => H.u 33 (ii ((gB p.bs x.booking).region)) (ex_l1 (HP.cell 0 rfl 2 rfl)) fun a H => H.v 34 (pt b_4 1) fun a H => H.u 35 (ii ((gB p.bs x.booking).item)) (ex_l1 (HP.cell 0 rfl 1 rfl)) fun a H => H.v 36 (.agg #[(ii ((gB p.bs x.booking).region)), (ii ((gB p.bs x.booking).item))]) fun a H => H.cb HP 37 (Tryz.call119 _ _) (contains_any x.A x.c x.al ((gB p.bs x.booking).region) ((gB p.bs x.booking).item) w_6 (hx.1.below HP.bl) hx.2) fun w_7 hb a H HP => H.v 4 (.bool (x.al.any (fun a : Int × Int => a.1 == ((gB p.bs x.booking).region) && a.2 == ((gB p.bs x.booking).item)))) fun a H => ?_
 refine nl (tn (rt ?_))
 refine H.r1 (.bool (x.al.any (fun a : Int × Int => a.1 == ((gB p.bs x.booking).region) && a.2 == ((gB p.bs x.booking).item)))) Tryz.results74 ?_
 exact ⟨by rw [show fulP p.bs x = (x.al.any (fun a : Int × Int => a.1 == ((gB p.bs x.booking).region) && a.2 == ((gB p.bs x.booking).item))) from by simp [fulP, g9, g9p, g21, g21p, g24, g24p]], HP.bl⟩
theorem unfit_any (aa : Int × Int) (x : Ent) (b2 b3 : Nat) (b m1 m2 : Nat) (p : Pln) (w : World) (hBk : BookAt w b m1 m2 p) (h2 : Box w b2 113 #[.pointer (some ⟨b, 0, none⟩)]) (h3 : Box w b3 43 (enC x)) : Calls Tryz.prog 117 #[.agg #[.int .i64 aa.1, .int .i64 aa.2], .pointer (some ⟨b2, 0, none⟩), .pointer (some ⟨b3, 0, none⟩)] w fun e w' => e = .returned (.bool (unfitP p.its x.frames aa)) ∧ Below w.heap.size w w' := by
 have HP := Hp.start w
 refine w_enter 36 [(0, (alV aa)), (1, (pt b2 0)), (2, (pt b3 0))] Tryz.func117 rfl Tryz.ntmps117 (by kernel_rfl) (by kernel_rfl) fun a H => ?_
 refine sq (rg ?_)
 refine H.al HP 3 62 (alL aa) fun b_1 w_2 a H HP => H.v 4 (.bool false) fun a H => ?_
 refine nl (tn (sq ?_))
 refine An.start (fun v => Hp w v [bx b_1 62 (alL aa) true] []) 13 13 HP wide_follows rfl fun w_3 HP => ?_
 refine An.vw H (HP) 0 8 (pt b 0) (fun _ hS => ex_l1 (hS.oldc (by kernel_rfl) (h2.cell (i := 0) rfl))) fun a H => ?_
 refine An.p H (.inr HP) 1 9 (pt b 0) fun a H => ?_
 refine An.p H (.inr HP) 2 10 (pt b 13) fun a H => ?_
 refine An.vw H (HP) 3 11 (.map (some m1)) (fun _ hS => ex_l1 ((hBk.below (hS.below (by kernel_rfl))).box.cell (i := 13) rfl)) fun a H => ?_
 refine An.p H (.inr HP) 4 12 (pt b_1 1) fun a H => ?_
 refine An.vw H (HP) 5 13 (ii aa.2) (fun _ hS => ex_l1 (hS.cell 0 rfl 1 rfl)) fun a H => ?_
 refine An.vw H (HP) 6 14 (.tuple #[(itV (gI p.its aa.2)), (.bool (hI p.its aa.2))]) (fun _ hS => ex_lookI2 (l := p.its) (kt := 3) (et := 38) (s1 := 5) (s2 := 40) (by kernel_rfl) (by kernel_rfl) (by kernel_rfl) (by kernel_rfl) (by kernel_rfl) ((hBk.below (hS.below (by kernel_rfl))).m1)) fun a H => ?_
 refine An.q H (.inr (HP)) 7 7 (.tuple #[(itV (gI p.its aa.2)), (.bool (hI p.its aa.2))]) (fun _ => by kernel_rfl) fun a H => ?_
 refine An.q H (.inr (HP)) 8 15 (itV (gI p.its aa.2)) (fun _ => by kernel_rfl) fun a H => ?_
 refine An.p H (.inr HP) 9 16 (.bool (hI p.its aa.2)) fun a H => ?_
 refine An.one 10 (by kernel_rfl) ?_
 refine Op.alloc H HP 5 (fun b => (pt b 0)) 38 [(ii 0), (ii 0), (ii 0), (ii 0), (ii 0)] rfl (by kernel_rfl) (fun w => by kernel_rfl) fun b_4 w_5 a H HP => ?_
 refine ⟨.inr ((HP.tail rfl)), ?_⟩
 refine An.one 11 (by kernel_rfl) ?_
 refine Op.store H HP 0 b_4 0 5 38 [(ii 0), (ii 0), (ii 0), (ii 0), (ii 0)] true (itV (gI p.its aa.2)) [bx b_4 38 (itL (gI p.its aa.2)) true, bx b_1 62 (alL aa) true] rfl (by kernel_rfl) (by kernel_rfl) (by kernel_rfl) rfl (by kernel_rfl) (by kernel_rfl) (by kernel_rfl) (by kernel_rfl) (by kernel_rfl) fun w_6 a H HP => ?_
 refine ⟨.inr ((HP.tail rfl)), ?_⟩
 refine An.p H (.inr ((HP.tail rfl))) 12 6 (.bool (hI p.its aa.2)) fun a H => ?_
 refine An.done (by kernel_rfl) ?_
 refine tn (sq (rg ?_))
 refine H.v 17 (.bool (hI p.its aa.2)) fun a H => H.v 18 (.bool (!(hI p.its aa.2))) fun a H => H.v 19 (.bool (!(hI p.its aa.2))) fun a H => ?_
 refine H.split 19 rfl (fun g19 H => ?_) (fun g19 H => ?_)
 ·have g19p := not_is_true g19
  iterate 5 refine H.sx rfl fun a H => ?_
  iterate 2 ((iterate 2 refine H.vx rfl (.bool true) fun a H => ?_); (iterate 3 refine H.sx rfl fun a H => ?_))
  iterate 2 refine H.vx rfl (.bool true) fun a H => ?_
  refine nl (tn (rt ?_))
  refine H.r1 (.bool true) Tryz.results117 ?_
  exact ⟨by rw [show unfitP p.its x.frames aa = (true) from by simp [unfitP, g19, g19p] <;> simp [bne]], HP.bl⟩
 have g19p := not_is_false g19
 refine H.v 20 (pt b_4 2) fun a H => H.u 21 (ii ((gI p.its aa.2).frames)) (ex_l1 (HP.cell 0 rfl 2 rfl)) fun a H => H.v 22 (pt b3 2) fun a H => H.u 23 (ii x.frames) (ex_l1 (HP.oldc (by kernel_rfl) (h3.cell (i := 2) rfl))) fun a H => H.v 24 (.bool (((gI p.its aa.2).frames) != x.frames)) fun a H => H.v 25 (.bool (((gI p.its aa.2).frames) != x.frames)) fun a H => H.v 26 (.bool (((gI p.its aa.2).frames) != x.frames)) fun a H => ?_
 refine H.split 26 rfl (fun g26 H => ?_) (fun g26 H => ?_)
 ·have g26p := bne_iff_ne.1 g26
  iterate 2 ((iterate 3 refine H.sx rfl fun a H => ?_); (iterate 2 refine H.vx rfl (.bool true) fun a H => ?_))
  refine nl (tn (rt ?_))
  refine H.r1 (.bool true) Tryz.results117 ?_
  exact ⟨by rw [show unfitP p.its x.frames aa = (true) from by simp [unfitP, g19, g19p, g26, g26p] <;> simp [bne]], HP.bl⟩
 have g26p := eq_of_bne_false g26
 refine H.v 27 (pt b_4 1) fun a H => H.u 28 (ii ((gI p.its aa.2).kind)) (ex_l1 (HP.cell 0 rfl 1 rfl)) fun a H => H.v 29 (.bool (((gI p.its aa.2).kind) == 5)) fun a H => H.v 30 (.bool (((gI p.its aa.2).kind) == 5)) fun a H => H.v 31 (.bool (((gI p.its aa.2).kind) == 5)) fun a H => ?_
 refine H.split 31 rfl (fun g31 H => ?_) (fun g31 H => ?_)
 ·have g31p := eq_of_beq g31
  iterate 3 refine H.sx rfl fun a H => ?_
  iterate 2 refine H.vx rfl (.bool true) fun a H => ?_
  refine nl (tn (rt ?_))
  refine H.r1 (.bool true) Tryz.results117 ?_
  exact ⟨by rw [show unfitP p.its x.frames aa = (true) from by simp [unfitP, g19, g19p, g26, g26p, g31, g31p] <;> simp [bne]], HP.bl⟩
 have g31p := ne_of_beq_false g31
 refine H.v 32 (pt b_4 1) fun a H => H.u 33 (ii ((gI p.its aa.2).kind)) (ex_l1 (HP.cell 0 rfl 1 rfl)) fun a H => H.v 34 (.bool (((gI p.its aa.2).kind) == 4)) fun a H => H.v 35 (.bool (((gI p.its aa.2).kind) == 4)) fun a H => H.v 4 (.bool (((gI p.its aa.2).kind) == 4)) fun a H => ?_
 refine nl (tn (rt ?_))
 refine H.r1 (.bool (((gI p.its aa.2).kind) == 4)) Tryz.results117 ?_
 exact ⟨by rw [show unfitP p.its x.frames aa = (((gI p.its aa.2).kind) == 4) from by simp [unfitP, g19, g19p, g26, g26p, g31, g31p] <;> simp [bne]], HP.bl⟩
theorem indexF_any (A : Option Addr) (c : Nat) (al : Alts) (b2 b3 : Nat) (q : Int × Int → Bool) (w : World) (hr : IsAl w A al) (hl : al.length ≤ maxLen) (hF : ∀ (a : Int × Int) (v : World), Below w.heap.size w v → Calls Tryz.prog 117 #[.agg #[.int .i64 a.1, .int .i64 a.2], .pointer (some ⟨b2, 0, none⟩), .pointer (some ⟨b3, 0, none⟩)] v fun e v' => e = .returned (.bool (q a)) ∧ Below v.heap.size v v') : Calls Tryz.prog 129 #[.slice A al.length c, (.func (.func 117) #[] #[(pt b2 0), (pt b3 0)])] w fun e w' => ∃ n : Int, e = .returned (ii n) ∧ al.any q = decide (n ≥ 0) ∧ Below w.heap.size w w' := by
 unfold maxLen at hl
 have HP := Hp.start w
 refine w_enter 19 [(0, (.slice A al.length c)), (1, (.func (.func 117) #[] #[(pt b2 0), (pt b3 0)]))] Tryz.func129 rfl Tryz.ntmps129 (by kernel_rfl) (by kernel_rfl) fun a H => ?_
 refine sq (rg ?_)
 refine H.v 4 (ii 0) fun a H => ?_
 refine nl (tn (sq (sq (rg ?_))))
 refine H.v 6 (.slice A al.length c) fun a H => H.v 7 (ii al.length) fun a H => H.v 8 (ii 0) fun a H => ?_
 refine nl (tn (bk ?_))
 refine w_loop (fun mm a wv => ∃ (i : Nat), al.length - i = mm ∧ Sl 19 [(8, (ii i)), (7, (ii al.length)), (6, (.slice A al.length c)), (0, (.slice A al.length c)), (1, (.func (.func 117) #[] #[(pt b2 0), (pt b3 0)]))] a ∧ Hp w wv [] [] ∧ (i ≤ al.length) ∧ (al.any q = (al.drop i).any q)) (al.length - 0) ?_ ?_
 ·exact ⟨0, (by omega), H.keep (by kernel_rfl), HP, (Nat.zero_le _), rfl⟩
 rintro mm a w_1 ⟨i, hmeas, H, HP, hib, hrel⟩
 refine sq (rg ?_)
 refine H.v 9 (.bool (decide ((i : Int) < (al.length : Int)))) fun a H => ?_
 refine nl (tn (sq ?_))
 refine w_if H rfl (fun g9 => ?_) (fun g9 => ?_)
 ·have g9p := of_decide_eq_true g9
  refine sk (tn (sq (bk (sq (rg ?_)))))
  refine H.v 10 (ii i) fun a H => H.v 5 (ii i) fun a H => ?_
  refine nl (tn (sq ?_))
  obtain ⟨bu_3, ou_4, x_2, hA_5, _, hd_7, hx_6, hm_8, _⟩ := IsRow.get altC_size (hr.below HP.bl) (i := i) (by omega)
  refine rg ?_
  refine H.v 11 (.func (.func 117) #[] #[(pt b2 0), (pt b3 0)]) fun a H => H.v 12 (.slice A al.length c) fun a H => H.v 13 (ii i) fun a H => H.u 14 (.pointer (some ⟨bu_3, ou_4 + i * 2, none⟩)) (ex_indexA (b := bu_3) (off := ou_4) (len := al.length) (cap := c) (e := 62) (k := 2) (ik := .i64) (i := (i : Int)) (m := i) hA_5 (by kernel_rfl) (by kernel_rfl) (by omega) (by omega) (by kernel_rfl) (by kernel_rfl)) fun a H => H.u 15 (alV x_2) (ex_lN (alL x_2) (IsRow.cells altC_size (hr.below HP.bl) hA_5 hx_6)) fun a H => H.cb HP 16 (Tryz.call117 _ _) (hF x_2 w_1 HP.bl) fun w_9 hb a H HP => ?_
  refine nl (tn ?_)
  refine w_if H rfl (fun g16 => ?_) (fun g16 => ?_)
  ·have g16p := g16
   refine sq (rg ?_)
   refine H.v 17 (ii i) fun a H => H.v 4 (ii i) fun a H => ?_
   refine nl (tn (rt (ibr (tr (tr (ibr (tr ?_)))))))
   refine H.r1 (ii i) Tryz.results129 ?_
   exact ⟨_, rfl, by rw [hrel, hd_7, List.any_cons, g16]; simp, HP.bl⟩
  have g16p := g16
  refine sk (ibn (tn (rg ?_)))
  refine H.valE 18 (ii (IntKind.i64.wrap ((i : Int) + 1))) (ii ((i : Int) + 1)) (by kernel_rfl) (by kernel_rfl) ((by rw [wrap_ini64 _ (by omega)])) fun a H => H.v 8 (ii ((i : Int) + 1)) fun a H => ?_
  refine nl (tn ?_)
  have H := H.as 8 (ii ((i + 1 : Nat) : Int)) rfl rfl
  refine ⟨_, ?_, i + 1, rfl, H.keep (by kernel_rfl), HP, (by omega), (by rw [hrel, hd_7, List.any_cons, g16]; rfl)⟩
  omega
 have g9p := of_decide_eq_false g9
 refine wp_exit (then_exit (then_exit ?_))
 refine w_exit_here ?_
 refine tn (sq (rg ?_))
 refine H.v 4 (ii (-1)) fun a H => ?_
 refine nl (tn (rt ?_))
 refine H.r1 (ii (-1)) Tryz.results129 ?_
 exact ⟨_, rfl, by rw [hrel, List.drop_eq_nil_of_le (by omega)]; rfl, HP.bl⟩
theorem containsF_any (A : Option Addr) (c : Nat) (al : Alts) (b2 b3 : Nat) (q : Int × Int → Bool) (w : World) (hr : IsAl w A al) (hl : al.length ≤ maxLen) (hF : ∀ (a : Int × Int) (v : World), Below w.heap.size w v → Calls Tryz.prog 117 #[.agg #[.int .i64 a.1, .int .i64 a.2], .pointer (some ⟨b2, 0, none⟩), .pointer (some ⟨b3, 0, none⟩)] v fun e v' => e = .returned (.bool (q a)) ∧ Below v.heap.size v v') : Calls Tryz.prog 118 #[.slice A al.length c, (.func (.func 117) #[] #[(pt b2 0), (pt b3 0)])] w fun e w' => e = .returned (.bool (al.any q)) ∧ Below w.heap.size w w' := by
 have HP := Hp.start w
 refine w_enter 9 [(0, (.slice A al.length c)), (1, (.func (.func 117) #[] #[(pt b2 0), (pt b3 0)]))] Tryz.func118 rfl Tryz.ntmps118 (by kernel_rfl) (by kernel_rfl) fun a H => ?_
 refine sq (rg ?_)
 refine H.v 4 (.bool false) fun a H => ?_
 refine nl (tn (sq (rg ?_)))
 refine H.v 5 (.slice A al.length c) fun a H => H.v 6 (.func (.func 117) #[] #[(pt b2 0), (pt b3 0)]) fun a H => ?_
 refine H.cl 7 (Tryz.call129 _ _) (indexF_any A c al b2 b3 q w (hr.below HP.bl) hl (fun a v hv => hF a v (bnext HP.bl hv))) ?_
 rintro e w_1 ⟨n, rfl, hn, hb⟩
 refine ⟨_, rfl, ?_⟩
 intro a H
 have HP := HP.next hb
 refine H.v 8 (.bool (decide (n ≥ 0))) fun a H => H.v 4 (.bool (decide (n ≥ 0))) fun a H => ?_
 refine nl (tn (rt ?_))
 refine H.r1 (.bool (decide (n ≥ 0))) Tryz.results118 ?_
 exact ⟨by rw [hn], HP.bl⟩
theorem alts_any (x : Ent) (b m1 m2 : Nat) (p : Pln) (w : World) (hBk : BookAt w b m1 m2 p) (hx : x.ok w) (hreg : 1 ≤ p.regions ∧ p.regions ≤ 8) : Calls Tryz.prog 73 #[.pointer (some ⟨b, 0, none⟩), (enV x)] w fun e w' => e = .returned (.bool (altsP p.its p.regions x)) ∧ Below w.heap.size w w' := by
 have HP := Hp.start w
 refine w_enter 37 [(0, (pt b 0)), (1, (enV x))] Tryz.func73 rfl Tryz.ntmps73 (by kernel_rfl) (by kernel_rfl) fun a H => ?_
 refine sq (rg ?_)
 refine H.al HP 2 113 [(pt b 0)] fun b_1 w_2 a H HP => H.al HP 3 43 (enL x) fun b_3 w_4 a H HP => H.v 4 (.bool false) fun a H => ?_
 refine nl (tn (sq (sq ?_)))
 refine An.start (fun v => Hp w v [bx b_3 43 (enL x) true, bx b_1 113 [(pt b 0)] true] []) 10 10 HP wide_follows rfl fun w_5 HP => ?_
 refine An.p H (.inr HP) 0 6 (pt b_3 6) fun a H => ?_
 refine An.vw H (HP) 1 7 (.slice x.A x.al.length x.c) (fun _ hS => ex_l1 (hS.cell 0 rfl 6 rfl)) fun a H => ?_
 refine An.vw H (HP) 2 8 (pt b 0) (fun _ hS => ex_l1 (hS.cell 1 rfl 0 rfl)) fun a H => ?_
 refine An.p H (.inr HP) 3 9 (pt b 0) fun a H => ?_
 refine An.p H (.inr HP) 4 10 (pt b 0) fun a H => ?_
 refine An.p H (.inr HP) 5 11 (pt b 6) fun a H => ?_
 refine An.vw H (HP) 6 12 (ii p.regions) (fun _ hS => ex_l1 ((hBk.below (hS.below (by kernel_rfl))).box.cell (i := 6) rfl)) fun a H => ?_
 refine An.pureE H (.inr (HP)) 7 13 (ii (IntKind.i64.wrap (p.regions - 1))) (ii (p.regions - 1)) rfl (by kernel_rfl) (by kernel_rfl) (fun _ _ _ h => h) (fun _ => by kernel_rfl) ((by rw [wrap_ini64 _ (by omega)])) fun a H => ?_
 refine An.one 8 (by kernel_rfl) ?_
 refine Op.call H 14 rfl (by kernel_rfl) (Eq.trans (by kernel_rfl : _ = (callFunc 115 #[(.slice x.A x.al.length x.c), (ii 1), (ii (p.regions - 1)), (.func (.func 116) #[] #[])]).run Tryz.prog w_5) (Tryz.call115 _ _)) (ascA_any x.A x.c x.al 1 (p.regions - 1) w_5 (hx.1.below HP.bl) hx.2 (by omega)) ?_
 rintro e w_6 ⟨rfl, hb⟩
 refine ⟨_, rfl, ?_⟩
 intro a H
 have HP := HP.next hb
 refine ⟨.inr (HP), ?_⟩
 refine An.p H (.inr HP) 9 15 (.bool (!(asc 0 (p.regions - 1) (x.al.map (fun x : Int × Int => x.1))))) fun a H => ?_
 refine An.done (by kernel_rfl) ?_
 refine tn ?_
 refine w_if H rfl (fun g15 => ?_) (fun g15 => ?_)
 ·have g15p := not_is_true g15
  refine sq (rg ?_)
  refine H.v 4 (.bool false) fun a H => ?_
  refine nl (tn (rt (tr ?_)))
  refine H.r1 (.bool false) Tryz.results73 ?_
  exact ⟨by rw [show altsP p.its p.regions x = (false) from by (first | (rw [Bool.eq_iff_iff]; (try simp only [altsP, g15, g15p]); (try simp only [Bool.and_eq_true, Bool.or_eq_true, Bool.not_eq_true', Bool.false_eq_true, decide_eq_true_eq, decide_eq_false_iff_not, inR_iff, inR_not, beq_iff_eq, bne_iff_ne, beq_eq_false_iff_ne, ne_eq, Bool.true_and, Bool.and_true, Bool.false_and, Bool.and_false, Bool.true_or, Bool.or_true, Bool.false_or, Bool.or_false, Bool.not_true, Bool.not_false, and_true, true_and, iff_true, true_iff, iff_false, false_iff, or_true, true_or, or_false, false_or, not_true_eq_false, not_false_eq_true, and_false, false_and]); first | omega | (simp; done) | (simp; omega)) | (simp [altsP, g15, g15p]; done) | (simp [altsP, g15, g15p] <;> simp [bne]))], HP.bl⟩
 have g15p := not_is_false g15
 refine sk (tn (sq (sq ?_)))
 refine An.start (fun v => Hp w v [bx b_3 43 (enL x) true, bx b_1 113 [(pt b 0)] true] []) 15 15 HP wide_follows rfl fun w_7 HP => ?_
 refine An.vw H (HP) 0 16 (pt b 0) (fun _ hS => ex_l1 (hS.cell 1 rfl 0 rfl)) fun a H => ?_
 refine An.p H (.inr HP) 1 17 (pt b 0) fun a H => ?_
 refine An.p H (.inr HP) 2 18 (pt b 13) fun a H => ?_
 refine An.vw H (HP) 3 19 (.map (some m1)) (fun _ hS => ex_l1 ((hBk.below (hS.below (by kernel_rfl))).box.cell (i := 13) rfl)) fun a H => ?_
 refine An.p H (.inr HP) 4 20 (pt b_3 1) fun a H => ?_
 refine An.vw H (HP) 5 21 (ii x.item) (fun _ hS => ex_l1 (hS.cell 0 rfl 1 rfl)) fun a H => ?_
 refine An.vw H (HP) 6 22 (itV (gI p.its x.item)) (fun _ hS => ex_lookI (l := p.its) (kt := 3) (et := 38) (s1 := 5) (s2 := 40) (by kernel_rfl) (by kernel_rfl) (by kernel_rfl) (by kernel_rfl) (by kernel_rfl) ((hBk.below (hS.below (by kernel_rfl))).m1)) fun a H => ?_
 refine An.p H (.inr HP) 7 23 (ii ((gI p.its x.item).kind)) fun a H => ?_
 refine An.p H (.inr HP) 8 24 (.bool (((gI p.its x.item).kind) == 4)) fun a H => ?_
 refine An.p H (.inr HP) 9 25 (.bool (((gI p.its x.item).kind) == 4)) fun a H => ?_
 refine H.split 25 rfl (fun g25 H => ?_) (fun g25 H => ?_)
 ·have g25p := eq_of_beq g25
  refine An.p H (.inr HP) 10 26 (pt b_3 6) fun a H => ?_
  refine An.vw H (HP) 11 27 (.slice x.A x.al.length x.c) (fun _ hS => ex_l1 (hS.cell 0 rfl 6 rfl)) fun a H => ?_
  refine An.q H (.inr (HP)) 12 28 (ii x.al.length) (fun _ => by kernel_rfl) fun a H => ?_
  refine An.q H (.inr (HP)) 13 29 (.bool (decide ((x.al.length : Int) > 0))) (fun _ => by kernel_rfl) fun a H => ?_
  refine An.q H (.inr (HP)) 14 30 (.bool (decide ((x.al.length : Int) > 0))) (fun _ => by kernel_rfl) fun a H => ?_
  refine An.done (by kernel_rfl) ?_
  refine tn ?_
  refine w_if H rfl (fun g30 => ?_) (fun g30 => ?_)
  ·have g30p := of_decide_eq_true g30
   refine sq (rg ?_)
   refine H.v 4 (.bool false) fun a H => ?_
   refine nl (tn (rt (tr ?_)))
   refine H.r1 (.bool false) Tryz.results73 ?_
   exact ⟨by rw [show altsP p.its p.regions x = (false) from by (first | (rw [Bool.eq_iff_iff]; (try simp only [altsP, g15, g15p, g25, g25p, g30, g30p]); (try simp only [Bool.and_eq_true, Bool.or_eq_true, Bool.not_eq_true', Bool.false_eq_true, decide_eq_true_eq, decide_eq_false_iff_not, inR_iff, inR_not, beq_iff_eq, bne_iff_ne, beq_eq_false_iff_ne, ne_eq, Bool.true_and, Bool.and_true, Bool.false_and, Bool.and_false, Bool.true_or, Bool.or_true, Bool.false_or, Bool.or_false, Bool.not_true, Bool.not_false, and_true, true_and, iff_true, true_iff, iff_false, false_iff, or_true, true_or, or_false, false_or, not_true_eq_false, not_false_eq_true, and_false, false_and]); first | omega | (simp; done) | (simp; omega)) | (simp [altsP, g15, g15p, g25, g25p, g30, g30p]; done) | (simp [altsP, g15, g15p, g25, g25p, g30, g30p] <;> simp [bne]))], HP.bl⟩
  have g30p := of_decide_eq_false g30
  refine sk (tn (sq (rg ?_)))
  refine H.v 31 (.func (.func 117) #[] #[(pt b_1 0), (pt b_3 0)]) fun a H => H.v 5 (.func (.func 117) #[] #[(pt b_1 0), (pt b_3 0)]) fun a H => ?_
  refine nl (tn (sq (rg ?_)))
  refine H.v 32 (pt b_3 6) fun a H => H.u 33 (.slice x.A x.al.length x.c) (ex_l1 (HP.cell 0 rfl 6 rfl)) fun a H => H.v 34 (.func (.func 117) #[] #[(pt b_1 0), (pt b_3 0)]) fun a H => H.cb HP 35 (Tryz.call118 _ _) (containsF_any x.A x.c x.al b_1 b_3 (unfitP p.its x.frames) w_7 (hx.1.below HP.bl) hx.2 (fun a v hv => unfit_any a x b_1 b_3 b m1 m2 p v (hBk.below (bnext HP.bl hv)) ((HP.at_ 1 rfl).next hv) ((HP.at_ 0 rfl).next hv))) fun w_8 hb a H HP => H.v 36 (.bool (!(x.al.any (unfitP p.its x.frames)))) fun a H => H.v 4 (.bool (!(x.al.any (unfitP p.its x.frames)))) fun a H => ?_
  refine nl (tn (rt ?_))
  refine H.r1 (.bool (!(x.al.any (unfitP p.its x.frames)))) Tryz.results73 ?_
  exact ⟨by rw [show altsP p.its p.regions x = (!(x.al.any (unfitP p.its x.frames))) from by (first | (rw [Bool.eq_iff_iff]; (try simp only [altsP, g15, g15p, g25, g25p, g30, g30p]); (try simp only [Bool.and_eq_true, Bool.or_eq_true, Bool.not_eq_true', Bool.false_eq_true, decide_eq_true_eq, decide_eq_false_iff_not, inR_iff, inR_not, beq_iff_eq, bne_iff_ne, beq_eq_false_iff_ne, ne_eq, Bool.true_and, Bool.and_true, Bool.false_and, Bool.and_false, Bool.true_or, Bool.or_true, Bool.false_or, Bool.or_false, Bool.not_true, Bool.not_false, and_true, true_and, iff_true, true_iff, iff_false, false_iff, or_true, true_or, or_false, false_or, not_true_eq_false, not_false_eq_true, and_false, false_and]); first | omega | (simp; done) | (simp; omega)) | (simp [altsP, g15, g15p, g25, g25p, g30, g30p]; done) | (simp [altsP, g15, g15p, g25, g25p, g30, g30p] <;> simp [bne]))], HP.bl⟩
 have g25p := ne_of_beq_false g25
 refine An.s H (.inr HP) 10 26 fun a H => ?_
 refine An.s H (.inr HP) 11 27 fun a H => ?_
 refine An.s H (.inr HP) 12 28 fun a H => ?_
 refine An.s H (.inr HP) 13 29 fun a H => ?_
 refine An.p H (.inr HP) 14 30 (.bool false) fun a H => ?_
 refine An.done (by kernel_rfl) ?_
 refine tn ?_
 refine w_iff H rfl ?_
 refine sk (tn (sq (rg ?_)))
 refine H.v 31 (.func (.func 117) #[] #[(pt b_1 0), (pt b_3 0)]) fun a H => H.v 5 (.func (.func 117) #[] #[(pt b_1 0), (pt b_3 0)]) fun a H => ?_
 refine nl (tn (sq (rg ?_)))
 refine H.v 32 (pt b_3 6) fun a H => H.u 33 (.slice x.A x.al.length x.c) (ex_l1 (HP.cell 0 rfl 6 rfl)) fun a H => H.v 34 (.func (.func 117) #[] #[(pt b_1 0), (pt b_3 0)]) fun a H => H.cb HP 35 (Tryz.call118 _ _) (containsF_any x.A x.c x.al b_1 b_3 (unfitP p.its x.frames) w_7 (hx.1.below HP.bl) hx.2 (fun a v hv => unfit_any a x b_1 b_3 b m1 m2 p v (hBk.below (bnext HP.bl hv)) ((HP.at_ 1 rfl).next hv) ((HP.at_ 0 rfl).next hv))) fun w_9 hb a H HP => H.v 36 (.bool (!(x.al.any (unfitP p.its x.frames)))) fun a H => H.v 4 (.bool (!(x.al.any (unfitP p.its x.frames)))) fun a H => ?_
 refine nl (tn (rt ?_))
 refine H.r1 (.bool (!(x.al.any (unfitP p.its x.frames)))) Tryz.results73 ?_
 exact ⟨by rw [show altsP p.its p.regions x = (!(x.al.any (unfitP p.its x.frames))) from by (first | (rw [Bool.eq_iff_iff]; (try simp only [altsP, g15, g15p, g25, g25p]); (try simp only [Bool.and_eq_true, Bool.or_eq_true, Bool.not_eq_true', Bool.false_eq_true, decide_eq_true_eq, decide_eq_false_iff_not, inR_iff, inR_not, beq_iff_eq, bne_iff_ne, beq_eq_false_iff_ne, ne_eq, Bool.true_and, Bool.and_true, Bool.false_and, Bool.and_false, Bool.true_or, Bool.or_true, Bool.false_or, Bool.or_false, Bool.not_true, Bool.not_false, and_true, true_and, iff_true, true_iff, iff_false, false_iff, or_true, true_or, or_false, false_or, not_true_eq_false, not_false_eq_true, and_false, false_and]); first | omega | (simp; done) | (simp; omega)) | (simp [altsP, g15, g15p, g25, g25p]; done) | (simp [altsP, g15, g15p, g25, g25p] <;> simp [bne]))], HP.bl⟩
theorem clauses_any (b m1 m2 : Nat) (p : Pln) (w : World) (hBk : BookAt w b m1 m2 p) : Calls Tryz.prog 35 #[.pointer (some ⟨b, 0, none⟩)] w fun e w' => e = .returned (.bool (clsP p.cs)) ∧ Below w.heap.size w w' := by
 have hcl := hBk.pl.lcs
 unfold maxLen at hcl
 have HP := Hp.start w
 refine w_enter 26 [(0, (pt b 0))] Tryz.func35 rfl Tryz.ntmps35 (by kernel_rfl) (by kernel_rfl) fun a H => ?_
 refine sq (rg ?_)
 refine H.v 2 (.bool false) fun a H => ?_
 refine nl (tn (sq (sq (rg ?_))))
 refine H.v 5 (pt b 0) fun a H => H.v 6 (pt b 0) fun a H => H.v 7 (pt b 0) fun a H => H.v 8 (pt b 12) fun a H => H.u 9 (.slice p.CA p.cs.length p.cc) (ex_l1 ((hBk.below HP.bl).box.cell (i := 12) rfl)) fun a H => H.v 10 (ii p.cs.length) fun a H => H.v 11 (.bool (decide ((p.cs.length : Int) > 400))) fun a H => ?_
 refine nl (tn ?_)
 refine w_if H rfl (fun g11 => ?_) (fun g11 => ?_)
 ·have g11p := of_decide_eq_true g11
  refine sq (rg ?_)
  refine H.v 2 (.bool false) fun a H => ?_
  refine nl (tn (rt (tr ?_)))
  refine H.r1 (.bool false) Tryz.results35 ?_
  exact ⟨by rw [show clsP p.cs = false from by (first | (rw [Bool.eq_iff_iff]; (try simp only [clsP, g11, g11p]); (try simp only [Bool.and_eq_true, Bool.or_eq_true, Bool.not_eq_true', Bool.false_eq_true, decide_eq_true_eq, decide_eq_false_iff_not, inR_iff, inR_not, beq_iff_eq, bne_iff_ne, beq_eq_false_iff_ne, ne_eq, Bool.true_and, Bool.and_true, Bool.false_and, Bool.and_false, Bool.true_or, Bool.or_true, Bool.false_or, Bool.or_false, Bool.not_true, Bool.not_false, and_true, true_and, iff_true, true_iff, iff_false, false_iff, or_true, true_or, or_false, false_or, not_true_eq_false, not_false_eq_true, and_false, false_and]); first | omega | (simp; done) | (simp; omega)) | (simp [clsP, g11, g11p]; done) | (simp [clsP, g11, g11p] <;> simp [bne]))], HP.bl⟩
 have g11p := of_decide_eq_false g11
 refine sk (tn (sq (sq (rg ?_))))
 refine H.v 12 (pt b 0) fun a H => H.v 13 (pt b 0) fun a H => H.v 14 (pt b 0) fun a H => H.v 15 (pt b 12) fun a H => H.u 16 (.slice p.CA p.cs.length p.cc) (ex_l1 ((hBk.below HP.bl).box.cell (i := 12) rfl)) fun a H => H.v 17 (ii p.cs.length) fun a H => H.v 18 (ii 0) fun a H => ?_
 refine nl (tn (bk ?_))
 refine w_loop (fun mm a wv => ∃ (i : Nat), p.cs.length - i = mm ∧ Sl 26 [(18, (ii i)), (17, (ii p.cs.length)), (16, (.slice p.CA p.cs.length p.cc)), (15, (pt b 12)), (14, (pt b 0)), (13, (pt b 0)), (12, (pt b 0)), (11, (.bool (decide ((p.cs.length : Int) > 400)))), (10, (ii p.cs.length)), (9, (.slice p.CA p.cs.length p.cc)), (8, (pt b 12)), (7, (pt b 0)), (6, (pt b 0)), (5, (pt b 0)), (0, (pt b 0))] a ∧ Hp w wv [] [] ∧ (i ≤ p.cs.length) ∧ (p.cs.all clP = (p.cs.drop i).all clP)) (p.cs.length - 0) ?_ ?_
 ·exact ⟨0, (by omega), H.keep (by kernel_rfl), HP, (Nat.zero_le _), rfl⟩
 rintro mm a w_1 ⟨i, hmeas, H, HP, hib, hrel⟩
 refine sq (rg ?_)
 refine H.v 19 (.bool (decide ((i : Int) < (p.cs.length : Int)))) fun a H => ?_
 refine nl (tn (sq ?_))
 refine w_if H rfl (fun g19 => ?_) (fun g19 => ?_)
 ·have g19p := of_decide_eq_true g19
  refine sk (tn (sq (bk (sq ?_))))
  obtain ⟨bu_3, ou_4, x_2, hA_5, _, hd_7, hx_6, hm_8, _⟩ := IsRow.get clC_size (hBk.below HP.bl).pl.cs (i := i) (by omega)
  refine rg ?_
  refine H.u 20 (.pointer (some ⟨bu_3, ou_4 + i * 8, none⟩)) (ex_indexA (b := bu_3) (off := ou_4) (len := p.cs.length) (cap := p.cc) (e := 73) (k := 8) (ik := .i64) (i := (i : Int)) (m := i) hA_5 (by kernel_rfl) (by kernel_rfl) (by omega) (by omega) (by kernel_rfl) (by kernel_rfl)) fun a H => H.u 21 (clV x_2) (ex_lN (clL x_2) (IsRow.cells clC_size (hBk.below HP.bl).pl.cs hA_5 hx_6)) fun a H => H.al HP 4 73 [(ii 0), (ii 0), (ii 0), (ii 0), (ii 0), (ii 0), (ii 0), (ii 0)] fun b_9 w_10 a H HP => H.st HP 0 b_9 0 8 73 true (clV x_2) [bx b_9 73 (clL x_2) true] rfl fun w_11 a H HP => ?_
  refine nl (tn (sq (rg ?_)))
  refine H.u 22 (clV x_2) (ex_lN (clL x_2) (HP.cells 0 rfl 0 8 (by kernel_rfl))) fun a H => H.cb HP 23 (Tryz.call75 _ _) (rightsV_any x_2 w_11) fun w_12 hb a H HP => H.v 24 (.bool (!(clP x_2))) fun a H => ?_
  refine nl (tn ?_)
  refine w_if H rfl (fun g24 => ?_) (fun g24 => ?_)
  ·have g24p := not_is_true g24
   refine sq (rg ?_)
   refine H.v 2 (.bool false) fun a H => ?_
   refine nl (tn (rt (ibr (tr (tr (ibr (tr ?_)))))))
   refine H.r1 (.bool false) Tryz.results35 ?_
   exact ⟨by unfold clsP; rw [hrel, hd_7, List.all_cons, g24p]; simp, HP.bl⟩
  have g24p := not_is_false g24
  refine sk (ibn (tn (rg ?_)))
  refine H.valE 25 (ii (IntKind.i64.wrap ((i : Int) + 1))) (ii ((i : Int) + 1)) (by kernel_rfl) (by kernel_rfl) ((by rw [wrap_ini64 _ (by omega)])) fun a H => H.v 18 (ii ((i : Int) + 1)) fun a H => ?_
  refine nl (tn ?_)
  have H := H.as 18 (ii ((i + 1 : Nat) : Int)) rfl rfl
  refine ⟨_, ?_, i + 1, rfl, H.keep (by kernel_rfl), (HP.tail rfl), (by omega), (by rw [hrel, hd_7, List.all_cons, g24p]; rfl)⟩
  omega
 have g19p := of_decide_eq_false g19
 refine wp_exit (then_exit (then_exit ?_))
 refine w_exit_here ?_
 refine tn (sq (rg ?_))
 refine H.v 2 (.bool true) fun a H => ?_
 refine nl (tn (rt ?_))
 refine H.r1 (.bool true) Tryz.results35 ?_
 exact ⟨by unfold clsP; rw [hrel, List.drop_eq_nil_of_le (by omega)]; simp [show (p.cs.length : Int) ≤ 400 by omega], HP.bl⟩
end Go.Proofs.YteeillphhiaopaaGreatDoor
