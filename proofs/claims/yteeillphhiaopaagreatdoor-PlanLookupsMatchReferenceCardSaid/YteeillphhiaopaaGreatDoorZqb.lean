/- Part 2 of the proofs: PlD, PlE, PlF, PlG, WireP. -/
import Derived.Laws.BitsAllLaws
import Derived.Test.YteeillphhiaopaaGreatDoorZqa
namespace Go.Proofs.YteeillphhiaopaaGreatDoor
set_option maxRecDepth 100000
set_option maxHeartbeats 4000000
open Go.ChangeShapes Go.WideShapes Go.ChangeAt Go.RowKit
set_option linter.unusedVariables false
set_option linter.unusedSimpArgs false
theorem within6_any (n lo hi : Int) (w : World) : Calls Tryz.prog 122 #[.int .i64 n, .int .i64 lo, .int .i64 hi] w fun e w' => e = .returned (.bool (inR n lo hi)) ∧ Below w.heap.size w w' := by
 have HP := Hp.start w
 refine w_enter 15 [(0, (ii n)), (1, (ii lo)), (2, (ii hi))] Tryz.func122 rfl Tryz.ntmps122 (by kernel_rfl) (by kernel_rfl) fun a H => ?_
 refine sq (rg ?_)
 refine H.v 6 (.bool false) fun a H => ?_
 refine nl (tn (sq (rg ?_)))
 refine H.v 7 (ii lo) fun a H => H.v 8 (ii n) fun a H => H.v 9 (.bool (decide (lo ≤ n))) fun a H => H.v 10 (.bool (decide (lo ≤ n))) fun a H => ?_
 refine H.split 10 rfl (fun g10 H => ?_) (fun g10 H => ?_)
 ·have g10p := of_decide_eq_true g10
  refine H.v 11 (ii n) fun a H => H.v 12 (ii hi) fun a H => H.v 13 (.bool (decide (n ≤ hi))) fun a H => H.v 14 (.bool (decide (n ≤ hi))) fun a H => H.v 6 (.bool (decide (n ≤ hi))) fun a H => ?_
  refine nl (tn (rt ?_))
  refine H.r1 (.bool (decide (n ≤ hi))) Tryz.results122 ?_
  exact ⟨by rw [show inR n lo hi = (decide (n ≤ hi)) from by simp [inR, g10, g10p]], HP.bl⟩
 have g10p := of_decide_eq_false g10
 iterate 3 refine H.sx rfl fun a H => ?_
 refine H.v 14 (.bool false) fun a H => H.v 6 (.bool false) fun a H => ?_
 refine nl (tn (rt ?_))
 refine H.r1 (.bool false) Tryz.results122 ?_
 exact ⟨by rw [show inR n lo hi = (false) from by simp [inR, g10, g10p]], HP.bl⟩
theorem isItem_any (c : Cls) (w : World) : Calls Tryz.prog 121 #[(clV c)] w fun e w' => e = .returned (.bool (itemC c)) ∧ Below w.heap.size w w' := by
 have HP := Hp.start w
 refine w_enter 11 [(0, (clV c))] Tryz.func121 rfl Tryz.ntmps121 (by kernel_rfl) (by kernel_rfl) fun a H => ?_
 refine sq (rg ?_)
 refine H.al HP 1 73 (clL c) fun b_1 w_2 a H HP => H.v 2 (.bool false) fun a H => ?_
 refine nl (tn (sq (rg ?_)))
 refine H.v 3 (pt b_1 1) fun a H => H.u 4 (ii c.item) (ex_l1 (HP.cell 0 rfl 1 rfl)) fun a H => H.cb HP 5 (Tryz.call122 _ _) (within6_any c.item 1 4611686018427387903 w_2) fun w_3 hb a H HP => H.v 6 (.bool (inR c.item 1 4611686018427387903)) fun a H => ?_
 refine H.split 6 rfl (fun g6 H => ?_) (fun g6 H => ?_)
 ·have g6p := g6
  refine H.v 7 (pt b_1 4) fun a H => H.u 8 (ii c.regions) (ex_l1 (HP.cell 0 rfl 4 rfl)) fun a H => H.cb HP 9 (Tryz.call122 _ _) (within6_any c.regions 1 255 w_3) fun w_4 hb a H HP => H.v 10 (.bool (inR c.regions 1 255)) fun a H => H.v 2 (.bool (inR c.regions 1 255)) fun a H => ?_
  refine nl (tn (rt ?_))
  refine H.r1 (.bool (inR c.regions 1 255)) Tryz.results121 ?_
  exact ⟨by rw [show itemC c = (inR c.regions 1 255) from by simp [itemC, g6, g6p]], HP.bl⟩
 have g6p := g6
 iterate 3 refine H.sx rfl fun a H => ?_
 refine H.v 10 (.bool false) fun a H => H.v 2 (.bool false) fun a H => ?_
 refine nl (tn (rt ?_))
 refine H.r1 (.bool false) Tryz.results121 ?_
 exact ⟨by rw [show itemC c = (false) from by simp [itemC, g6, g6p]], HP.bl⟩
theorem isTime_any (s : Int) (w : World) : Calls Tryz.prog 123 #[.int .i64 s] w fun e w' => e = .returned (.bool (timeC s)) ∧ Below w.heap.size w w' := by
 have HP := Hp.start w
 refine w_enter 10 [(0, (ii s))] Tryz.func123 rfl Tryz.ntmps123 (by kernel_rfl) (by kernel_rfl) fun a H => ?_
 refine sq (rg ?_)
 refine H.v 2 (.bool false) fun a H => ?_
 refine nl (tn (sq (rg ?_)))
 refine H.v 3 (ii s) fun a H => H.cb HP 4 (Tryz.call122 _ _) (within6_any s 0 86340 w) fun w_1 hb a H HP => H.v 5 (.bool (inR s 0 86340)) fun a H => ?_
 refine H.split 5 rfl (fun g5 H => ?_) (fun g5 H => ?_)
 ·have g5p := g5
  refine H.v 6 (ii s) fun a H => ?_
  have hs := inR_iff.1 g5
  have hs := inR_iff.1 g5
  refine H.valE 7 (ii (s.tmod 60)) (ii (s % 60)) (by kernel_rfl) (by kernel_rfl) ((by rw [tmod_nn _ _ (by omega)])) fun a H => H.v 8 (.bool ((s % 60) == 0)) fun a H => H.v 9 (.bool ((s % 60) == 0)) fun a H => H.v 2 (.bool ((s % 60) == 0)) fun a H => ?_
  refine nl (tn (rt ?_))
  refine H.r1 (.bool ((s % 60) == 0)) Tryz.results123 ?_
  exact ⟨by rw [show timeC s = ((s % 60) == 0) from by simp [timeC, g5, g5p]], HP.bl⟩
 have g5p := g5
 iterate 3 refine H.sx rfl fun a H => ?_
 refine H.v 9 (.bool false) fun a H => H.v 2 (.bool false) fun a H => ?_
 refine nl (tn (rt ?_))
 refine H.r1 (.bool false) Tryz.results123 ?_
 exact ⟨by rw [show timeC s = (false) from by simp [timeC, g5, g5p]], HP.bl⟩
theorem used_any (c : Cls) (w : World) : Calls Tryz.prog 120 #[(clV c)] w fun e w' => e = .returned (clV (usedCl c)) ∧ Below w.heap.size w w' := by
 have HP := Hp.start w
 refine w_enter 54 [(0, (clV c))] Tryz.func120 rfl Tryz.ntmps120 (by kernel_rfl) (by kernel_rfl) fun a H => ?_
 refine sq (rg ?_)
 refine H.al HP 1 73 (clL c) fun b_1 w_2 a H HP => H.al HP 2 73 [(ii 0), (ii 0), (ii 0), (ii 0), (ii 0), (ii 0), (ii 0), (ii 0)] fun b_3 w_4 a H HP => ?_
 refine nl (tn (sq (sq (rg ?_))))
 refine H.v 3 (pt b_1 0) fun a H => H.u 4 (ii c.kind) (ex_l1 (HP.cell 1 rfl 0 rfl)) fun a H => ?_
 refine nl (tn (bk (sq (sq (rg ?_)))))
 refine H.v 6 (.bool (c.kind == 1)) fun a H => H.v 5 (.bool (c.kind == 1)) fun a H => ?_
 refine nl (tn ?_)
 refine w_if H rfl (fun g5 => ?_) (fun g5 => ?_)
 ·have g5p := eq_of_beq g5
  have H := H.as 5 (.bool true) rfl (congrArg Value.bool g5)
  refine sk (tn ?_)
  refine w_ift H rfl ?_
  refine sq (rg ?_)
  refine H.v 8 (pt b_1 0) fun a H => H.u 9 (ii c.kind) (ex_l1 (HP.cell 1 rfl 0 rfl)) fun a H => H.v 10 (pt b_1 1) fun a H => H.u 11 (ii c.item) (ex_l1 (HP.cell 1 rfl 1 rfl)) fun a H => H.v 12 (pt b_1 2) fun a H => H.u 13 (ii c.from_) (ex_l1 (HP.cell 1 rfl 2 rfl)) fun a H => H.v 14 (pt b_1 3) fun a H => H.u 15 (ii c.to_) (ex_l1 (HP.cell 1 rfl 3 rfl)) fun a H => H.v 16 (pt b_1 4) fun a H => H.u 17 (ii c.regions) (ex_l1 (HP.cell 1 rfl 4 rfl)) fun a H => H.v 18 (.agg #[(ii c.kind), (ii c.item), (ii c.from_), (ii c.to_), (ii c.regions), (ii 0), (ii 0), (ii 0)]) fun a H => H.st HP 0 b_3 0 8 73 true (.agg #[(ii c.kind), (ii c.item), (ii c.from_), (ii c.to_), (ii c.regions), (ii 0), (ii 0), (ii 0)]) [bx b_3 73 [(ii c.kind), (ii c.item), (ii c.from_), (ii c.to_), (ii c.regions), (ii 0), (ii 0), (ii 0)] true, bx b_1 73 (clL c) true] rfl fun w_5 a H HP => ?_
  refine nl (tn (rt (ibr (tr ?_))))
  refine H.ret1 (fn := Tryz.f120) Tryz.results120 (RV.cellN (vs := [(ii c.kind), (ii c.item), (ii c.from_), (ii c.to_), (ii c.regions), (ii 0), (ii 0), (ii 0)]) (b := b_3) (off := 0) (k := 8) (by kernel_rfl) (by kernel_rfl) (by kernel_rfl) rfl (HP.cells 0 rfl 0 8 (by kernel_rfl))) ?_
  have hu : usedCl c = ⟨c.kind, c.item, c.from_, c.to_, c.regions, 0, 0, 0⟩ := by unfold usedCl; simp [g5p]
  exact ⟨by rw [hu], HP.bl⟩
 have g5p := ne_of_beq_false g5
 have H := H.as 5 (.bool false) rfl (congrArg Value.bool g5)
 refine rg ?_
 refine H.v 7 (.bool (c.kind == 2)) fun a H => H.v 5 (.bool (c.kind == 2)) fun a H => ?_
 refine nl (tn ?_)
 refine w_if H rfl (fun g5_ => ?_) (fun g5_ => ?_)
 ·have g5_p := eq_of_beq g5_
  have H := H.as 5 (.bool true) rfl (congrArg Value.bool g5_)
  refine sq (rg ?_)
  refine H.v 8 (pt b_1 0) fun a H => H.u 9 (ii c.kind) (ex_l1 (HP.cell 1 rfl 0 rfl)) fun a H => H.v 10 (pt b_1 1) fun a H => H.u 11 (ii c.item) (ex_l1 (HP.cell 1 rfl 1 rfl)) fun a H => H.v 12 (pt b_1 2) fun a H => H.u 13 (ii c.from_) (ex_l1 (HP.cell 1 rfl 2 rfl)) fun a H => H.v 14 (pt b_1 3) fun a H => H.u 15 (ii c.to_) (ex_l1 (HP.cell 1 rfl 3 rfl)) fun a H => H.v 16 (pt b_1 4) fun a H => H.u 17 (ii c.regions) (ex_l1 (HP.cell 1 rfl 4 rfl)) fun a H => H.v 18 (.agg #[(ii c.kind), (ii c.item), (ii c.from_), (ii c.to_), (ii c.regions), (ii 0), (ii 0), (ii 0)]) fun a H => H.st HP 0 b_3 0 8 73 true (.agg #[(ii c.kind), (ii c.item), (ii c.from_), (ii c.to_), (ii c.regions), (ii 0), (ii 0), (ii 0)]) [bx b_3 73 [(ii c.kind), (ii c.item), (ii c.from_), (ii c.to_), (ii c.regions), (ii 0), (ii 0), (ii 0)] true, bx b_1 73 (clL c) true] rfl fun w_6 a H HP => ?_
  refine nl (tn (rt (ibr (tr ?_))))
  refine H.ret1 (fn := Tryz.f120) Tryz.results120 (RV.cellN (vs := [(ii c.kind), (ii c.item), (ii c.from_), (ii c.to_), (ii c.regions), (ii 0), (ii 0), (ii 0)]) (b := b_3) (off := 0) (k := 8) (by kernel_rfl) (by kernel_rfl) (by kernel_rfl) rfl (HP.cells 0 rfl 0 8 (by kernel_rfl))) ?_
  have hu : usedCl c = ⟨c.kind, c.item, c.from_, c.to_, c.regions, 0, 0, 0⟩ := by unfold usedCl; simp [g5p, g5_p]
  exact ⟨by rw [hu], HP.bl⟩
 have g5_p := ne_of_beq_false g5_
 have H := H.as 5 (.bool false) rfl (congrArg Value.bool g5_)
 refine sq (sq (rg ?_))
 refine H.v 20 (.bool (c.kind == 3)) fun a H => H.v 19 (.bool (c.kind == 3)) fun a H => ?_
 refine nl (tn ?_)
 refine w_if H rfl (fun g19 => ?_) (fun g19 => ?_)
 ·have g19p := eq_of_beq g19
  have H := H.as 19 (.bool true) rfl (congrArg Value.bool g19)
  refine sk (tn ?_)
  refine w_ift H rfl ?_
  refine sq (rg ?_)
  refine H.v 22 (pt b_1 0) fun a H => H.u 23 (ii c.kind) (ex_l1 (HP.cell 1 rfl 0 rfl)) fun a H => H.v 24 (pt b_1 1) fun a H => H.u 25 (ii c.item) (ex_l1 (HP.cell 1 rfl 1 rfl)) fun a H => H.v 26 (pt b_1 5) fun a H => H.u 27 (ii c.n) (ex_l1 (HP.cell 1 rfl 5 rfl)) fun a H => H.v 28 (pt b_1 4) fun a H => H.u 29 (ii c.regions) (ex_l1 (HP.cell 1 rfl 4 rfl)) fun a H => H.v 30 (.agg #[(ii c.kind), (ii c.item), (ii 0), (ii 0), (ii c.regions), (ii c.n), (ii 0), (ii 0)]) fun a H => H.st HP 0 b_3 0 8 73 true (.agg #[(ii c.kind), (ii c.item), (ii 0), (ii 0), (ii c.regions), (ii c.n), (ii 0), (ii 0)]) [bx b_3 73 [(ii c.kind), (ii c.item), (ii 0), (ii 0), (ii c.regions), (ii c.n), (ii 0), (ii 0)] true, bx b_1 73 (clL c) true] rfl fun w_7 a H HP => ?_
  refine nl (tn (rt (ibr (tr ?_))))
  refine H.ret1 (fn := Tryz.f120) Tryz.results120 (RV.cellN (vs := [(ii c.kind), (ii c.item), (ii 0), (ii 0), (ii c.regions), (ii c.n), (ii 0), (ii 0)]) (b := b_3) (off := 0) (k := 8) (by kernel_rfl) (by kernel_rfl) (by kernel_rfl) rfl (HP.cells 0 rfl 0 8 (by kernel_rfl))) ?_
  have hu : usedCl c = ⟨c.kind, c.item, 0, 0, c.regions, c.n, 0, 0⟩ := by unfold usedCl; simp [g5p, g5_p, g19p]
  exact ⟨by rw [hu], HP.bl⟩
 have g19p := ne_of_beq_false g19
 have H := H.as 19 (.bool false) rfl (congrArg Value.bool g19)
 refine rg ?_
 refine H.v 21 (.bool (c.kind == 4)) fun a H => H.v 19 (.bool (c.kind == 4)) fun a H => ?_
 refine nl (tn ?_)
 refine w_if H rfl (fun g19_ => ?_) (fun g19_ => ?_)
 ·have g19_p := eq_of_beq g19_
  have H := H.as 19 (.bool true) rfl (congrArg Value.bool g19_)
  refine sq (rg ?_)
  refine H.v 22 (pt b_1 0) fun a H => H.u 23 (ii c.kind) (ex_l1 (HP.cell 1 rfl 0 rfl)) fun a H => H.v 24 (pt b_1 1) fun a H => H.u 25 (ii c.item) (ex_l1 (HP.cell 1 rfl 1 rfl)) fun a H => H.v 26 (pt b_1 5) fun a H => H.u 27 (ii c.n) (ex_l1 (HP.cell 1 rfl 5 rfl)) fun a H => H.v 28 (pt b_1 4) fun a H => H.u 29 (ii c.regions) (ex_l1 (HP.cell 1 rfl 4 rfl)) fun a H => H.v 30 (.agg #[(ii c.kind), (ii c.item), (ii 0), (ii 0), (ii c.regions), (ii c.n), (ii 0), (ii 0)]) fun a H => H.st HP 0 b_3 0 8 73 true (.agg #[(ii c.kind), (ii c.item), (ii 0), (ii 0), (ii c.regions), (ii c.n), (ii 0), (ii 0)]) [bx b_3 73 [(ii c.kind), (ii c.item), (ii 0), (ii 0), (ii c.regions), (ii c.n), (ii 0), (ii 0)] true, bx b_1 73 (clL c) true] rfl fun w_8 a H HP => ?_
  refine nl (tn (rt (ibr (tr ?_))))
  refine H.ret1 (fn := Tryz.f120) Tryz.results120 (RV.cellN (vs := [(ii c.kind), (ii c.item), (ii 0), (ii 0), (ii c.regions), (ii c.n), (ii 0), (ii 0)]) (b := b_3) (off := 0) (k := 8) (by kernel_rfl) (by kernel_rfl) (by kernel_rfl) rfl (HP.cells 0 rfl 0 8 (by kernel_rfl))) ?_
  have hu : usedCl c = ⟨c.kind, c.item, 0, 0, c.regions, c.n, 0, 0⟩ := by unfold usedCl; simp [g5p, g5_p, g19p, g19_p]
  exact ⟨by rw [hu], HP.bl⟩
 have g19_p := ne_of_beq_false g19_
 have H := H.as 19 (.bool false) rfl (congrArg Value.bool g19_)
 refine sq (rg ?_)
 refine H.v 32 (.bool (c.kind == 5)) fun a H => H.v 31 (.bool (c.kind == 5)) fun a H => ?_
 refine nl (tn ?_)
 refine w_if H rfl (fun g31 => ?_) (fun g31 => ?_)
 ·have g31p := eq_of_beq g31
  refine sq (rg ?_)
  refine H.v 33 (pt b_1 0) fun a H => H.u 34 (ii c.kind) (ex_l1 (HP.cell 1 rfl 0 rfl)) fun a H => H.v 35 (pt b_1 6) fun a H => H.u 36 (ii c.a) (ex_l1 (HP.cell 1 rfl 6 rfl)) fun a H => H.v 37 (pt b_1 7) fun a H => H.u 38 (ii c.b) (ex_l1 (HP.cell 1 rfl 7 rfl)) fun a H => H.v 39 (pt b_1 5) fun a H => H.u 40 (ii c.n) (ex_l1 (HP.cell 1 rfl 5 rfl)) fun a H => H.v 41 (.agg #[(ii c.kind), (ii 0), (ii 0), (ii 0), (ii 0), (ii c.n), (ii c.a), (ii c.b)]) fun a H => H.st HP 0 b_3 0 8 73 true (.agg #[(ii c.kind), (ii 0), (ii 0), (ii 0), (ii 0), (ii c.n), (ii c.a), (ii c.b)]) [bx b_3 73 [(ii c.kind), (ii 0), (ii 0), (ii 0), (ii 0), (ii c.n), (ii c.a), (ii c.b)] true, bx b_1 73 (clL c) true] rfl fun w_9 a H HP => ?_
  refine nl (tn (rt (ibr (tr ?_))))
  refine H.ret1 (fn := Tryz.f120) Tryz.results120 (RV.cellN (vs := [(ii c.kind), (ii 0), (ii 0), (ii 0), (ii 0), (ii c.n), (ii c.a), (ii c.b)]) (b := b_3) (off := 0) (k := 8) (by kernel_rfl) (by kernel_rfl) (by kernel_rfl) rfl (HP.cells 0 rfl 0 8 (by kernel_rfl))) ?_
  have hu : usedCl c = ⟨c.kind, 0, 0, 0, 0, c.n, c.a, c.b⟩ := by unfold usedCl; simp [g5p, g5_p, g19p, g19_p, g31p]
  exact ⟨by rw [hu], HP.bl⟩
 have g31p := ne_of_beq_false g31
 refine sq (rg ?_)
 refine H.v 43 (.bool (c.kind == 6)) fun a H => H.v 42 (.bool (c.kind == 6)) fun a H => ?_
 refine nl (tn ?_)
 refine w_if H rfl (fun g42 => ?_) (fun g42 => ?_)
 ·have g42p := eq_of_beq g42
  refine sq (rg ?_)
  refine H.v 44 (pt b_1 0) fun a H => H.u 45 (ii c.kind) (ex_l1 (HP.cell 1 rfl 0 rfl)) fun a H => H.v 46 (pt b_1 6) fun a H => H.u 47 (ii c.a) (ex_l1 (HP.cell 1 rfl 6 rfl)) fun a H => H.v 48 (pt b_1 2) fun a H => H.u 49 (ii c.from_) (ex_l1 (HP.cell 1 rfl 2 rfl)) fun a H => H.v 50 (pt b_1 3) fun a H => H.u 51 (ii c.to_) (ex_l1 (HP.cell 1 rfl 3 rfl)) fun a H => H.v 52 (.agg #[(ii c.kind), (ii 0), (ii c.from_), (ii c.to_), (ii 0), (ii 0), (ii c.a), (ii 0)]) fun a H => H.st HP 0 b_3 0 8 73 true (.agg #[(ii c.kind), (ii 0), (ii c.from_), (ii c.to_), (ii 0), (ii 0), (ii c.a), (ii 0)]) [bx b_3 73 [(ii c.kind), (ii 0), (ii c.from_), (ii c.to_), (ii 0), (ii 0), (ii c.a), (ii 0)] true, bx b_1 73 (clL c) true] rfl fun w_10 a H HP => ?_
  refine nl (tn (rt (ibr (tr ?_))))
  refine H.ret1 (fn := Tryz.f120) Tryz.results120 (RV.cellN (vs := [(ii c.kind), (ii 0), (ii c.from_), (ii c.to_), (ii 0), (ii 0), (ii c.a), (ii 0)]) (b := b_3) (off := 0) (k := 8) (by kernel_rfl) (by kernel_rfl) (by kernel_rfl) rfl (HP.cells 0 rfl 0 8 (by kernel_rfl))) ?_
  have hu : usedCl c = ⟨c.kind, 0, c.from_, c.to_, 0, 0, c.a, 0⟩ := by unfold usedCl; simp [g5p, g5_p, g19p, g19_p, g31p, g42p]
  exact ⟨by rw [hu], HP.bl⟩
 have g42p := ne_of_beq_false g42
 refine sk (ibn (tn (sq (rg ?_))))
 refine H.v 53 (.agg #[(ii 0), (ii 0), (ii 0), (ii 0), (ii 0), (ii 0), (ii 0), (ii 0)]) fun a H => H.st HP 0 b_3 0 8 73 true (.agg #[(ii 0), (ii 0), (ii 0), (ii 0), (ii 0), (ii 0), (ii 0), (ii 0)]) [bx b_3 73 [(ii 0), (ii 0), (ii 0), (ii 0), (ii 0), (ii 0), (ii 0), (ii 0)] true, bx b_1 73 (clL c) true] rfl fun w_11 a H HP => ?_
 refine nl (tn (rt ?_))
 refine H.ret1 (fn := Tryz.f120) Tryz.results120 (RV.cellN (vs := [(ii 0), (ii 0), (ii 0), (ii 0), (ii 0), (ii 0), (ii 0), (ii 0)]) (b := b_3) (off := 0) (k := 8) (by kernel_rfl) (by kernel_rfl) (by kernel_rfl) rfl (HP.cells 0 rfl 0 8 (by kernel_rfl))) ?_
 have hu : usedCl c = ⟨0, 0, 0, 0, 0, 0, 0, 0⟩ := by unfold usedCl; simp [g5p, g5_p, g19p, g19_p, g31p, g42p]
 exact ⟨by rw [hu], HP.bl⟩
theorem rightsV_any (c : Cls) (w : World) : Calls Tryz.prog 75 #[(clV c)] w fun e w' => e = .returned (.bool (clP c)) ∧ Below w.heap.size w w' := by
 have HP := Hp.start w
 refine w_enter 95 [(0, (clV c))] Tryz.func75 rfl Tryz.ntmps75 (by kernel_rfl) (by kernel_rfl) fun a H => ?_
 refine sq (rg ?_)
 refine H.al HP 1 73 (clL c) fun b_1 w_2 a H HP => H.v 2 (.bool false) fun a H => ?_
 refine nl (tn (sq (sq ?_)))
 refine An.start (fun v => Hp w v [bx b_1 73 (clL c) true] []) 4 4 HP wide_follows rfl fun w_3 HP => ?_
 refine An.vw H (HP) 0 4 (clV c) (fun _ hS => ex_lN (clL c) (hS.cells 0 rfl 0 8 (by kernel_rfl))) fun a H => ?_
 refine An.vw H (HP) 1 5 (clV c) (fun _ hS => ex_lN (clL c) (hS.cells 0 rfl 0 8 (by kernel_rfl))) fun a H => ?_
 refine An.one 2 (by kernel_rfl) ?_
 refine Op.call H 6 rfl (by kernel_rfl) (Eq.trans (by kernel_rfl : _ = (callFunc 120 #[(clV c)]).run Tryz.prog w_3) (Tryz.call120 _ _)) (used_any c w_3) ?_
 rintro e w_4 ⟨rfl, hb⟩
 refine ⟨_, rfl, ?_⟩
 intro a H
 have HP := HP.next hb
 refine ⟨.inr (HP), ?_⟩
 refine An.pureE H (.inr (HP)) 3 7 (.bool (!(([c.kind, c.item, c.from_, c.to_, c.regions, c.n, c.a, c.b] : List Int) == [(usedCl c).kind, (usedCl c).item, (usedCl c).from_, (usedCl c).to_, (usedCl c).regions, (usedCl c).n, (usedCl c).a, (usedCl c).b]))) (.bool (!useP c)) rfl (by kernel_rfl) (by kernel_rfl) (fun _ _ _ h => h) (fun _ => ex_neL (a := [c.kind, c.item, c.from_, c.to_, c.regions, c.n, c.a, c.b]) (b := [(usedCl c).kind, (usedCl c).item, (usedCl c).from_, (usedCl c).to_, (usedCl c).regions, (usedCl c).n, (usedCl c).a, (usedCl c).b]) (by kernel_rfl) (by kernel_rfl) (by kernel_rfl) rfl) ((congrArg (fun b => Value.bool (!b)) (useP_eq c))) fun a H => ?_
 refine An.done (by kernel_rfl) ?_
 refine tn ?_
 refine w_if H rfl (fun g7 => ?_) (fun g7 => ?_)
 ·have g7p := not_is_true g7
  refine sq (rg ?_)
  refine H.v 2 (.bool false) fun a H => ?_
  refine nl (tn (rt (tr ?_)))
  refine H.r1 (.bool false) Tryz.results75 ?_
  exact ⟨by rw [show clP c = (false) from by simp [clP, bodyC, g7, g7p] <;> simp [bne]], HP.bl⟩
 have g7p := not_is_false g7
 refine sk (tn (sq (sq (rg ?_))))
 refine H.v 8 (pt b_1 0) fun a H => H.u 9 (ii c.kind) (ex_l1 (HP.cell 0 rfl 0 rfl)) fun a H => ?_
 refine nl (tn (bk (sq (sq (rg ?_)))))
 refine H.v 11 (.bool (c.kind == 1)) fun a H => H.v 10 (.bool (c.kind == 1)) fun a H => ?_
 refine nl (tn ?_)
 refine w_if H rfl (fun g10 => ?_) (fun g10 => ?_)
 ·have g10p := eq_of_beq g10
  have H := H.as 10 (.bool true) rfl (congrArg Value.bool g10)
  refine sk (tn ?_)
  refine w_ift H rfl ?_
  refine sq (rg ?_)
  refine H.u 13 (clV c) (ex_lN (clL c) (HP.cells 0 rfl 0 8 (by kernel_rfl))) fun a H => H.cb HP 14 (Tryz.call121 _ _) (isItem_any c w_4) fun w_5 hb a H HP => H.v 15 (.bool (itemC c)) fun a H => ?_
  refine H.split 15 rfl (fun g15 H => ?_) (fun g15 H => ?_)
  ·have g15p := g15
   refine H.v 16 (pt b_1 2) fun a H => H.u 17 (ii c.from_) (ex_l1 (HP.cell 0 rfl 2 rfl)) fun a H => H.v 18 (.bool (decide (0 ≤ c.from_))) fun a H => H.v 19 (.bool (decide (0 ≤ c.from_))) fun a H => H.v 20 (.bool (decide (0 ≤ c.from_))) fun a H => ?_
   refine H.split 20 rfl (fun g20 H => ?_) (fun g20 H => ?_)
   ·have g20p := of_decide_eq_true g20
    refine H.v 21 (pt b_1 2) fun a H => H.u 22 (ii c.from_) (ex_l1 (HP.cell 0 rfl 2 rfl)) fun a H => H.v 23 (pt b_1 3) fun a H => H.u 24 (ii c.to_) (ex_l1 (HP.cell 0 rfl 3 rfl)) fun a H => H.v 25 (.bool (decide (c.from_ < c.to_))) fun a H => H.v 26 (.bool (decide (c.from_ < c.to_))) fun a H => H.v 27 (.bool (decide (c.from_ < c.to_))) fun a H => ?_
    refine H.split 27 rfl (fun g27 H => ?_) (fun g27 H => ?_)
    ·have g27p := of_decide_eq_true g27
     refine H.v 28 (pt b_1 3) fun a H => H.u 29 (ii c.to_) (ex_l1 (HP.cell 0 rfl 3 rfl)) fun a H => H.v 30 (.bool (decide (c.to_ ≤ 10000000000))) fun a H => H.v 31 (.bool (decide (c.to_ ≤ 10000000000))) fun a H => H.v 2 (.bool (decide (c.to_ ≤ 10000000000))) fun a H => ?_
     refine nl (tn (rt (ibr (tr ?_))))
     refine H.r1 (.bool (decide (c.to_ ≤ 10000000000))) Tryz.results75 ?_
     exact ⟨by rw [show clP c = (decide (c.to_ ≤ 10000000000)) from by simp [clP, bodyC, g7, g15, g20, g27, g7p, g10p, g15p, g20p, g27p] <;> simp [bne]], HP.bl⟩
    have g27p := of_decide_eq_false g27
    iterate 3 refine H.sx rfl fun a H => ?_
    refine H.v 31 (.bool false) fun a H => H.v 2 (.bool false) fun a H => ?_
    refine nl (tn (rt (ibr (tr ?_))))
    refine H.r1 (.bool false) Tryz.results75 ?_
    exact ⟨by rw [show clP c = (false) from by simp [clP, bodyC, g7, g15, g20, g27, g7p, g10p, g15p, g20p, g27p] <;> simp [bne]], HP.bl⟩
   have g20p := of_decide_eq_false g20
   iterate 5 refine H.sx rfl fun a H => ?_
   refine H.v 26 (.bool false) fun a H => H.v 27 (.bool false) fun a H => ?_
   iterate 3 refine H.sx rfl fun a H => ?_
   refine H.v 31 (.bool false) fun a H => H.v 2 (.bool false) fun a H => ?_
   refine nl (tn (rt (ibr (tr ?_))))
   refine H.r1 (.bool false) Tryz.results75 ?_
   exact ⟨by rw [show clP c = (false) from by simp [clP, bodyC, g7, g15, g20, g7p, g10p, g15p, g20p] <;> simp [bne]], HP.bl⟩
  have g15p := g15
  iterate 3 refine H.sx rfl fun a H => ?_
  refine H.v 19 (.bool false) fun a H => H.v 20 (.bool false) fun a H => ?_
  iterate 5 refine H.sx rfl fun a H => ?_
  refine H.v 26 (.bool false) fun a H => H.v 27 (.bool false) fun a H => ?_
  iterate 3 refine H.sx rfl fun a H => ?_
  refine H.v 31 (.bool false) fun a H => H.v 2 (.bool false) fun a H => ?_
  refine nl (tn (rt (ibr (tr ?_))))
  refine H.r1 (.bool false) Tryz.results75 ?_
  exact ⟨by rw [show clP c = (false) from by simp [clP, bodyC, g7, g15, g7p, g10p, g15p] <;> simp [bne]], HP.bl⟩
 have g10p := ne_of_beq_false g10
 have H := H.as 10 (.bool false) rfl (congrArg Value.bool g10)
 refine rg ?_
 refine H.v 12 (.bool (c.kind == 2)) fun a H => H.v 10 (.bool (c.kind == 2)) fun a H => ?_
 refine nl (tn ?_)
 refine w_if H rfl (fun g10_ => ?_) (fun g10_ => ?_)
 ·have g10_p := eq_of_beq g10_
  have H := H.as 10 (.bool true) rfl (congrArg Value.bool g10_)
  refine sq (rg ?_)
  refine H.u 13 (clV c) (ex_lN (clL c) (HP.cells 0 rfl 0 8 (by kernel_rfl))) fun a H => H.cb HP 14 (Tryz.call121 _ _) (isItem_any c w_4) fun w_6 hb a H HP => H.v 15 (.bool (itemC c)) fun a H => ?_
  refine H.split 15 rfl (fun g15 H => ?_) (fun g15 H => ?_)
  ·have g15p := g15
   refine H.v 16 (pt b_1 2) fun a H => H.u 17 (ii c.from_) (ex_l1 (HP.cell 0 rfl 2 rfl)) fun a H => H.v 18 (.bool (decide (0 ≤ c.from_))) fun a H => H.v 19 (.bool (decide (0 ≤ c.from_))) fun a H => H.v 20 (.bool (decide (0 ≤ c.from_))) fun a H => ?_
   refine H.split 20 rfl (fun g20 H => ?_) (fun g20 H => ?_)
   ·have g20p := of_decide_eq_true g20
    refine H.v 21 (pt b_1 2) fun a H => H.u 22 (ii c.from_) (ex_l1 (HP.cell 0 rfl 2 rfl)) fun a H => H.v 23 (pt b_1 3) fun a H => H.u 24 (ii c.to_) (ex_l1 (HP.cell 0 rfl 3 rfl)) fun a H => H.v 25 (.bool (decide (c.from_ < c.to_))) fun a H => H.v 26 (.bool (decide (c.from_ < c.to_))) fun a H => H.v 27 (.bool (decide (c.from_ < c.to_))) fun a H => ?_
    refine H.split 27 rfl (fun g27 H => ?_) (fun g27 H => ?_)
    ·have g27p := of_decide_eq_true g27
     refine H.v 28 (pt b_1 3) fun a H => H.u 29 (ii c.to_) (ex_l1 (HP.cell 0 rfl 3 rfl)) fun a H => H.v 30 (.bool (decide (c.to_ ≤ 10000000000))) fun a H => H.v 31 (.bool (decide (c.to_ ≤ 10000000000))) fun a H => H.v 2 (.bool (decide (c.to_ ≤ 10000000000))) fun a H => ?_
     refine nl (tn (rt (ibr (tr ?_))))
     refine H.r1 (.bool (decide (c.to_ ≤ 10000000000))) Tryz.results75 ?_
     exact ⟨by rw [show clP c = (decide (c.to_ ≤ 10000000000)) from by simp [clP, bodyC, g7, g15, g20, g27, g7p, g10p, g10_p, g15p, g20p, g27p] <;> simp [bne]], HP.bl⟩
    have g27p := of_decide_eq_false g27
    iterate 3 refine H.sx rfl fun a H => ?_
    refine H.v 31 (.bool false) fun a H => H.v 2 (.bool false) fun a H => ?_
    refine nl (tn (rt (ibr (tr ?_))))
    refine H.r1 (.bool false) Tryz.results75 ?_
    exact ⟨by rw [show clP c = (false) from by simp [clP, bodyC, g7, g15, g20, g27, g7p, g10p, g10_p, g15p, g20p, g27p] <;> simp [bne]], HP.bl⟩
   have g20p := of_decide_eq_false g20
   iterate 5 refine H.sx rfl fun a H => ?_
   refine H.v 26 (.bool false) fun a H => H.v 27 (.bool false) fun a H => ?_
   iterate 3 refine H.sx rfl fun a H => ?_
   refine H.v 31 (.bool false) fun a H => H.v 2 (.bool false) fun a H => ?_
   refine nl (tn (rt (ibr (tr ?_))))
   refine H.r1 (.bool false) Tryz.results75 ?_
   exact ⟨by rw [show clP c = (false) from by simp [clP, bodyC, g7, g15, g20, g7p, g10p, g10_p, g15p, g20p] <;> simp [bne]], HP.bl⟩
  have g15p := g15
  iterate 3 refine H.sx rfl fun a H => ?_
  refine H.v 19 (.bool false) fun a H => H.v 20 (.bool false) fun a H => ?_
  iterate 5 refine H.sx rfl fun a H => ?_
  refine H.v 26 (.bool false) fun a H => H.v 27 (.bool false) fun a H => ?_
  iterate 3 refine H.sx rfl fun a H => ?_
  refine H.v 31 (.bool false) fun a H => H.v 2 (.bool false) fun a H => ?_
  refine nl (tn (rt (ibr (tr ?_))))
  refine H.r1 (.bool false) Tryz.results75 ?_
  exact ⟨by rw [show clP c = (false) from by simp [clP, bodyC, g7, g15, g7p, g10p, g10_p, g15p] <;> simp [bne]], HP.bl⟩
 have g10_p := ne_of_beq_false g10_
 have H := H.as 10 (.bool false) rfl (congrArg Value.bool g10_)
 refine sq (rg ?_)
 refine H.v 33 (.bool (c.kind == 3)) fun a H => H.v 32 (.bool (c.kind == 3)) fun a H => ?_
 refine nl (tn ?_)
 refine w_if H rfl (fun g32 => ?_) (fun g32 => ?_)
 ·have g32p := eq_of_beq g32
  refine sq (rg ?_)
  refine H.u 34 (clV c) (ex_lN (clL c) (HP.cells 0 rfl 0 8 (by kernel_rfl))) fun a H => H.cb HP 35 (Tryz.call121 _ _) (isItem_any c w_4) fun w_7 hb a H HP => H.v 36 (.bool (itemC c)) fun a H => ?_
  refine H.split 36 rfl (fun g36 H => ?_) (fun g36 H => ?_)
  ·have g36p := g36
   refine H.v 37 (pt b_1 5) fun a H => H.u 38 (ii c.n) (ex_l1 (HP.cell 0 rfl 5 rfl)) fun a H => H.cb HP 39 (Tryz.call122 _ _) (within6_any c.n 0 1000 w_7) fun w_8 hb a H HP => H.v 40 (.bool (inR c.n 0 1000)) fun a H => H.v 2 (.bool (inR c.n 0 1000)) fun a H => ?_
   refine nl (tn (rt (ibr (tr ?_))))
   refine H.r1 (.bool (inR c.n 0 1000)) Tryz.results75 ?_
   exact ⟨by rw [show clP c = (inR c.n 0 1000) from by simp [clP, bodyC, g7, g36, g7p, g10p, g10_p, g32p, g36p] <;> simp [bne]], HP.bl⟩
  have g36p := g36
  iterate 3 refine H.sx rfl fun a H => ?_
  refine H.v 40 (.bool false) fun a H => H.v 2 (.bool false) fun a H => ?_
  refine nl (tn (rt (ibr (tr ?_))))
  refine H.r1 (.bool false) Tryz.results75 ?_
  exact ⟨by rw [show clP c = (false) from by simp [clP, bodyC, g7, g36, g7p, g10p, g10_p, g32p, g36p] <;> simp [bne]], HP.bl⟩
 have g32p := ne_of_beq_false g32
 refine sq (rg ?_)
 refine H.v 42 (.bool (c.kind == 4)) fun a H => H.v 41 (.bool (c.kind == 4)) fun a H => ?_
 refine nl (tn ?_)
 refine w_if H rfl (fun g41 => ?_) (fun g41 => ?_)
 ·have g41p := eq_of_beq g41
  refine sq (rg ?_)
  refine H.u 43 (clV c) (ex_lN (clL c) (HP.cells 0 rfl 0 8 (by kernel_rfl))) fun a H => H.cb HP 44 (Tryz.call121 _ _) (isItem_any c w_4) fun w_9 hb a H HP => H.v 45 (.bool (itemC c)) fun a H => ?_
  refine H.split 45 rfl (fun g45 H => ?_) (fun g45 H => ?_)
  ·have g45p := g45
   refine H.v 46 (pt b_1 5) fun a H => H.u 47 (ii c.n) (ex_l1 (HP.cell 0 rfl 5 rfl)) fun a H => H.cb HP 48 (Tryz.call122 _ _) (within6_any c.n 0 10000000000 w_9) fun w_10 hb a H HP => H.v 49 (.bool (inR c.n 0 10000000000)) fun a H => H.v 2 (.bool (inR c.n 0 10000000000)) fun a H => ?_
   refine nl (tn (rt (ibr (tr ?_))))
   refine H.r1 (.bool (inR c.n 0 10000000000)) Tryz.results75 ?_
   exact ⟨by rw [show clP c = (inR c.n 0 10000000000) from by simp [clP, bodyC, g7, g45, g7p, g10p, g10_p, g32p, g41p, g45p] <;> simp [bne]], HP.bl⟩
  have g45p := g45
  iterate 3 refine H.sx rfl fun a H => ?_
  refine H.v 49 (.bool false) fun a H => H.v 2 (.bool false) fun a H => ?_
  refine nl (tn (rt (ibr (tr ?_))))
  refine H.r1 (.bool false) Tryz.results75 ?_
  exact ⟨by rw [show clP c = (false) from by simp [clP, bodyC, g7, g45, g7p, g10p, g10_p, g32p, g41p, g45p] <;> simp [bne]], HP.bl⟩
 have g41p := ne_of_beq_false g41
 refine sq (rg ?_)
 refine H.v 51 (.bool (c.kind == 5)) fun a H => H.v 50 (.bool (c.kind == 5)) fun a H => ?_
 refine nl (tn ?_)
 refine w_if H rfl (fun g50 => ?_) (fun g50 => ?_)
 ·have g50p := eq_of_beq g50
  refine sq (rg ?_)
  refine H.v 52 (pt b_1 6) fun a H => H.u 53 (ii c.a) (ex_l1 (HP.cell 0 rfl 6 rfl)) fun a H => H.cb HP 54 (Tryz.call122 _ _) (within6_any c.a 1 200 w_4) fun w_11 hb a H HP => H.v 55 (.bool (inR c.a 1 200)) fun a H => ?_
  refine H.split 55 rfl (fun g55 H => ?_) (fun g55 H => ?_)
  ·have g55p := inR_iff.1 g55
   refine H.v 56 (pt b_1 7) fun a H => H.u 57 (ii c.b) (ex_l1 (HP.cell 0 rfl 7 rfl)) fun a H => H.cb HP 58 (Tryz.call122 _ _) (within6_any c.b 1 200 w_11) fun w_12 hb a H HP => H.v 59 (.bool (inR c.b 1 200)) fun a H => H.v 3 (.bool (inR c.b 1 200)) fun a H => ?_
   refine nl (tn (sq (rg ?_)))
   refine H.v 60 (.bool (inR c.b 1 200)) fun a H => H.v 61 (.bool (inR c.b 1 200)) fun a H => ?_
   refine H.split 61 rfl (fun g61 H => ?_) (fun g61 H => ?_)
   ·have g61p := inR_iff.1 g61
    refine H.v 62 (pt b_1 6) fun a H => H.u 63 (ii c.a) (ex_l1 (HP.cell 0 rfl 6 rfl)) fun a H => H.v 64 (pt b_1 7) fun a H => H.u 65 (ii c.b) (ex_l1 (HP.cell 0 rfl 7 rfl)) fun a H => H.v 66 (.bool (c.a != c.b)) fun a H => H.v 67 (.bool (c.a != c.b)) fun a H => H.v 68 (.bool (c.a != c.b)) fun a H => ?_
    refine H.split 68 rfl (fun g68 H => ?_) (fun g68 H => ?_)
    ·have g68p := bne_iff_ne.1 g68
     refine H.v 69 (pt b_1 5) fun a H => H.u 70 (ii c.n) (ex_l1 (HP.cell 0 rfl 5 rfl)) fun a H => H.cb HP 71 (Tryz.call122 _ _) (within6_any c.n 0 86400 w_12) fun w_13 hb a H HP => H.v 72 (.bool (inR c.n 0 86400)) fun a H => H.v 2 (.bool (inR c.n 0 86400)) fun a H => ?_
     refine nl (tn (rt (ibr (tr ?_))))
     refine H.r1 (.bool (inR c.n 0 86400)) Tryz.results75 ?_
     exact ⟨by rw [show clP c = (inR c.n 0 86400) from by simp [clP, bodyC, g7, g55, g61, g68, g7p, g10p, g10_p, g32p, g41p, g50p, g55p, g61p, g68p] <;> simp [bne]], HP.bl⟩
    have g68p := eq_of_bne_false g68
    iterate 3 refine H.sx rfl fun a H => ?_
    refine H.v 72 (.bool false) fun a H => H.v 2 (.bool false) fun a H => ?_
    refine nl (tn (rt (ibr (tr ?_))))
    refine H.r1 (.bool false) Tryz.results75 ?_
    exact ⟨by rw [show clP c = (false) from by simp [clP, bodyC, g7, g55, g61, g68, g7p, g10p, g10_p, g32p, g41p, g50p, g55p, g61p, g68p] <;> simp [bne]], HP.bl⟩
   have g61p := inR_not.1 g61
   iterate 5 refine H.sx rfl fun a H => ?_
   refine H.v 67 (.bool false) fun a H => H.v 68 (.bool false) fun a H => ?_
   iterate 3 refine H.sx rfl fun a H => ?_
   refine H.v 72 (.bool false) fun a H => H.v 2 (.bool false) fun a H => ?_
   refine nl (tn (rt (ibr (tr ?_))))
   refine H.r1 (.bool false) Tryz.results75 ?_
   exact ⟨by rw [show clP c = (false) from by simp [clP, bodyC, g7, g55, g61, g7p, g10p, g10_p, g32p, g41p, g50p, g55p, g61p] <;> simp [bne]], HP.bl⟩
  have g55p := inR_not.1 g55
  iterate 3 refine H.sx rfl fun a H => ?_
  refine H.v 59 (.bool false) fun a H => H.v 3 (.bool false) fun a H => ?_
  refine nl (tn (sq (rg ?_)))
  refine H.v 60 (.bool false) fun a H => H.v 61 (.bool false) fun a H => ?_
  iterate 5 refine H.sx rfl fun a H => ?_
  refine H.v 67 (.bool false) fun a H => H.v 68 (.bool false) fun a H => ?_
  iterate 3 refine H.sx rfl fun a H => ?_
  refine H.v 72 (.bool false) fun a H => H.v 2 (.bool false) fun a H => ?_
  refine nl (tn (rt (ibr (tr ?_))))
  refine H.r1 (.bool false) Tryz.results75 ?_
  exact ⟨by rw [show clP c = (false) from by simp [clP, bodyC, g7, g55, g7p, g10p, g10_p, g32p, g41p, g50p, g55p] <;> simp [bne]], HP.bl⟩
 have g50p := ne_of_beq_false g50
 refine sq (rg ?_)
 refine H.v 74 (.bool (c.kind == 6)) fun a H => H.v 73 (.bool (c.kind == 6)) fun a H => ?_
 refine nl (tn ?_)
 refine w_if H rfl (fun g73 => ?_) (fun g73 => ?_)
 ·have g73p := eq_of_beq g73
  refine sq (rg ?_)
  refine H.v 75 (pt b_1 6) fun a H => H.u 76 (ii c.a) (ex_l1 (HP.cell 0 rfl 6 rfl)) fun a H => H.cb HP 77 (Tryz.call122 _ _) (within6_any c.a 1 3 w_4) fun w_14 hb a H HP => H.v 78 (.bool (inR c.a 1 3)) fun a H => ?_
  refine H.split 78 rfl (fun g78 H => ?_) (fun g78 H => ?_)
  ·have g78p := inR_iff.1 g78
   refine H.v 79 (pt b_1 2) fun a H => H.u 80 (ii c.from_) (ex_l1 (HP.cell 0 rfl 2 rfl)) fun a H => H.cb HP 81 (Tryz.call123 _ _) (isTime_any c.from_ w_14) fun w_15 hb a H HP => H.v 82 (.bool (timeC c.from_)) fun a H => H.v 83 (.bool (timeC c.from_)) fun a H => ?_
   refine H.split 83 rfl (fun g83 H => ?_) (fun g83 H => ?_)
   ·have g83p := g83
    refine H.v 84 (pt b_1 3) fun a H => H.u 85 (ii c.to_) (ex_l1 (HP.cell 0 rfl 3 rfl)) fun a H => H.cb HP 86 (Tryz.call123 _ _) (isTime_any c.to_ w_15) fun w_16 hb a H HP => H.v 87 (.bool (timeC c.to_)) fun a H => H.v 88 (.bool (timeC c.to_)) fun a H => ?_
    refine H.split 88 rfl (fun g88 H => ?_) (fun g88 H => ?_)
    ·have g88p := g88
     refine H.v 89 (pt b_1 2) fun a H => H.u 90 (ii c.from_) (ex_l1 (HP.cell 0 rfl 2 rfl)) fun a H => H.v 91 (pt b_1 3) fun a H => H.u 92 (ii c.to_) (ex_l1 (HP.cell 0 rfl 3 rfl)) fun a H => H.v 93 (.bool (c.from_ != c.to_)) fun a H => H.v 94 (.bool (c.from_ != c.to_)) fun a H => H.v 2 (.bool (c.from_ != c.to_)) fun a H => ?_
     refine nl (tn (rt (ibr (tr ?_))))
     refine H.r1 (.bool (c.from_ != c.to_)) Tryz.results75 ?_
     exact ⟨by rw [show clP c = (c.from_ != c.to_) from by simp [clP, bodyC, g7, g78, g83, g88, g7p, g10p, g10_p, g32p, g41p, g50p, g73p, g78p, g83p, g88p] <;> simp [bne]], HP.bl⟩
    have g88p := g88
    iterate 5 refine H.sx rfl fun a H => ?_
    refine H.v 94 (.bool false) fun a H => H.v 2 (.bool false) fun a H => ?_
    refine nl (tn (rt (ibr (tr ?_))))
    refine H.r1 (.bool false) Tryz.results75 ?_
    exact ⟨by rw [show clP c = (false) from by simp [clP, bodyC, g7, g78, g83, g88, g7p, g10p, g10_p, g32p, g41p, g50p, g73p, g78p, g83p, g88p] <;> simp [bne]], HP.bl⟩
   have g83p := g83
   iterate 3 refine H.sx rfl fun a H => ?_
   refine H.v 87 (.bool false) fun a H => H.v 88 (.bool false) fun a H => ?_
   iterate 5 refine H.sx rfl fun a H => ?_
   refine H.v 94 (.bool false) fun a H => H.v 2 (.bool false) fun a H => ?_
   refine nl (tn (rt (ibr (tr ?_))))
   refine H.r1 (.bool false) Tryz.results75 ?_
   exact ⟨by rw [show clP c = (false) from by simp [clP, bodyC, g7, g78, g83, g7p, g10p, g10_p, g32p, g41p, g50p, g73p, g78p, g83p] <;> simp [bne]], HP.bl⟩
  have g78p := inR_not.1 g78
  iterate 3 refine H.sx rfl fun a H => ?_
  refine H.v 82 (.bool false) fun a H => H.v 83 (.bool false) fun a H => ?_
  iterate 3 refine H.sx rfl fun a H => ?_
  refine H.v 87 (.bool false) fun a H => H.v 88 (.bool false) fun a H => ?_
  iterate 5 refine H.sx rfl fun a H => ?_
  refine H.v 94 (.bool false) fun a H => H.v 2 (.bool false) fun a H => ?_
  refine nl (tn (rt (ibr (tr ?_))))
  refine H.r1 (.bool false) Tryz.results75 ?_
  exact ⟨by rw [show clP c = (false) from by simp [clP, bodyC, g7, g78, g7p, g10p, g10_p, g32p, g41p, g50p, g73p, g78p] <;> simp [bne]], HP.bl⟩
 have g73p := ne_of_beq_false g73
 refine sk (ibn (tn (sq (rg ?_))))
 refine H.v 2 (.bool false) fun a H => ?_
 refine nl (tn (rt ?_))
 refine H.r1 (.bool false) Tryz.results75 ?_
 exact ⟨by rw [show clP c = (false) from by simp [clP, bodyC, g7, g7p, g10p, g10_p, g32p, g41p, g50p, g73p] <;> simp [bne]], HP.bl⟩
end Go.Proofs.YteeillphhiaopaaGreatDoor
namespace Go.Proofs.YteeillphhiaopaaGreatDoor
set_option maxRecDepth 100000
set_option maxHeartbeats 4000000
open Go.ChangeShapes Go.WideShapes Go.ChangeAt Go.RowKit
set_option linter.unusedVariables false
set_option linter.unusedSimpArgs false
theorem isOffset_any (n : Int) (w : World) : Calls Tryz.prog 114 #[.int .i64 n] w fun e w' => e = .returned (.bool (inR n (-50400) 50400)) ∧ Below w.heap.size w w' := by
 have HP := Hp.start w
 refine w_enter 9 [(0, (ii n))] Tryz.func114 rfl Tryz.ntmps114 (by kernel_rfl) (by kernel_rfl) fun a H => ?_
 refine sq (rg ?_)
 refine H.v 2 (.bool false) fun a H => ?_
 refine nl (tn (sq (rg ?_)))
 refine H.v 3 (ii n) fun a H => H.v 4 (.bool (decide (n ≥ (-50400)))) fun a H => H.v 5 (.bool (decide (n ≥ (-50400)))) fun a H => ?_
 refine H.split 5 rfl (fun g5 H => ?_) (fun g5 H => ?_)
 ·have g5p := of_decide_eq_true g5
  refine H.v 6 (ii n) fun a H => H.v 7 (.bool (decide (n ≤ 50400))) fun a H => H.v 8 (.bool (decide (n ≤ 50400))) fun a H => H.v 2 (.bool (decide (n ≤ 50400))) fun a H => ?_
  refine nl (tn (rt ?_))
  refine H.r1 (.bool (decide (n ≤ 50400))) Tryz.results114 ?_
  exact ⟨by rw [show inR n (-50400) 50400 = (decide (n ≤ 50400)) from by simp [inR, g5, g5p]], HP.bl⟩
 have g5p := of_decide_eq_false g5
 refine H.s 6 fun a H => ?_
 refine H.s 7 fun a H => ?_
 refine H.v 8 (.bool false) fun a H => H.v 2 (.bool false) fun a H => ?_
 refine nl (tn (rt ?_))
 refine H.r1 (.bool false) Tryz.results114 ?_
 exact ⟨by rw [show inR n (-50400) 50400 = (false) from by simp [inR, g5, g5p]], HP.bl⟩
theorem zone_any (off : Int) (A : Option Addr) (c : Nat) (sh : Alts) (w : World) (hr : IsAl w A sh) (hl : sh.length ≤ maxLen) : Calls Tryz.prog 69 #[.agg #[.int .i64 off, .slice A sh.length c]] w fun e w' => e = .returned (.bool (zoneP off sh)) ∧ Below w.heap.size w w' := by
 unfold maxLen at hl
 have HP := Hp.start w
 refine w_enter 41 [(0, (.agg #[(ii off), (.slice A sh.length c)]))] Tryz.func69 rfl Tryz.ntmps69 (by kernel_rfl) (by kernel_rfl) fun a H => ?_
 refine sq (rg ?_)
 refine H.al HP 1 26 [(ii off), (.slice A sh.length c)] fun b_1 w_2 a H HP => H.v 2 (.bool false) fun a H => ?_
 refine nl (tn (sq (sq (rg ?_))))
 refine H.v 6 (pt b_1 1) fun a H => H.u 7 (.slice A sh.length c) (ex_l1 (HP.cell 0 rfl 1 rfl)) fun a H => H.v 8 (ii sh.length) fun a H => H.v 9 (.bool (decide ((sh.length : Int) > 40))) fun a H => H.v 10 (.bool (decide ((sh.length : Int) > 40))) fun a H => ?_
 refine H.split 10 rfl (fun g10 H => ?_) (fun g10 H => ?_)
 ·have g10p := of_decide_eq_true g10
  iterate 4 refine H.sx rfl fun a H => ?_
  refine H.vx rfl (.bool true) fun a H => ?_
  refine nl (tn ?_)
  refine w_ift H rfl ?_
  refine sq (rg ?_)
  refine H.v 2 (.bool false) fun a H => ?_
  refine nl (tn (rt (tr ?_)))
  refine H.r1 (.bool false) Tryz.results69 ?_
  exact ⟨by rw [show zoneP off sh = false from by (first | (rw [Bool.eq_iff_iff]; (try simp only [zoneP, g10, g10p]); (try simp only [Bool.and_eq_true, Bool.or_eq_true, Bool.not_eq_true', Bool.false_eq_true, decide_eq_true_eq, decide_eq_false_iff_not, inR_iff, inR_not, beq_iff_eq, bne_iff_ne, beq_eq_false_iff_ne, ne_eq, Bool.true_and, Bool.and_true, Bool.false_and, Bool.and_false, Bool.true_or, Bool.or_true, Bool.false_or, Bool.or_false, Bool.not_true, Bool.not_false, and_true, true_and, iff_true, true_iff, iff_false, false_iff, or_true, true_or, or_false, false_or, not_true_eq_false, not_false_eq_true, and_false, false_and]); first | omega | (simp; done) | (simp; omega)) | (simp [zoneP, g10, g10p]; done) | (simp [zoneP, g10, g10p] <;> simp [bne]))], HP.bl⟩
 have g10p := of_decide_eq_false g10
 refine H.v 11 (pt b_1 0) fun a H => H.u 12 (ii off) (ex_l1 (HP.cell 0 rfl 0 rfl)) fun a H => H.cb HP 13 (Tryz.call114 _ _) (isOffset_any off w_2) fun w_3 hb a H HP => H.v 14 (.bool (!(inR off (-50400) 50400))) fun a H => H.v 15 (.bool (!(inR off (-50400) 50400))) fun a H => ?_
 refine nl (tn ?_)
 refine w_if H rfl (fun g15 => ?_) (fun g15 => ?_)
 ·have g15p := inR_not.1 (not_is_true g15)
  refine sq (rg ?_)
  refine H.v 2 (.bool false) fun a H => ?_
  refine nl (tn (rt (tr ?_)))
  refine H.r1 (.bool false) Tryz.results69 ?_
  exact ⟨by rw [show zoneP off sh = false from by (first | (rw [Bool.eq_iff_iff]; (try simp only [zoneP, g10, g10p, g15, g15p]); (try simp only [Bool.and_eq_true, Bool.or_eq_true, Bool.not_eq_true', Bool.false_eq_true, decide_eq_true_eq, decide_eq_false_iff_not, inR_iff, inR_not, beq_iff_eq, bne_iff_ne, beq_eq_false_iff_ne, ne_eq, Bool.true_and, Bool.and_true, Bool.false_and, Bool.and_false, Bool.true_or, Bool.or_true, Bool.false_or, Bool.or_false, Bool.not_true, Bool.not_false, and_true, true_and, iff_true, true_iff, iff_false, false_iff, or_true, true_or, or_false, false_or, not_true_eq_false, not_false_eq_true, and_false, false_and]); first | omega | (simp; done) | (simp; omega)) | (simp [zoneP, g10, g10p, g15, g15p]; done) | (simp [zoneP, g10, g10p, g15, g15p] <;> simp [bne]))], HP.bl⟩
 have g15p := inR_iff.1 (not_is_false g15)
 refine sk (tn (sq (rg ?_)))
 refine H.v 3 (ii (-1)) fun a H => ?_
 refine nl (tn (sq (sq (rg ?_))))
 refine H.v 16 (pt b_1 1) fun a H => H.u 17 (.slice A sh.length c) (ex_l1 (HP.cell 0 rfl 1 rfl)) fun a H => H.v 18 (ii sh.length) fun a H => H.v 19 (ii 0) fun a H => ?_
 refine nl (tn (bk ?_))
 refine w_loop (fun mm a wv => ∃ (i : Nat), ∃ (last : Int), sh.length - i = mm ∧ Sl 41 [(19, (ii i)), (3, (ii last)), (18, (ii sh.length)), (17, (.slice A sh.length c)), (16, (pt b_1 1)), (15, (.bool (!(inR off (-50400) 50400)))), (14, (.bool (!(inR off (-50400) 50400)))), (13, (.bool (inR off (-50400) 50400))), (12, (ii off)), (11, (pt b_1 0)), (10, (.bool false)), (9, (.bool (decide ((sh.length : Int) > 40)))), (8, (ii sh.length)), (7, (.slice A sh.length c)), (6, (pt b_1 1)), (1, (pt b_1 0)), (0, (.agg #[(ii off), (.slice A sh.length c)]))] a ∧ Hp w wv [bx b_1 26 [(ii off), (.slice A sh.length c)] true] [] ∧ (i ≤ sh.length) ∧ (shP (-1) sh = shP last (sh.drop i))) (sh.length - 0) ?_ ?_
 ·exact ⟨0, (-1), (by omega), H.keep (by kernel_rfl), HP, (Nat.zero_le _), rfl⟩
 rintro mm a w_4 ⟨i, last, hmeas, H, HP, hib, hrel⟩
 refine sq (rg ?_)
 refine H.v 20 (.bool (decide ((i : Int) < (sh.length : Int)))) fun a H => ?_
 refine nl (tn (sq ?_))
 refine w_if H rfl (fun g20 => ?_) (fun g20 => ?_)
 ·have g20p := of_decide_eq_true g20
  refine sk (tn (sq (bk (sq ?_))))
  obtain ⟨bu_6, ou_7, x_5, hA_8, _, hd_10, hx_9, hm_11, _⟩ := IsRow.get altC_size (hr.below HP.bl) (i := i) (by omega)
  have hst : shP last (sh.drop i) = (decide (last < x_5.1) && decide (x_5.1 ≤ 10000000000) && inR x_5.2 (-50400) 50400 && shP x_5.1 (sh.drop (i + 1))) := by rw [hd_10]; rfl
  refine rg ?_
  refine H.u 21 (.pointer (some ⟨bu_6, ou_7 + i * 2, none⟩)) (ex_indexA (b := bu_6) (off := ou_7) (len := sh.length) (cap := c) (e := 76) (k := 2) (ik := .i64) (i := (i : Int)) (m := i) hA_8 (by kernel_rfl) (by kernel_rfl) (by omega) (by omega) (by kernel_rfl) (by kernel_rfl)) fun a H => H.u 22 (alV x_5) (ex_lN (alL x_5) (IsRow.cells altC_size (hr.below HP.bl) hA_8 hx_9)) fun a H => H.al HP 5 76 [(ii 0), (ii 0)] fun b_12 w_13 a H HP => H.st HP 0 b_12 0 2 76 true (alV x_5) [bx b_12 76 (alL x_5) true, bx b_1 26 [(ii off), (.slice A sh.length c)] true] rfl fun w_14 a H HP => ?_
  refine nl (tn (sq (sq (rg ?_))))
  refine H.v 23 (pt b_12 0) fun a H => H.u 24 (ii x_5.1) (ex_l1 (HP.cell 0 rfl 0 rfl)) fun a H => H.v 25 (ii last) fun a H => H.v 26 (.bool (decide (x_5.1 ≤ last))) fun a H => H.v 27 (.bool (decide (x_5.1 ≤ last))) fun a H => ?_
  refine H.split 27 rfl (fun g27 H => ?_) (fun g27 H => ?_)
  ·have g27p := of_decide_eq_true g27
   iterate 3 refine H.sx rfl fun a H => ?_
   iterate 2 refine H.vx rfl (.bool true) fun a H => ?_
   iterate 4 refine H.sx rfl fun a H => ?_
   refine H.vx rfl (.bool true) fun a H => ?_
   refine nl (tn ?_)
   refine w_ift H rfl ?_
   refine sq (rg ?_)
   refine H.v 2 (.bool false) fun a H => ?_
   refine nl (tn (rt (tr (ibr (tr (tr (ibr (tr ?_))))))))
   refine H.r1 (.bool false) Tryz.results69 ?_
   have hz : shP (-1) sh = false := by rw [hrel, hst]; (first | (rw [Bool.eq_iff_iff]; (try simp only [g10, g10p, g15, g15p, g20, g20p, g27, g27p]); (try simp only [Bool.and_eq_true, Bool.or_eq_true, Bool.not_eq_true', Bool.false_eq_true, decide_eq_true_eq, decide_eq_false_iff_not, inR_iff, inR_not, beq_iff_eq, bne_iff_ne, beq_eq_false_iff_ne, ne_eq, Bool.true_and, Bool.and_true, Bool.false_and, Bool.and_false, Bool.true_or, Bool.or_true, Bool.false_or, Bool.or_false, Bool.not_true, Bool.not_false, and_true, true_and, iff_true, true_iff, iff_false, false_iff, or_true, true_or, or_false, false_or, not_true_eq_false, not_false_eq_true, and_false, false_and]); first | omega | (simp; done) | (simp; omega)) | (simp [g10, g10p, g15, g15p, g20, g20p, g27, g27p]; done) | (simp [g10, g10p, g15, g15p, g20, g20p, g27, g27p] <;> simp [bne]))
   exact ⟨by unfold zoneP; rw [hz]; simp, HP.bl⟩
  have g27p := of_decide_eq_false g27
  refine H.v 28 (pt b_12 0) fun a H => H.u 29 (ii x_5.1) (ex_l1 (HP.cell 0 rfl 0 rfl)) fun a H => H.v 30 (.bool (decide (x_5.1 > 10000000000))) fun a H => H.v 31 (.bool (decide (x_5.1 > 10000000000))) fun a H => H.v 32 (.bool (decide (x_5.1 > 10000000000))) fun a H => ?_
  refine H.split 32 rfl (fun g32 H => ?_) (fun g32 H => ?_)
  ·have g32p := of_decide_eq_true g32
   iterate 4 refine H.sx rfl fun a H => ?_
   refine H.vx rfl (.bool true) fun a H => ?_
   refine nl (tn ?_)
   refine w_ift H rfl ?_
   refine sq (rg ?_)
   refine H.v 2 (.bool false) fun a H => ?_
   refine nl (tn (rt (tr (ibr (tr (tr (ibr (tr ?_))))))))
   refine H.r1 (.bool false) Tryz.results69 ?_
   have hz : shP (-1) sh = false := by rw [hrel, hst]; (first | (rw [Bool.eq_iff_iff]; (try simp only [g10, g10p, g15, g15p, g20, g20p, g27, g27p, g32, g32p]); (try simp only [Bool.and_eq_true, Bool.or_eq_true, Bool.not_eq_true', Bool.false_eq_true, decide_eq_true_eq, decide_eq_false_iff_not, inR_iff, inR_not, beq_iff_eq, bne_iff_ne, beq_eq_false_iff_ne, ne_eq, Bool.true_and, Bool.and_true, Bool.false_and, Bool.and_false, Bool.true_or, Bool.or_true, Bool.false_or, Bool.or_false, Bool.not_true, Bool.not_false, and_true, true_and, iff_true, true_iff, iff_false, false_iff, or_true, true_or, or_false, false_or, not_true_eq_false, not_false_eq_true, and_false, false_and]); first | omega | (simp; done) | (simp; omega)) | (simp [g10, g10p, g15, g15p, g20, g20p, g27, g27p, g32, g32p]; done) | (simp [g10, g10p, g15, g15p, g20, g20p, g27, g27p, g32, g32p] <;> simp [bne]))
   exact ⟨by unfold zoneP; rw [hz]; simp, HP.bl⟩
  have g32p := of_decide_eq_false g32
  refine H.v 33 (pt b_12 1) fun a H => H.u 34 (ii x_5.2) (ex_l1 (HP.cell 0 rfl 1 rfl)) fun a H => H.cb HP 35 (Tryz.call114 _ _) (isOffset_any x_5.2 w_14) fun w_15 hb a H HP => H.v 36 (.bool (!(inR x_5.2 (-50400) 50400))) fun a H => H.v 37 (.bool (!(inR x_5.2 (-50400) 50400))) fun a H => ?_
  refine nl (tn ?_)
  refine w_if H rfl (fun g37 => ?_) (fun g37 => ?_)
  ·have g37p := inR_not.1 (not_is_true g37)
   refine sq (rg ?_)
   refine H.v 2 (.bool false) fun a H => ?_
   refine nl (tn (rt (tr (ibr (tr (tr (ibr (tr ?_))))))))
   refine H.r1 (.bool false) Tryz.results69 ?_
   have hz : shP (-1) sh = false := by rw [hrel, hst]; (first | (rw [Bool.eq_iff_iff]; (try simp only [g10, g10p, g15, g15p, g20, g20p, g27, g27p, g32, g32p, g37, g37p]); (try simp only [Bool.and_eq_true, Bool.or_eq_true, Bool.not_eq_true', Bool.false_eq_true, decide_eq_true_eq, decide_eq_false_iff_not, inR_iff, inR_not, beq_iff_eq, bne_iff_ne, beq_eq_false_iff_ne, ne_eq, Bool.true_and, Bool.and_true, Bool.false_and, Bool.and_false, Bool.true_or, Bool.or_true, Bool.false_or, Bool.or_false, Bool.not_true, Bool.not_false, and_true, true_and, iff_true, true_iff, iff_false, false_iff, or_true, true_or, or_false, false_or, not_true_eq_false, not_false_eq_true, and_false, false_and]); first | omega | (simp; done) | (simp; omega)) | (simp [g10, g10p, g15, g15p, g20, g20p, g27, g27p, g32, g32p, g37, g37p]; done) | (simp [g10, g10p, g15, g15p, g20, g20p, g27, g27p, g32, g32p, g37, g37p] <;> simp [bne]))
   exact ⟨by unfold zoneP; rw [hz]; simp, HP.bl⟩
  have g37p := inR_iff.1 (not_is_false g37)
  refine sk (tn (rg ?_))
  refine H.v 38 (pt b_12 0) fun a H => H.u 39 (ii x_5.1) (ex_l1 (HP.cell 0 rfl 0 rfl)) fun a H => H.v 3 (ii x_5.1) fun a H => ?_
  refine nl (ibn (tn (rg ?_)))
  refine H.valE 40 (ii (IntKind.i64.wrap ((i : Int) + 1))) (ii ((i : Int) + 1)) (by kernel_rfl) (by kernel_rfl) ((by rw [wrap_ini64 _ (by omega)])) fun a H => H.v 19 (ii ((i : Int) + 1)) fun a H => ?_
  refine nl (tn ?_)
  have H := H.as 19 (ii ((i + 1 : Nat) : Int)) rfl rfl
  refine ⟨_, ?_, i + 1, x_5.1, rfl, H.keep (by kernel_rfl), (HP.tail rfl), (by omega), (by rw [hrel, hst, decide_eq_true (show last < x_5.1 by omega), decide_eq_true (show x_5.1 ≤ 10000000000 by omega), inR_iff.2 (show -50400 ≤ x_5.2 ∧ x_5.2 ≤ 50400 by omega)]; rfl)⟩
  omega
 have g20p := of_decide_eq_false g20
 refine wp_exit (then_exit (then_exit ?_))
 refine w_exit_here ?_
 refine tn (sq (rg ?_))
 refine H.v 2 (.bool true) fun a H => ?_
 refine nl (tn (rt ?_))
 refine H.r1 (.bool true) Tryz.results69 ?_
 have hz : shP (-1) sh = true := by rw [hrel, List.drop_eq_nil_of_le (by omega)]; rfl
 exact ⟨by rw [show zoneP off sh = true from by (first | (rw [Bool.eq_iff_iff]; (try simp only [zoneP, hz, g10, g10p, g15, g15p, g20, g20p]); (try simp only [Bool.and_eq_true, Bool.or_eq_true, Bool.not_eq_true', Bool.false_eq_true, decide_eq_true_eq, decide_eq_false_iff_not, inR_iff, inR_not, beq_iff_eq, bne_iff_ne, beq_eq_false_iff_ne, ne_eq, Bool.true_and, Bool.and_true, Bool.false_and, Bool.and_false, Bool.true_or, Bool.or_true, Bool.false_or, Bool.or_false, Bool.not_true, Bool.not_false, and_true, true_and, iff_true, true_iff, iff_false, false_iff, or_true, true_or, or_false, false_or, not_true_eq_false, not_false_eq_true, and_false, false_and]); first | omega | (simp; done) | (simp; omega)) | (simp [zoneP, hz, g10, g10p, g15, g15p, g20, g20p]; done) | (simp [zoneP, hz, g10, g10p, g15, g15p, g20, g20p] <;> simp [bne]))], HP.bl⟩
end Go.Proofs.YteeillphhiaopaaGreatDoor
namespace Go.Proofs.YteeillphhiaopaaGreatDoor
set_option maxRecDepth 100000
set_option maxHeartbeats 4000000
open Go.ChangeShapes Go.WideShapes Go.ChangeAt Go.RowKit
set_option linter.unusedVariables false
set_option linter.unusedSimpArgs false
def bookC (p : Pln) (m1 m2 : Nat) : List Value := plC p ++ [.map (some m1), .map (some m2)]
structure BookAt (w : World) (b m1 m2 : Nat) (p : Pln) : Prop where
 box : Box w b 67 (bookC p m1 m2).toArray
 m1 : MapAt w m1 (itM p.its)
 m2 : MapAt w m2 (bkM p.bs)
 pl : IsPln w p
theorem BookAt.below {w w' : World} {b m1 m2 : Nat} {p : Pln} (h : BookAt w b m1 m2 p) (hb : Below w.heap.size w w') : BookAt w' b m1 m2 p := ⟨h.box.next hb, h.m1.next hb, h.m2.next hb, h.pl.below hb⟩
theorem gI_frames {its : List Itm} (h : its.all itemP = true) (k : Int) : 0 ≤ (gI its k).frames ∧ (gI its k).frames ≤ 100000000 := by
 unfold gI fI
 cases hf : its.find? fun x => x.id == k with
 | none => simp [itZ]
 | some x =>
  have := List.all_eq_true.1 h x (List.mem_of_find?_eq_some hf)
  simp only [itemP, Bool.and_eq_true, inR_iff] at this
  simp only [Option.getD_some]
  omega
theorem any_hit {r t : Int} {a : Int × Int} (h : ([r, t] : List Int) = [a.1, a.2]) : (a.1 == r && a.2 == t) = true := by
 simp only [List.cons.injEq, and_true] at h
 simp [← h.1, ← h.2]
theorem any_miss {r t : Int} {a : Int × Int} (h : ([r, t] : List Int) ≠ [a.1, a.2]) : (a.1 == r && a.2 == t) = false := by
 rw [← Bool.not_eq_true]
 intro hh
 simp only [Bool.and_eq_true, beq_iff_eq] at hh
 exact h (by rw [hh.1, hh.2])
theorem fits_any (x : Ent) (b m1 m2 : Nat) (p : Pln) (w : World) (hBk : BookAt w b m1 m2 p) (hlen : 1 ≤ p.length ∧ p.length ≤ 100000000) (hits : p.its.all itemP = true) : Calls Tryz.prog 72 #[.pointer (some ⟨b, 0, none⟩), (enV x)] w fun e w' => e = .returned (.bool (fitsP p.its p.length x)) ∧ Below w.heap.size w w' := by
 have HP := Hp.start w
 have hgb := gI_frames hits x.item
 refine w_enter 65 [(0, (pt b 0)), (1, (enV x))] Tryz.func72 rfl Tryz.ntmps72 (by kernel_rfl) (by kernel_rfl) fun a H => ?_
 refine sq (rg ?_)
 refine H.al HP 3 43 (enL x) fun b_1 w_2 a H HP => H.v 4 (.bool false) fun a H => ?_
 refine nl (tn (sq ?_))
 refine An.start (fun v => Hp w v [bx b_1 43 (enL x) true] []) 13 13 HP wide_follows rfl fun w_3 HP => ?_
 refine An.p H (.inr HP) 0 8 (pt b 0) fun a H => ?_
 refine An.p H (.inr HP) 1 9 (pt b 0) fun a H => ?_
 refine An.p H (.inr HP) 2 10 (pt b 13) fun a H => ?_
 refine An.vw H (HP) 3 11 (.map (some m1)) (fun _ hS => ex_l1 ((hBk.below (hS.below (by kernel_rfl))).box.cell (i := 13) rfl)) fun a H => ?_
 refine An.p H (.inr HP) 4 12 (pt b_1 1) fun a H => ?_
 refine An.vw H (HP) 5 13 (ii x.item) (fun _ hS => ex_l1 (hS.cell 0 rfl 1 rfl)) fun a H => ?_
 refine An.vw H (HP) 6 14 (.tuple #[(itV (gI p.its x.item)), (.bool (hI p.its x.item))]) (fun _ hS => ex_lookI2 (l := p.its) (kt := 3) (et := 38) (s1 := 5) (s2 := 40) (by kernel_rfl) (by kernel_rfl) (by kernel_rfl) (by kernel_rfl) (by kernel_rfl) ((hBk.below (hS.below (by kernel_rfl))).m1)) fun a H => ?_
 refine An.q H (.inr (HP)) 7 7 (.tuple #[(itV (gI p.its x.item)), (.bool (hI p.its x.item))]) (fun _ => by kernel_rfl) fun a H => ?_
 refine An.q H (.inr (HP)) 8 15 (itV (gI p.its x.item)) (fun _ => by kernel_rfl) fun a H => ?_
 refine An.p H (.inr HP) 9 16 (.bool (hI p.its x.item)) fun a H => ?_
 refine An.one 10 (by kernel_rfl) ?_
 refine Op.alloc H HP 5 (fun b => (pt b 0)) 38 [(ii 0), (ii 0), (ii 0), (ii 0), (ii 0)] rfl (by kernel_rfl) (fun w => by kernel_rfl) fun b_4 w_5 a H HP => ?_
 refine ⟨.inr ((HP.tail rfl)), ?_⟩
 refine An.one 11 (by kernel_rfl) ?_
 refine Op.store H HP 0 b_4 0 5 38 [(ii 0), (ii 0), (ii 0), (ii 0), (ii 0)] true (itV (gI p.its x.item)) [bx b_4 38 (itL (gI p.its x.item)) true, bx b_1 43 (enL x) true] rfl (by kernel_rfl) (by kernel_rfl) (by kernel_rfl) rfl (by kernel_rfl) (by kernel_rfl) (by kernel_rfl) (by kernel_rfl) (by kernel_rfl) fun w_6 a H HP => ?_
 refine ⟨.inr ((HP.tail rfl)), ?_⟩
 refine An.p H (.inr ((HP.tail rfl))) 12 6 (.bool (hI p.its x.item)) fun a H => ?_
 refine An.done (by kernel_rfl) ?_
 refine tn (sq (sq (rg ?_)))
 refine H.v 17 (.bool (hI p.its x.item)) fun a H => H.v 18 (.bool (!(hI p.its x.item))) fun a H => H.v 19 (.bool (!(hI p.its x.item))) fun a H => ?_
 refine H.split 19 rfl (fun g19 H => ?_) (fun g19 H => ?_)
 ·have g19p := not_is_true g19
  iterate 3 refine H.sx rfl fun a H => ?_
  iterate 2 refine H.vx rfl (.bool true) fun a H => ?_
  iterate 6 refine H.sx rfl fun a H => ?_
  refine H.vx rfl (.bool true) fun a H => ?_
  refine nl (tn ?_)
  refine w_ift H rfl ?_
  refine sq (rg ?_)
  refine H.v 4 (.bool false) fun a H => ?_
  refine nl (tn (rt (tr ?_)))
  refine H.r1 (.bool false) Tryz.results72 ?_
  exact ⟨by rw [show fitsP p.its p.length x = (false) from by (first | (rw [Bool.eq_iff_iff]; (try simp only [fitsP, g19, g19p]); (try simp only [Bool.and_eq_true, Bool.or_eq_true, Bool.not_eq_true', Bool.false_eq_true, decide_eq_true_eq, decide_eq_false_iff_not, inR_iff, inR_not, beq_iff_eq, bne_iff_ne, beq_eq_false_iff_ne, ne_eq, Bool.true_and, Bool.and_true, Bool.false_and, Bool.and_false, Bool.true_or, Bool.or_true, Bool.false_or, Bool.or_false, Bool.not_true, Bool.not_false, and_true, true_and, iff_true, true_iff, iff_false, false_iff, or_true, true_or, or_false, false_or, not_true_eq_false, not_false_eq_true, and_false, false_and]); first | omega | (simp; done) | (simp; omega)) | (simp [fitsP, g19, g19p]; done) | (simp [fitsP, g19, g19p] <;> simp [bne]))], HP.bl⟩
 have g19p := not_is_false g19
 refine H.v 20 (pt b_4 1) fun a H => H.u 21 (ii ((gI p.its x.item).kind)) (ex_l1 (HP.cell 0 rfl 1 rfl)) fun a H => H.v 22 (.bool (((gI p.its x.item).kind) == 5)) fun a H => H.v 23 (.bool (((gI p.its x.item).kind) == 5)) fun a H => H.v 24 (.bool (((gI p.its x.item).kind) == 5)) fun a H => ?_
 refine H.split 24 rfl (fun g24 H => ?_) (fun g24 H => ?_)
 ·have g24p := eq_of_beq g24
  iterate 6 refine H.sx rfl fun a H => ?_
  refine H.vx rfl (.bool true) fun a H => ?_
  refine nl (tn ?_)
  refine w_ift H rfl ?_
  refine sq (rg ?_)
  refine H.v 4 (.bool false) fun a H => ?_
  refine nl (tn (rt (tr ?_)))
  refine H.r1 (.bool false) Tryz.results72 ?_
  exact ⟨by rw [show fitsP p.its p.length x = (false) from by (first | (rw [Bool.eq_iff_iff]; (try simp only [fitsP, g19, g19p, g24, g24p]); (try simp only [Bool.and_eq_true, Bool.or_eq_true, Bool.not_eq_true', Bool.false_eq_true, decide_eq_true_eq, decide_eq_false_iff_not, inR_iff, inR_not, beq_iff_eq, bne_iff_ne, beq_eq_false_iff_ne, ne_eq, Bool.true_and, Bool.and_true, Bool.false_and, Bool.and_false, Bool.true_or, Bool.or_true, Bool.false_or, Bool.or_false, Bool.not_true, Bool.not_false, and_true, true_and, iff_true, true_iff, iff_false, false_iff, or_true, true_or, or_false, false_or, not_true_eq_false, not_false_eq_true, and_false, false_and]); first | omega | (simp; done) | (simp; omega)) | (simp [fitsP, g19, g19p, g24, g24p]; done) | (simp [fitsP, g19, g19p, g24, g24p] <;> simp [bne]))], HP.bl⟩
 have g24p := ne_of_beq_false g24
 refine H.v 25 (pt b_1 2) fun a H => H.u 26 (ii x.frames) (ex_l1 (HP.cell 1 rfl 2 rfl)) fun a H => H.v 27 (pt b_4 2) fun a H => H.u 28 (ii ((gI p.its x.item).frames)) (ex_l1 (HP.cell 0 rfl 2 rfl)) fun a H => H.cb HP 29 (Tryz.call67 _ _) (within_any x.frames 1 ((gI p.its x.item).frames) w_6) fun w_7 hb a H HP => H.v 30 (.bool (!(inR x.frames 1 ((gI p.its x.item).frames)))) fun a H => H.v 31 (.bool (!(inR x.frames 1 ((gI p.its x.item).frames)))) fun a H => ?_
 refine nl (tn ?_)
 refine w_if H rfl (fun g31 => ?_) (fun g31 => ?_)
 ·have g31p := inR_not.1 (not_is_true g31)
  refine sq (rg ?_)
  refine H.v 4 (.bool false) fun a H => ?_
  refine nl (tn (rt (tr ?_)))
  refine H.r1 (.bool false) Tryz.results72 ?_
  exact ⟨by rw [show fitsP p.its p.length x = (false) from by (first | (rw [Bool.eq_iff_iff]; (try simp only [fitsP, g19, g19p, g24, g24p, g31, g31p]); (try simp only [Bool.and_eq_true, Bool.or_eq_true, Bool.not_eq_true', Bool.false_eq_true, decide_eq_true_eq, decide_eq_false_iff_not, inR_iff, inR_not, beq_iff_eq, bne_iff_ne, beq_eq_false_iff_ne, ne_eq, Bool.true_and, Bool.and_true, Bool.false_and, Bool.and_false, Bool.true_or, Bool.or_true, Bool.false_or, Bool.or_false, Bool.not_true, Bool.not_false, and_true, true_and, iff_true, true_iff, iff_false, false_iff, or_true, true_or, or_false, false_or, not_true_eq_false, not_false_eq_true, and_false, false_and]); first | omega | (simp; done) | (simp; omega)) | (simp [fitsP, g19, g19p, g24, g24p, g31, g31p]; done) | (simp [fitsP, g19, g19p, g24, g24p, g31, g31p] <;> simp [bne]))], HP.bl⟩
 have g31p := inR_iff.1 (not_is_false g31)
 refine sk (tn (sq (sq (rg ?_))))
 refine H.v 32 (pt b_4 1) fun a H => H.u 33 (ii ((gI p.its x.item).kind)) (ex_l1 (HP.cell 0 rfl 1 rfl)) fun a H => H.v 34 (.bool (((gI p.its x.item).kind) != 4)) fun a H => H.v 35 (.bool (((gI p.its x.item).kind) != 4)) fun a H => ?_
 refine H.split 35 rfl (fun g35 H => ?_) (fun g35 H => ?_)
 ·have g35p := bne_iff_ne.1 g35
  refine H.v 36 (pt b_1 2) fun a H => H.u 37 (ii x.frames) (ex_l1 (HP.cell 1 rfl 2 rfl)) fun a H => H.v 38 (pt b_4 2) fun a H => H.u 39 (ii ((gI p.its x.item).frames)) (ex_l1 (HP.cell 0 rfl 2 rfl)) fun a H => H.v 40 (.bool (x.frames != ((gI p.its x.item).frames))) fun a H => H.v 41 (.bool (x.frames != ((gI p.its x.item).frames))) fun a H => ?_
  refine nl (tn ?_)
  refine w_if H rfl (fun g41 => ?_) (fun g41 => ?_)
  ·have g41p := bne_iff_ne.1 g41
   refine sq (rg ?_)
   refine H.v 4 (.bool false) fun a H => ?_
   refine nl (tn (rt (tr ?_)))
   refine H.r1 (.bool false) Tryz.results72 ?_
   exact ⟨by rw [show fitsP p.its p.length x = (false) from by (first | (rw [Bool.eq_iff_iff]; (try simp only [fitsP, g19, g19p, g24, g24p, g31, g31p, g35, g35p, g41, g41p]); (try simp only [Bool.and_eq_true, Bool.or_eq_true, Bool.not_eq_true', Bool.false_eq_true, decide_eq_true_eq, decide_eq_false_iff_not, inR_iff, inR_not, beq_iff_eq, bne_iff_ne, beq_eq_false_iff_ne, ne_eq, Bool.true_and, Bool.and_true, Bool.false_and, Bool.and_false, Bool.true_or, Bool.or_true, Bool.false_or, Bool.or_false, Bool.not_true, Bool.not_false, and_true, true_and, iff_true, true_iff, iff_false, false_iff, or_true, true_or, or_false, false_or, not_true_eq_false, not_false_eq_true, and_false, false_and]); first | omega | (simp; done) | (simp; omega)) | (simp [fitsP, g19, g19p, g24, g24p, g31, g31p, g35, g35p, g41, g41p]; done) | (simp [fitsP, g19, g19p, g24, g24p, g31, g31p, g35, g35p, g41, g41p] <;> simp [bne]))], HP.bl⟩
  have g41p := eq_of_bne_false g41
  refine sk (tn (sq ?_))
  refine An.start (fun v => Hp w v [bx b_4 38 (itL (gI p.its x.item)) true, bx b_1 43 (enL x) true] []) 24 24 HP wide_follows rfl fun w_8 HP => ?_
  refine An.p H (.inr HP) 0 42 (pt b_1 3) fun a H => ?_
  refine An.vw H (HP) 1 43 (ii x.earliest) (fun _ hS => ex_l1 (hS.cell 1 rfl 3 rfl)) fun a H => ?_
  refine An.p H (.inr HP) 2 44 (.bool (decide (0 ≤ x.earliest))) fun a H => ?_
  refine An.p H (.inr HP) 3 45 (.bool (decide (0 ≤ x.earliest))) fun a H => ?_
  refine H.split 45 rfl (fun g45 H => ?_) (fun g45 H => ?_)
  ·have g45p := of_decide_eq_true g45
   refine An.p H (.inr HP) 4 46 (pt b_1 3) fun a H => ?_
   refine An.vw H (HP) 5 47 (ii x.earliest) (fun _ hS => ex_l1 (hS.cell 1 rfl 3 rfl)) fun a H => ?_
   refine An.p H (.inr HP) 6 48 (pt b_1 4) fun a H => ?_
   refine An.vw H (HP) 7 49 (ii x.latest) (fun _ hS => ex_l1 (hS.cell 1 rfl 4 rfl)) fun a H => ?_
   refine An.p H (.inr HP) 8 50 (.bool (decide (x.earliest ≤ x.latest))) fun a H => ?_
   refine An.p H (.inr HP) 9 51 (.bool (decide (x.earliest ≤ x.latest))) fun a H => ?_
   refine An.p H (.inr HP) 10 52 (.bool (decide (x.earliest ≤ x.latest))) fun a H => ?_
   refine H.split 52 rfl (fun g52 H => ?_) (fun g52 H => ?_)
   ·have g52p := of_decide_eq_true g52
    refine An.p H (.inr HP) 11 53 (pt b_1 4) fun a H => ?_
    refine An.vw H (HP) 12 54 (ii x.latest) (fun _ hS => ex_l1 (hS.cell 1 rfl 4 rfl)) fun a H => ?_
    refine An.p H (.inr HP) 13 55 (pt b 0) fun a H => ?_
    refine An.p H (.inr HP) 14 56 (pt b 0) fun a H => ?_
    refine An.p H (.inr HP) 15 57 (pt b 0) fun a H => ?_
    refine An.p H (.inr HP) 16 58 (pt b 7) fun a H => ?_
    refine An.vw H (HP) 17 59 (ii p.length) (fun _ hS => ex_l1 ((hBk.below (hS.below (by kernel_rfl))).box.cell (i := 7) rfl)) fun a H => ?_
    refine An.p H (.inr HP) 18 60 (pt b_1 2) fun a H => ?_
    refine An.vw H (HP) 19 61 (ii x.frames) (fun _ hS => ex_l1 (hS.cell 1 rfl 2 rfl)) fun a H => ?_
    have hfr : 1 ≤ x.frames ∧ x.frames ≤ (gI p.its x.item).frames := ‹1 ≤ x.frames ∧ x.frames ≤ (gI p.its x.item).frames›
    have hfr : 1 ≤ x.frames ∧ x.frames ≤ (gI p.its x.item).frames := ‹1 ≤ x.frames ∧ x.frames ≤ (gI p.its x.item).frames›
    refine An.pureE H (.inr (HP)) 20 62 (ii (IntKind.i64.wrap (p.length - x.frames))) (ii (p.length - x.frames)) rfl (by kernel_rfl) (by kernel_rfl) (fun _ _ _ h => h) (fun _ => by kernel_rfl) ((by rw [wrap_ini64 _ (by omega)])) fun a H => ?_
    refine An.p H (.inr HP) 21 63 (.bool (decide (x.latest ≤ (p.length - x.frames)))) fun a H => ?_
    refine An.p H (.inr HP) 22 64 (.bool (decide (x.latest ≤ (p.length - x.frames)))) fun a H => ?_
    refine An.p H (.inr HP) 23 4 (.bool (decide (x.latest ≤ (p.length - x.frames)))) fun a H => ?_
    refine An.done (by kernel_rfl) ?_
    refine tn (rt ?_)
    refine H.r1 (.bool (decide (x.latest ≤ (p.length - x.frames)))) Tryz.results72 ?_
    exact ⟨by rw [show fitsP p.its p.length x = (decide (x.latest ≤ (p.length - x.frames))) from by (first | (rw [Bool.eq_iff_iff]; (try simp only [fitsP, g19, g19p, g24, g24p, g31, g31p, g35, g35p, g41, g41p, g45, g45p, g52, g52p]); (try simp only [Bool.and_eq_true, Bool.or_eq_true, Bool.not_eq_true', Bool.false_eq_true, decide_eq_true_eq, decide_eq_false_iff_not, inR_iff, inR_not, beq_iff_eq, bne_iff_ne, beq_eq_false_iff_ne, ne_eq, Bool.true_and, Bool.and_true, Bool.false_and, Bool.and_false, Bool.true_or, Bool.or_true, Bool.false_or, Bool.or_false, Bool.not_true, Bool.not_false, and_true, true_and, iff_true, true_iff, iff_false, false_iff, or_true, true_or, or_false, false_or, not_true_eq_false, not_false_eq_true, and_false, false_and]); first | omega | (simp; done) | (simp; omega)) | (simp [fitsP, g19, g19p, g24, g24p, g31, g31p, g35, g35p, g41, g41p, g45, g45p, g52, g52p]; done) | (simp [fitsP, g19, g19p, g24, g24p, g31, g31p, g35, g35p, g41, g41p, g45, g45p, g52, g52p] <;> simp [bne]))], HP.bl⟩
   have g52p := of_decide_eq_false g52
   refine An.s H (.inr HP) 11 53 fun a H => ?_
   refine An.s H (.inr HP) 12 54 fun a H => ?_
   refine An.s H (.inr HP) 13 55 fun a H => ?_
   refine An.s H (.inr HP) 14 56 fun a H => ?_
   refine An.s H (.inr HP) 15 57 fun a H => ?_
   refine An.s H (.inr HP) 16 58 fun a H => ?_
   refine An.s H (.inr HP) 17 59 fun a H => ?_
   refine An.s H (.inr HP) 18 60 fun a H => ?_
   refine An.s H (.inr HP) 19 61 fun a H => ?_
   refine An.s H (.inr HP) 20 62 fun a H => ?_
   refine An.s H (.inr HP) 21 63 fun a H => ?_
   refine An.p H (.inr HP) 22 64 (.bool false) fun a H => ?_
   refine An.p H (.inr HP) 23 4 (.bool false) fun a H => ?_
   refine An.done (by kernel_rfl) ?_
   refine tn (rt ?_)
   refine H.r1 (.bool false) Tryz.results72 ?_
   exact ⟨by rw [show fitsP p.its p.length x = (false) from by (first | (rw [Bool.eq_iff_iff]; (try simp only [fitsP, g19, g19p, g24, g24p, g31, g31p, g35, g35p, g41, g41p, g45, g45p, g52, g52p]); (try simp only [Bool.and_eq_true, Bool.or_eq_true, Bool.not_eq_true', Bool.false_eq_true, decide_eq_true_eq, decide_eq_false_iff_not, inR_iff, inR_not, beq_iff_eq, bne_iff_ne, beq_eq_false_iff_ne, ne_eq, Bool.true_and, Bool.and_true, Bool.false_and, Bool.and_false, Bool.true_or, Bool.or_true, Bool.false_or, Bool.or_false, Bool.not_true, Bool.not_false, and_true, true_and, iff_true, true_iff, iff_false, false_iff, or_true, true_or, or_false, false_or, not_true_eq_false, not_false_eq_true, and_false, false_and]); first | omega | (simp; done) | (simp; omega)) | (simp [fitsP, g19, g19p, g24, g24p, g31, g31p, g35, g35p, g41, g41p, g45, g45p, g52, g52p]; done) | (simp [fitsP, g19, g19p, g24, g24p, g31, g31p, g35, g35p, g41, g41p, g45, g45p, g52, g52p] <;> simp [bne]))], HP.bl⟩
  have g45p := of_decide_eq_false g45
  refine An.s H (.inr HP) 4 46 fun a H => ?_
  refine An.s H (.inr HP) 5 47 fun a H => ?_
  refine An.s H (.inr HP) 6 48 fun a H => ?_
  refine An.s H (.inr HP) 7 49 fun a H => ?_
  refine An.s H (.inr HP) 8 50 fun a H => ?_
  refine An.p H (.inr HP) 9 51 (.bool false) fun a H => ?_
  refine An.p H (.inr HP) 10 52 (.bool false) fun a H => ?_
  refine An.s H (.inr HP) 11 53 fun a H => ?_
  refine An.s H (.inr HP) 12 54 fun a H => ?_
  refine An.s H (.inr HP) 13 55 fun a H => ?_
  refine An.s H (.inr HP) 14 56 fun a H => ?_
  refine An.s H (.inr HP) 15 57 fun a H => ?_
  refine An.s H (.inr HP) 16 58 fun a H => ?_
  refine An.s H (.inr HP) 17 59 fun a H => ?_
  refine An.s H (.inr HP) 18 60 fun a H => ?_
  refine An.s H (.inr HP) 19 61 fun a H => ?_
  refine An.s H (.inr HP) 20 62 fun a H => ?_
  refine An.s H (.inr HP) 21 63 fun a H => ?_
  refine An.p H (.inr HP) 22 64 (.bool false) fun a H => ?_
  refine An.p H (.inr HP) 23 4 (.bool false) fun a H => ?_
  refine An.done (by kernel_rfl) ?_
  refine tn (rt ?_)
  refine H.r1 (.bool false) Tryz.results72 ?_
  exact ⟨by rw [show fitsP p.its p.length x = (false) from by (first | (rw [Bool.eq_iff_iff]; (try simp only [fitsP, g19, g19p, g24, g24p, g31, g31p, g35, g35p, g41, g41p, g45, g45p]); (try simp only [Bool.and_eq_true, Bool.or_eq_true, Bool.not_eq_true', Bool.false_eq_true, decide_eq_true_eq, decide_eq_false_iff_not, inR_iff, inR_not, beq_iff_eq, bne_iff_ne, beq_eq_false_iff_ne, ne_eq, Bool.true_and, Bool.and_true, Bool.false_and, Bool.and_false, Bool.true_or, Bool.or_true, Bool.false_or, Bool.or_false, Bool.not_true, Bool.not_false, and_true, true_and, iff_true, true_iff, iff_false, false_iff, or_true, true_or, or_false, false_or, not_true_eq_false, not_false_eq_true, and_false, false_and]); first | omega | (simp; done) | (simp; omega)) | (simp [fitsP, g19, g19p, g24, g24p, g31, g31p, g35, g35p, g41, g41p, g45, g45p]; done) | (simp [fitsP, g19, g19p, g24, g24p, g31, g31p, g35, g35p, g41, g41p, g45, g45p] <;> simp [bne]))], HP.bl⟩
 have g35p := eq_of_bne_false g35
 iterate 5 refine H.sx rfl fun a H => ?_
 refine H.v 41 (.bool false) fun a H => ?_
 refine nl (tn ?_)
 refine w_iff H rfl ?_
 refine sk (tn (sq ?_))
 refine An.start (fun v => Hp w v [bx b_4 38 (itL (gI p.its x.item)) true, bx b_1 43 (enL x) true] []) 24 24 HP wide_follows rfl fun w_9 HP => ?_
 refine An.p H (.inr HP) 0 42 (pt b_1 3) fun a H => ?_
 refine An.vw H (HP) 1 43 (ii x.earliest) (fun _ hS => ex_l1 (hS.cell 1 rfl 3 rfl)) fun a H => ?_
 refine An.p H (.inr HP) 2 44 (.bool (decide (0 ≤ x.earliest))) fun a H => ?_
 refine An.p H (.inr HP) 3 45 (.bool (decide (0 ≤ x.earliest))) fun a H => ?_
 refine H.split 45 rfl (fun g45 H => ?_) (fun g45 H => ?_)
 ·have g45p := of_decide_eq_true g45
  refine An.p H (.inr HP) 4 46 (pt b_1 3) fun a H => ?_
  refine An.vw H (HP) 5 47 (ii x.earliest) (fun _ hS => ex_l1 (hS.cell 1 rfl 3 rfl)) fun a H => ?_
  refine An.p H (.inr HP) 6 48 (pt b_1 4) fun a H => ?_
  refine An.vw H (HP) 7 49 (ii x.latest) (fun _ hS => ex_l1 (hS.cell 1 rfl 4 rfl)) fun a H => ?_
  refine An.p H (.inr HP) 8 50 (.bool (decide (x.earliest ≤ x.latest))) fun a H => ?_
  refine An.p H (.inr HP) 9 51 (.bool (decide (x.earliest ≤ x.latest))) fun a H => ?_
  refine An.p H (.inr HP) 10 52 (.bool (decide (x.earliest ≤ x.latest))) fun a H => ?_
  refine H.split 52 rfl (fun g52 H => ?_) (fun g52 H => ?_)
  ·have g52p := of_decide_eq_true g52
   refine An.p H (.inr HP) 11 53 (pt b_1 4) fun a H => ?_
   refine An.vw H (HP) 12 54 (ii x.latest) (fun _ hS => ex_l1 (hS.cell 1 rfl 4 rfl)) fun a H => ?_
   refine An.p H (.inr HP) 13 55 (pt b 0) fun a H => ?_
   refine An.p H (.inr HP) 14 56 (pt b 0) fun a H => ?_
   refine An.p H (.inr HP) 15 57 (pt b 0) fun a H => ?_
   refine An.p H (.inr HP) 16 58 (pt b 7) fun a H => ?_
   refine An.vw H (HP) 17 59 (ii p.length) (fun _ hS => ex_l1 ((hBk.below (hS.below (by kernel_rfl))).box.cell (i := 7) rfl)) fun a H => ?_
   refine An.p H (.inr HP) 18 60 (pt b_1 2) fun a H => ?_
   refine An.vw H (HP) 19 61 (ii x.frames) (fun _ hS => ex_l1 (hS.cell 1 rfl 2 rfl)) fun a H => ?_
   have hfr : 1 ≤ x.frames ∧ x.frames ≤ (gI p.its x.item).frames := ‹1 ≤ x.frames ∧ x.frames ≤ (gI p.its x.item).frames›
   have hfr : 1 ≤ x.frames ∧ x.frames ≤ (gI p.its x.item).frames := ‹1 ≤ x.frames ∧ x.frames ≤ (gI p.its x.item).frames›
   refine An.pureE H (.inr (HP)) 20 62 (ii (IntKind.i64.wrap (p.length - x.frames))) (ii (p.length - x.frames)) rfl (by kernel_rfl) (by kernel_rfl) (fun _ _ _ h => h) (fun _ => by kernel_rfl) ((by rw [wrap_ini64 _ (by omega)])) fun a H => ?_
   refine An.p H (.inr HP) 21 63 (.bool (decide (x.latest ≤ (p.length - x.frames)))) fun a H => ?_
   refine An.p H (.inr HP) 22 64 (.bool (decide (x.latest ≤ (p.length - x.frames)))) fun a H => ?_
   refine An.p H (.inr HP) 23 4 (.bool (decide (x.latest ≤ (p.length - x.frames)))) fun a H => ?_
   refine An.done (by kernel_rfl) ?_
   refine tn (rt ?_)
   refine H.r1 (.bool (decide (x.latest ≤ (p.length - x.frames)))) Tryz.results72 ?_
   exact ⟨by rw [show fitsP p.its p.length x = (decide (x.latest ≤ (p.length - x.frames))) from by (first | (rw [Bool.eq_iff_iff]; (try simp only [fitsP, g19, g19p, g24, g24p, g31, g31p, g35, g35p, g45, g45p, g52, g52p]); (try simp only [Bool.and_eq_true, Bool.or_eq_true, Bool.not_eq_true', Bool.false_eq_true, decide_eq_true_eq, decide_eq_false_iff_not, inR_iff, inR_not, beq_iff_eq, bne_iff_ne, beq_eq_false_iff_ne, ne_eq, Bool.true_and, Bool.and_true, Bool.false_and, Bool.and_false, Bool.true_or, Bool.or_true, Bool.false_or, Bool.or_false, Bool.not_true, Bool.not_false, and_true, true_and, iff_true, true_iff, iff_false, false_iff, or_true, true_or, or_false, false_or, not_true_eq_false, not_false_eq_true, and_false, false_and]); first | omega | (simp; done) | (simp; omega)) | (simp [fitsP, g19, g19p, g24, g24p, g31, g31p, g35, g35p, g45, g45p, g52, g52p]; done) | (simp [fitsP, g19, g19p, g24, g24p, g31, g31p, g35, g35p, g45, g45p, g52, g52p] <;> simp [bne]))], HP.bl⟩
  have g52p := of_decide_eq_false g52
  refine An.s H (.inr HP) 11 53 fun a H => ?_
  refine An.s H (.inr HP) 12 54 fun a H => ?_
  refine An.s H (.inr HP) 13 55 fun a H => ?_
  refine An.s H (.inr HP) 14 56 fun a H => ?_
  refine An.s H (.inr HP) 15 57 fun a H => ?_
  refine An.s H (.inr HP) 16 58 fun a H => ?_
  refine An.s H (.inr HP) 17 59 fun a H => ?_
  refine An.s H (.inr HP) 18 60 fun a H => ?_
  refine An.s H (.inr HP) 19 61 fun a H => ?_
  refine An.s H (.inr HP) 20 62 fun a H => ?_
  refine An.s H (.inr HP) 21 63 fun a H => ?_
  refine An.p H (.inr HP) 22 64 (.bool false) fun a H => ?_
  refine An.p H (.inr HP) 23 4 (.bool false) fun a H => ?_
  refine An.done (by kernel_rfl) ?_
  refine tn (rt ?_)
  refine H.r1 (.bool false) Tryz.results72 ?_
  exact ⟨by rw [show fitsP p.its p.length x = (false) from by (first | (rw [Bool.eq_iff_iff]; (try simp only [fitsP, g19, g19p, g24, g24p, g31, g31p, g35, g35p, g45, g45p, g52, g52p]); (try simp only [Bool.and_eq_true, Bool.or_eq_true, Bool.not_eq_true', Bool.false_eq_true, decide_eq_true_eq, decide_eq_false_iff_not, inR_iff, inR_not, beq_iff_eq, bne_iff_ne, beq_eq_false_iff_ne, ne_eq, Bool.true_and, Bool.and_true, Bool.false_and, Bool.and_false, Bool.true_or, Bool.or_true, Bool.false_or, Bool.or_false, Bool.not_true, Bool.not_false, and_true, true_and, iff_true, true_iff, iff_false, false_iff, or_true, true_or, or_false, false_or, not_true_eq_false, not_false_eq_true, and_false, false_and]); first | omega | (simp; done) | (simp; omega)) | (simp [fitsP, g19, g19p, g24, g24p, g31, g31p, g35, g35p, g45, g45p, g52, g52p]; done) | (simp [fitsP, g19, g19p, g24, g24p, g31, g31p, g35, g35p, g45, g45p, g52, g52p] <;> simp [bne]))], HP.bl⟩
 have g45p := of_decide_eq_false g45
 refine An.s H (.inr HP) 4 46 fun a H => ?_
 refine An.s H (.inr HP) 5 47 fun a H => ?_
 refine An.s H (.inr HP) 6 48 fun a H => ?_
 refine An.s H (.inr HP) 7 49 fun a H => ?_
 refine An.s H (.inr HP) 8 50 fun a H => ?_
 refine An.p H (.inr HP) 9 51 (.bool false) fun a H => ?_
 refine An.p H (.inr HP) 10 52 (.bool false) fun a H => ?_
 refine An.s H (.inr HP) 11 53 fun a H => ?_
 refine An.s H (.inr HP) 12 54 fun a H => ?_
 refine An.s H (.inr HP) 13 55 fun a H => ?_
 refine An.s H (.inr HP) 14 56 fun a H => ?_
 refine An.s H (.inr HP) 15 57 fun a H => ?_
 refine An.s H (.inr HP) 16 58 fun a H => ?_
 refine An.s H (.inr HP) 17 59 fun a H => ?_
 refine An.s H (.inr HP) 18 60 fun a H => ?_
 refine An.s H (.inr HP) 19 61 fun a H => ?_
 refine An.s H (.inr HP) 20 62 fun a H => ?_
 refine An.s H (.inr HP) 21 63 fun a H => ?_
 refine An.p H (.inr HP) 22 64 (.bool false) fun a H => ?_
 refine An.p H (.inr HP) 23 4 (.bool false) fun a H => ?_
 refine An.done (by kernel_rfl) ?_
 refine tn (rt ?_)
 refine H.r1 (.bool false) Tryz.results72 ?_
 exact ⟨by rw [show fitsP p.its p.length x = (false) from by (first | (rw [Bool.eq_iff_iff]; (try simp only [fitsP, g19, g19p, g24, g24p, g31, g31p, g35, g35p, g45, g45p]); (try simp only [Bool.and_eq_true, Bool.or_eq_true, Bool.not_eq_true', Bool.false_eq_true, decide_eq_true_eq, decide_eq_false_iff_not, inR_iff, inR_not, beq_iff_eq, bne_iff_ne, beq_eq_false_iff_ne, ne_eq, Bool.true_and, Bool.and_true, Bool.false_and, Bool.and_false, Bool.true_or, Bool.or_true, Bool.false_or, Bool.or_false, Bool.not_true, Bool.not_false, and_true, true_and, iff_true, true_iff, iff_false, false_iff, or_true, true_or, or_false, false_or, not_true_eq_false, not_false_eq_true, and_false, false_and]); first | omega | (simp; done) | (simp; omega)) | (simp [fitsP, g19, g19p, g24, g24p, g31, g31p, g35, g35p, g45, g45p]; done) | (simp [fitsP, g19, g19p, g24, g24p, g31, g31p, g35, g35p, g45, g45p] <;> simp [bne]))], HP.bl⟩
theorem index_any (A : Option Addr) (c : Nat) (al : Alts) (r t : Int) (w : World) (hr : IsAl w A al) (hl : al.length ≤ maxLen) : Calls Tryz.prog 130 #[.slice A al.length c, .agg #[.int .i64 r, .int .i64 t]] w fun e w' => ∃ n : Int, e = .returned (ii n) ∧ al.any (fun a : Int × Int => a.1 == r && a.2 == t) = decide (n ≥ 0) ∧ Below w.heap.size w w' := by
 unfold maxLen at hl
 have HP := Hp.start w
 refine w_enter 19 [(0, (.slice A al.length c)), (1, (.agg #[(ii r), (ii t)]))] Tryz.func130 rfl Tryz.ntmps130 (by kernel_rfl) (by kernel_rfl) fun a H => ?_
 refine sq (rg ?_)
 refine H.al HP 3 62 [(ii r), (ii t)] fun b_1 w_2 a H HP => H.v 4 (ii 0) fun a H => ?_
 refine nl (tn (sq (sq (rg ?_))))
 refine H.v 6 (.slice A al.length c) fun a H => H.v 7 (ii al.length) fun a H => H.v 8 (ii 0) fun a H => ?_
 refine nl (tn (bk ?_))
 refine w_loop (fun mm a wv => ∃ (i : Nat), al.length - i = mm ∧ Sl 19 [(8, (ii i)), (7, (ii al.length)), (6, (.slice A al.length c)), (3, (pt b_1 0)), (0, (.slice A al.length c)), (1, (.agg #[(ii r), (ii t)]))] a ∧ Hp w wv [bx b_1 62 [(ii r), (ii t)] true] [] ∧ (i ≤ al.length) ∧ (al.any (fun a : Int × Int => a.1 == r && a.2 == t) = (al.drop i).any (fun a : Int × Int => a.1 == r && a.2 == t))) (al.length - 0) ?_ ?_
 ·exact ⟨0, (by omega), H.keep (by kernel_rfl), HP, (Nat.zero_le _), rfl⟩
 rintro mm a w_3 ⟨i, hmeas, H, HP, hib, hrel⟩
 refine sq (rg ?_)
 refine H.v 9 (.bool (decide ((i : Int) < (al.length : Int)))) fun a H => ?_
 refine nl (tn (sq ?_))
 refine w_if H rfl (fun g9 => ?_) (fun g9 => ?_)
 ·have g9p := of_decide_eq_true g9
  refine sk (tn (sq (bk (sq (rg ?_)))))
  refine H.v 10 (ii i) fun a H => H.v 5 (ii i) fun a H => ?_
  refine nl (tn (sq ?_))
  obtain ⟨bu_5, ou_6, x_4, hA_7, _, hd_9, hx_8, hm_10, _⟩ := IsRow.get altC_size (hr.below HP.bl) (i := i) (by omega)
  refine An.start (fun v => Hp w v [bx b_1 62 [(ii r), (ii t)] true] []) 6 6 HP wide_follows rfl fun w_11 HP => ?_
  refine An.vw H (HP) 0 11 (.agg #[(ii r), (ii t)]) (fun _ hS => ex_lN [(ii r), (ii t)] (hS.cells 0 rfl 0 2 (by kernel_rfl))) fun a H => ?_
  refine An.p H (.inr HP) 1 12 (.slice A al.length c) fun a H => ?_
  refine An.p H (.inr HP) 2 13 (ii i) fun a H => ?_
  refine An.q H (.inr (HP)) 3 14 (.pointer (some ⟨bu_5, ou_6 + i * 2, none⟩)) (fun _ => ex_indexA (b := bu_5) (off := ou_6) (len := al.length) (cap := c) (e := 62) (k := 2) (ik := .i64) (i := (i : Int)) (m := i) hA_7 (by kernel_rfl) (by kernel_rfl) (by omega) (by omega) (by kernel_rfl) (by kernel_rfl)) fun a H => ?_
  refine An.vw H (HP) 4 15 (alV x_4) (fun _ hS => ex_lN (alL x_4) (IsRow.cells altC_size (hr.below (hS.below (by kernel_rfl))) hA_7 hx_8)) fun a H => ?_
  refine An.q H (.inr (HP)) 5 16 (.bool (([r, t] : List Int) == [x_4.1, x_4.2])) (fun _ => ex_eqL (a := [r, t]) (b := [x_4.1, x_4.2]) (by kernel_rfl) (by kernel_rfl) (by kernel_rfl) rfl) fun a H => ?_
  refine An.done (by kernel_rfl) ?_
  refine tn ?_
  refine w_if H rfl (fun g16 => ?_) (fun g16 => ?_)
  ·have g16p := eq_of_beq g16
   refine sq (rg ?_)
   refine H.v 17 (ii i) fun a H => H.v 4 (ii i) fun a H => ?_
   refine nl (tn (rt (ibr (tr (tr (ibr (tr ?_)))))))
   refine H.r1 (ii i) Tryz.results130 ?_
   exact ⟨_, rfl, by rw [hrel, hd_9, List.any_cons, any_hit g16p]; simp, HP.bl⟩
  have g16p := ne_of_beq_false g16
  refine sk (ibn (tn (rg ?_)))
  refine H.valE 18 (ii (IntKind.i64.wrap ((i : Int) + 1))) (ii ((i : Int) + 1)) (by kernel_rfl) (by kernel_rfl) ((by rw [wrap_ini64 _ (by omega)])) fun a H => H.v 8 (ii ((i : Int) + 1)) fun a H => ?_
  refine nl (tn ?_)
  have H := H.as 8 (ii ((i + 1 : Nat) : Int)) rfl rfl
  refine ⟨_, ?_, i + 1, rfl, H.keep (by kernel_rfl), HP, (by omega), (by rw [hrel, hd_9, List.any_cons, any_miss g16p]; rfl)⟩
  omega
 have g9p := of_decide_eq_false g9
 refine wp_exit (then_exit (then_exit ?_))
 refine w_exit_here ?_
 refine tn (sq (rg ?_))
 refine H.v 4 (ii (-1)) fun a H => ?_
 refine nl (tn (rt ?_))
 refine H.r1 (ii (-1)) Tryz.results130 ?_
 exact ⟨_, rfl, by rw [hrel, List.drop_eq_nil_of_le (by omega)]; rfl, HP.bl⟩
theorem contains_any (A : Option Addr) (c : Nat) (al : Alts) (r t : Int) (w : World) (hr : IsAl w A al) (hl : al.length ≤ maxLen) : Calls Tryz.prog 119 #[.slice A al.length c, .agg #[.int .i64 r, .int .i64 t]] w fun e w' => e = .returned (.bool (al.any (fun a : Int × Int => a.1 == r && a.2 == t))) ∧ Below w.heap.size w w' := by
 have HP := Hp.start w
 refine w_enter 9 [(0, (.slice A al.length c)), (1, (.agg #[(ii r), (ii t)]))] Tryz.func119 rfl Tryz.ntmps119 (by kernel_rfl) (by kernel_rfl) fun a H => ?_
 refine sq (rg ?_)
 refine H.al HP 3 62 [(ii r), (ii t)] fun b_1 w_2 a H HP => H.v 4 (.bool false) fun a H => ?_
 refine nl (tn (sq (rg ?_)))
 refine H.v 5 (.slice A al.length c) fun a H => H.u 6 (.agg #[(ii r), (ii t)]) (ex_lN [(ii r), (ii t)] (HP.cells 0 rfl 0 2 (by kernel_rfl))) fun a H => ?_
 refine H.cl 7 (Tryz.call130 _ _) (index_any A c al r t w_2 (hr.below HP.bl) hl) ?_
 rintro e w_3 ⟨n, rfl, hn, hb⟩
 refine ⟨_, rfl, ?_⟩
 intro a H
 have HP := HP.next hb
 refine H.v 8 (.bool (decide (n ≥ 0))) fun a H => H.v 4 (.bool (decide (n ≥ 0))) fun a H => ?_
 refine nl (tn (rt ?_))
 refine H.r1 (.bool (decide (n ≥ 0))) Tryz.results119 ?_
 exact ⟨by rw [hn], HP.bl⟩
theorem fulfils_any (x : Ent) (b m1 m2 : Nat) (p : Pln) (w : World) (hBk : BookAt w b m1 m2 p) (hx : x.ok w) : Calls Tryz.prog 74 #[.pointer (some ⟨b, 0, none⟩), (enV x)] w fun e w' => e = .returned (.bool (fulP p.bs x)) ∧ Below w.heap.size w w' := by
 have HP := Hp.start w
 refine w_enter 38 [(0, (pt b 0)), (1, (enV x))] Tryz.func74 rfl Tryz.ntmps74 (by kernel_rfl) (by kernel_rfl) fun a H => ?_
 refine sq (rg ?_)
 refine H.al HP 3 43 (enL x) fun b_1 w_2 a H HP => H.v 4 (.bool false) fun a H => ?_
 refine nl (tn (sq (sq (rg ?_))))
 refine H.v 7 (pt b_1 5) fun a H => H.u 8 (ii x.booking) (ex_l1 (HP.cell 0 rfl 5 rfl)) fun a H => H.v 9 (.bool (x.booking == 0)) fun a H => ?_
 refine nl (tn ?_)
 refine w_if H rfl (fun g9 => ?_) (fun g9 => ?_)
 ·have g9p := eq_of_beq g9
  refine sq (rg ?_)
  refine H.v 4 (.bool true) fun a H => ?_
  refine nl (tn (rt (tr ?_)))
  refine H.r1 (.bool true) Tryz.results74 ?_
  exact ⟨by rw [show fulP p.bs x = (true) from by simp [fulP, g9, g9p]], HP.bl⟩
 have g9p := ne_of_beq_false g9
 refine sk (tn (sq ?_))
 refine An.start (fun v => Hp w v [bx b_1 43 (enL x) true] []) 13 13 HP wide_follows rfl fun w_3 HP => ?_
 refine An.p H (.inr HP) 0 11 (pt b 0) fun a H => ?_
 refine An.p H (.inr HP) 1 12 (pt b 0) fun a H => ?_
 refine An.p H (.inr HP) 2 13 (pt b 14) fun a H => ?_
 refine An.vw H (HP) 3 14 (.map (some m2)) (fun _ hS => ex_l1 ((hBk.below (hS.below (by kernel_rfl))).box.cell (i := 14) rfl)) fun a H => ?_
 refine An.p H (.inr HP) 4 15 (pt b_1 5) fun a H => ?_
 refine An.vw H (HP) 5 16 (ii x.booking) (fun _ hS => ex_l1 (hS.cell 0 rfl 5 rfl)) fun a H => ?_
 refine An.vw H (HP) 6 17 (.tuple #[(bkV (gB p.bs x.booking)), (.bool (hB p.bs x.booking))]) (fun _ hS => ex_lookB2 (l := p.bs) (kt := 3) (et := 47) (s1 := 7) (s2 := 56) (by kernel_rfl) (by kernel_rfl) (by kernel_rfl) (by kernel_rfl) (by kernel_rfl) ((hBk.below (hS.below (by kernel_rfl))).m2)) fun a H => ?_
 refine An.q H (.inr (HP)) 7 10 (.tuple #[(bkV (gB p.bs x.booking)), (.bool (hB p.bs x.booking))]) (fun _ => by kernel_rfl) fun a H => ?_
 refine An.q H (.inr (HP)) 8 18 (bkV (gB p.bs x.booking)) (fun _ => by kernel_rfl) fun a H => ?_
 refine An.p H (.inr HP) 9 19 (.bool (hB p.bs x.booking)) fun a H => ?_
 refine An.one 10 (by kernel_rfl) ?_
 refine Op.alloc H HP 5 (fun b => (pt b 0)) 47 [(ii 0), (ii 0), (ii 0), (ii 0), (ii 0), (ii 0), (ii 0)] rfl (by kernel_rfl) (fun w => by kernel_rfl) fun b_4 w_5 a H HP => ?_
 refine ⟨.inr ((HP.tail rfl)), ?_⟩
 refine An.one 11 (by kernel_rfl) ?_
 refine Op.store H HP 0 b_4 0 7 47 [(ii 0), (ii 0), (ii 0), (ii 0), (ii 0), (ii 0), (ii 0)] true (bkV (gB p.bs x.booking)) [bx b_4 47 (bkL (gB p.bs x.booking)) true, bx b_1 43 (enL x) true] rfl (by kernel_rfl) (by kernel_rfl) (by kernel_rfl) rfl (by kernel_rfl) (by kernel_rfl) (by kernel_rfl) (by kernel_rfl) (by kernel_rfl) fun w_6 a H HP => ?_
 refine ⟨.inr ((HP.tail rfl)), ?_⟩
 refine An.p H (.inr ((HP.tail rfl))) 12 6 (.bool (hB p.bs x.booking)) fun a H => ?_
 refine An.done (by kernel_rfl) ?_
 refine tn (sq (sq (rg ?_)))
 refine H.v 20 (.bool (hB p.bs x.booking)) fun a H => H.v 21 (.bool (!(hB p.bs x.booking))) fun a H => ?_
 refine nl (tn ?_)
 refine w_if H rfl (fun g21 => ?_) (fun g21 => ?_)
 ·have g21p := not_is_true g21
  refine sq (rg ?_)
  refine H.v 4 (.bool false) fun a H => ?_
  refine nl (tn (rt (tr ?_)))
  refine H.r1 (.bool false) Tryz.results74 ?_
  exact ⟨by rw [show fulP p.bs x = (false) from by simp [fulP, g9, g9p, g21, g21p]], HP.bl⟩
 have g21p := not_is_false g21
 refine sk (tn (sq (sq (rg ?_))))
 refine H.v 22 (pt b_4 2) fun a H => H.u 23 (ii ((gB p.bs x.booking).region)) (ex_l1 (HP.cell 0 rfl 2 rfl)) fun a H => H.v 24 (.bool (((gB p.bs x.booking).region) == 0)) fun a H => ?_
 refine nl (tn ?_)
 refine w_if H rfl (fun g24 => ?_) (fun g24 => ?_)
 ·have g24p := eq_of_beq g24
  refine sq (rg ?_)
  refine H.v 25 (pt b_4 1) fun a H => H.u 26 (ii ((gB p.bs x.booking).item)) (ex_l1 (HP.cell 0 rfl 1 rfl)) fun a H => H.v 27 (pt b_1 1) fun a H => H.u 28 (ii x.item) (ex_l1 (HP.cell 1 rfl 1 rfl)) fun a H => H.v 29 (.bool (((gB p.bs x.booking).item) == x.item)) fun a H => H.v 4 (.bool (((gB p.bs x.booking).item) == x.item)) fun a H => ?_
  refine nl (tn (rt (tr ?_)))
  refine H.r1 (.bool (((gB p.bs x.booking).item) == x.item)) Tryz.results74 ?_
  exact ⟨by rw [show fulP p.bs x = (((gB p.bs x.booking).item) == x.item) from by simp [fulP, g9, g9p, g21, g21p, g24, g24p]], HP.bl⟩
 have g24p := ne_of_beq_false g24
 refine sk (tn (sq (rg ?_)))
 refine H.v 30 (pt b_1 6) fun a H => H.u 31 (.slice x.A x.al.length x.c) (ex_l1 (HP.cell 1 rfl 6 rfl)) fun a H => H.v 32 (pt b_4 2) fun a H => H.u 33 (ii ((gB p.bs x.booking).region)) (ex_l1 (HP.cell 0 rfl 2 rfl)) fun a H => H.v 34 (pt b_4 1) fun a H => H.u 35 (ii ((gB p.bs x.booking).item)) (ex_l1 (HP.cell 0 rfl 1 rfl)) fun a H => H.v 36 (.agg #[(ii ((gB p.bs x.booking).region)), (ii ((gB p.bs x.booking).item))]) fun a H => H.cb HP 37 (Tryz.call119 _ _) (contains_any x.A x.c x.al ((gB p.bs x.booking).region) ((gB p.bs x.booking).item) w_6 (hx.1.below HP.bl) hx.2) fun w_7 hb a H HP => H.v 4 (.bool (x.al.any (fun a : Int × Int => a.1 == ((gB p.bs x.booking).region) && a.2 == ((gB p.bs x.booking).item)))) fun a H => ?_
 refine nl (tn (rt ?_))
 refine H.r1 (.bool (x.al.any (fun a : Int × Int => a.1 == ((gB p.bs x.booking).region) && a.2 == ((gB p.bs x.booking).item)))) Tryz.results74 ?_
 exact ⟨by rw [show fulP p.bs x = (x.al.any (fun a : Int × Int => a.1 == ((gB p.bs x.booking).region) && a.2 == ((gB p.bs x.booking).item))) from by simp [fulP, g9, g9p, g21, g21p, g24, g24p]], HP.bl⟩
theorem unfit_any (aa : Int × Int) (x : Ent) (b2 b3 : Nat) (b m1 m2 : Nat) (p : Pln) (w : World) (hBk : BookAt w b m1 m2 p) (h2 : Box w b2 113 #[.pointer (some ⟨b, 0, none⟩)]) (h3 : Box w b3 43 (enC x)) : Calls Tryz.prog 117 #[.agg #[.int .i64 aa.1, .int .i64 aa.2], .pointer (some ⟨b2, 0, none⟩), .pointer (some ⟨b3, 0, none⟩)] w fun e w' => e = .returned (.bool (unfitP p.its x.frames aa)) ∧ Below w.heap.size w w' := by
 have HP := Hp.start w
 refine w_enter 36 [(0, (alV aa)), (1, (pt b2 0)), (2, (pt b3 0))] Tryz.func117 rfl Tryz.ntmps117 (by kernel_rfl) (by kernel_rfl) fun a H => ?_
 refine sq (rg ?_)
 refine H.al HP 3 62 (alL aa) fun b_1 w_2 a H HP => H.v 4 (.bool false) fun a H => ?_
 refine nl (tn (sq ?_))
 refine An.start (fun v => Hp w v [bx b_1 62 (alL aa) true] []) 13 13 HP wide_follows rfl fun w_3 HP => ?_
 refine An.vw H (HP) 0 8 (pt b 0) (fun _ hS => ex_l1 (hS.oldc (by kernel_rfl) (h2.cell (i := 0) rfl))) fun a H => ?_
 refine An.p H (.inr HP) 1 9 (pt b 0) fun a H => ?_
 refine An.p H (.inr HP) 2 10 (pt b 13) fun a H => ?_
 refine An.vw H (HP) 3 11 (.map (some m1)) (fun _ hS => ex_l1 ((hBk.below (hS.below (by kernel_rfl))).box.cell (i := 13) rfl)) fun a H => ?_
 refine An.p H (.inr HP) 4 12 (pt b_1 1) fun a H => ?_
 refine An.vw H (HP) 5 13 (ii aa.2) (fun _ hS => ex_l1 (hS.cell 0 rfl 1 rfl)) fun a H => ?_
 refine An.vw H (HP) 6 14 (.tuple #[(itV (gI p.its aa.2)), (.bool (hI p.its aa.2))]) (fun _ hS => ex_lookI2 (l := p.its) (kt := 3) (et := 38) (s1 := 5) (s2 := 40) (by kernel_rfl) (by kernel_rfl) (by kernel_rfl) (by kernel_rfl) (by kernel_rfl) ((hBk.below (hS.below (by kernel_rfl))).m1)) fun a H => ?_
 refine An.q H (.inr (HP)) 7 7 (.tuple #[(itV (gI p.its aa.2)), (.bool (hI p.its aa.2))]) (fun _ => by kernel_rfl) fun a H => ?_
 refine An.q H (.inr (HP)) 8 15 (itV (gI p.its aa.2)) (fun _ => by kernel_rfl) fun a H => ?_
 refine An.p H (.inr HP) 9 16 (.bool (hI p.its aa.2)) fun a H => ?_
 refine An.one 10 (by kernel_rfl) ?_
 refine Op.alloc H HP 5 (fun b => (pt b 0)) 38 [(ii 0), (ii 0), (ii 0), (ii 0), (ii 0)] rfl (by kernel_rfl) (fun w => by kernel_rfl) fun b_4 w_5 a H HP => ?_
 refine ⟨.inr ((HP.tail rfl)), ?_⟩
 refine An.one 11 (by kernel_rfl) ?_
 refine Op.store H HP 0 b_4 0 5 38 [(ii 0), (ii 0), (ii 0), (ii 0), (ii 0)] true (itV (gI p.its aa.2)) [bx b_4 38 (itL (gI p.its aa.2)) true, bx b_1 62 (alL aa) true] rfl (by kernel_rfl) (by kernel_rfl) (by kernel_rfl) rfl (by kernel_rfl) (by kernel_rfl) (by kernel_rfl) (by kernel_rfl) (by kernel_rfl) fun w_6 a H HP => ?_
 refine ⟨.inr ((HP.tail rfl)), ?_⟩
 refine An.p H (.inr ((HP.tail rfl))) 12 6 (.bool (hI p.its aa.2)) fun a H => ?_
 refine An.done (by kernel_rfl) ?_
 refine tn (sq (rg ?_))
 refine H.v 17 (.bool (hI p.its aa.2)) fun a H => H.v 18 (.bool (!(hI p.its aa.2))) fun a H => H.v 19 (.bool (!(hI p.its aa.2))) fun a H => ?_
 refine H.split 19 rfl (fun g19 H => ?_) (fun g19 H => ?_)
 ·have g19p := not_is_true g19
  iterate 5 refine H.sx rfl fun a H => ?_
  iterate 2 ((iterate 2 refine H.vx rfl (.bool true) fun a H => ?_); (iterate 3 refine H.sx rfl fun a H => ?_))
  iterate 2 refine H.vx rfl (.bool true) fun a H => ?_
  refine nl (tn (rt ?_))
  refine H.r1 (.bool true) Tryz.results117 ?_
  exact ⟨by rw [show unfitP p.its x.frames aa = (true) from by simp [unfitP, g19, g19p] <;> simp [bne]], HP.bl⟩
 have g19p := not_is_false g19
 refine H.v 20 (pt b_4 2) fun a H => H.u 21 (ii ((gI p.its aa.2).frames)) (ex_l1 (HP.cell 0 rfl 2 rfl)) fun a H => H.v 22 (pt b3 2) fun a H => H.u 23 (ii x.frames) (ex_l1 (HP.oldc (by kernel_rfl) (h3.cell (i := 2) rfl))) fun a H => H.v 24 (.bool (((gI p.its aa.2).frames) != x.frames)) fun a H => H.v 25 (.bool (((gI p.its aa.2).frames) != x.frames)) fun a H => H.v 26 (.bool (((gI p.its aa.2).frames) != x.frames)) fun a H => ?_
 refine H.split 26 rfl (fun g26 H => ?_) (fun g26 H => ?_)
 ·have g26p := bne_iff_ne.1 g26
  iterate 2 ((iterate 3 refine H.sx rfl fun a H => ?_); (iterate 2 refine H.vx rfl (.bool true) fun a H => ?_))
  refine nl (tn (rt ?_))
  refine H.r1 (.bool true) Tryz.results117 ?_
  exact ⟨by rw [show unfitP p.its x.frames aa = (true) from by simp [unfitP, g19, g19p, g26, g26p] <;> simp [bne]], HP.bl⟩
 have g26p := eq_of_bne_false g26
 refine H.v 27 (pt b_4 1) fun a H => H.u 28 (ii ((gI p.its aa.2).kind)) (ex_l1 (HP.cell 0 rfl 1 rfl)) fun a H => H.v 29 (.bool (((gI p.its aa.2).kind) == 5)) fun a H => H.v 30 (.bool (((gI p.its aa.2).kind) == 5)) fun a H => H.v 31 (.bool (((gI p.its aa.2).kind) == 5)) fun a H => ?_
 refine H.split 31 rfl (fun g31 H => ?_) (fun g31 H => ?_)
 ·have g31p := eq_of_beq g31
  iterate 3 refine H.sx rfl fun a H => ?_
  iterate 2 refine H.vx rfl (.bool true) fun a H => ?_
  refine nl (tn (rt ?_))
  refine H.r1 (.bool true) Tryz.results117 ?_
  exact ⟨by rw [show unfitP p.its x.frames aa = (true) from by simp [unfitP, g19, g19p, g26, g26p, g31, g31p] <;> simp [bne]], HP.bl⟩
 have g31p := ne_of_beq_false g31
 refine H.v 32 (pt b_4 1) fun a H => H.u 33 (ii ((gI p.its aa.2).kind)) (ex_l1 (HP.cell 0 rfl 1 rfl)) fun a H => H.v 34 (.bool (((gI p.its aa.2).kind) == 4)) fun a H => H.v 35 (.bool (((gI p.its aa.2).kind) == 4)) fun a H => H.v 4 (.bool (((gI p.its aa.2).kind) == 4)) fun a H => ?_
 refine nl (tn (rt ?_))
 refine H.r1 (.bool (((gI p.its aa.2).kind) == 4)) Tryz.results117 ?_
 exact ⟨by rw [show unfitP p.its x.frames aa = (((gI p.its aa.2).kind) == 4) from by simp [unfitP, g19, g19p, g26, g26p, g31, g31p] <;> simp [bne]], HP.bl⟩
theorem indexF_any (A : Option Addr) (c : Nat) (al : Alts) (b2 b3 : Nat) (q : Int × Int → Bool) (w : World) (hr : IsAl w A al) (hl : al.length ≤ maxLen) (hF : ∀ (a : Int × Int) (v : World), Below w.heap.size w v → Calls Tryz.prog 117 #[.agg #[.int .i64 a.1, .int .i64 a.2], .pointer (some ⟨b2, 0, none⟩), .pointer (some ⟨b3, 0, none⟩)] v fun e v' => e = .returned (.bool (q a)) ∧ Below v.heap.size v v') : Calls Tryz.prog 129 #[.slice A al.length c, (.func (.func 117) #[] #[(pt b2 0), (pt b3 0)])] w fun e w' => ∃ n : Int, e = .returned (ii n) ∧ al.any q = decide (n ≥ 0) ∧ Below w.heap.size w w' := by
 unfold maxLen at hl
 have HP := Hp.start w
 refine w_enter 19 [(0, (.slice A al.length c)), (1, (.func (.func 117) #[] #[(pt b2 0), (pt b3 0)]))] Tryz.func129 rfl Tryz.ntmps129 (by kernel_rfl) (by kernel_rfl) fun a H => ?_
 refine sq (rg ?_)
 refine H.v 4 (ii 0) fun a H => ?_
 refine nl (tn (sq (sq (rg ?_))))
 refine H.v 6 (.slice A al.length c) fun a H => H.v 7 (ii al.length) fun a H => H.v 8 (ii 0) fun a H => ?_
 refine nl (tn (bk ?_))
 refine w_loop (fun mm a wv => ∃ (i : Nat), al.length - i = mm ∧ Sl 19 [(8, (ii i)), (7, (ii al.length)), (6, (.slice A al.length c)), (0, (.slice A al.length c)), (1, (.func (.func 117) #[] #[(pt b2 0), (pt b3 0)]))] a ∧ Hp w wv [] [] ∧ (i ≤ al.length) ∧ (al.any q = (al.drop i).any q)) (al.length - 0) ?_ ?_
 ·exact ⟨0, (by omega), H.keep (by kernel_rfl), HP, (Nat.zero_le _), rfl⟩
 rintro mm a w_1 ⟨i, hmeas, H, HP, hib, hrel⟩
 refine sq (rg ?_)
 refine H.v 9 (.bool (decide ((i : Int) < (al.length : Int)))) fun a H => ?_
 refine nl (tn (sq ?_))
 refine w_if H rfl (fun g9 => ?_) (fun g9 => ?_)
 ·have g9p := of_decide_eq_true g9
  refine sk (tn (sq (bk (sq (rg ?_)))))
  refine H.v 10 (ii i) fun a H => H.v 5 (ii i) fun a H => ?_
  refine nl (tn (sq ?_))
  obtain ⟨bu_3, ou_4, x_2, hA_5, _, hd_7, hx_6, hm_8, _⟩ := IsRow.get altC_size (hr.below HP.bl) (i := i) (by omega)
  refine rg ?_
  refine H.v 11 (.func (.func 117) #[] #[(pt b2 0), (pt b3 0)]) fun a H => H.v 12 (.slice A al.length c) fun a H => H.v 13 (ii i) fun a H => H.u 14 (.pointer (some ⟨bu_3, ou_4 + i * 2, none⟩)) (ex_indexA (b := bu_3) (off := ou_4) (len := al.length) (cap := c) (e := 62) (k := 2) (ik := .i64) (i := (i : Int)) (m := i) hA_5 (by kernel_rfl) (by kernel_rfl) (by omega) (by omega) (by kernel_rfl) (by kernel_rfl)) fun a H => H.u 15 (alV x_2) (ex_lN (alL x_2) (IsRow.cells altC_size (hr.below HP.bl) hA_5 hx_6)) fun a H => H.cb HP 16 (Tryz.call117 _ _) (hF x_2 w_1 HP.bl) fun w_9 hb a H HP => ?_
  refine nl (tn ?_)
  refine w_if H rfl (fun g16 => ?_) (fun g16 => ?_)
  ·have g16p := g16
   refine sq (rg ?_)
   refine H.v 17 (ii i) fun a H => H.v 4 (ii i) fun a H => ?_
   refine nl (tn (rt (ibr (tr (tr (ibr (tr ?_)))))))
   refine H.r1 (ii i) Tryz.results129 ?_
   exact ⟨_, rfl, by rw [hrel, hd_7, List.any_cons, g16]; simp, HP.bl⟩
  have g16p := g16
  refine sk (ibn (tn (rg ?_)))
  refine H.valE 18 (ii (IntKind.i64.wrap ((i : Int) + 1))) (ii ((i : Int) + 1)) (by kernel_rfl) (by kernel_rfl) ((by rw [wrap_ini64 _ (by omega)])) fun a H => H.v 8 (ii ((i : Int) + 1)) fun a H => ?_
  refine nl (tn ?_)
  have H := H.as 8 (ii ((i + 1 : Nat) : Int)) rfl rfl
  refine ⟨_, ?_, i + 1, rfl, H.keep (by kernel_rfl), HP, (by omega), (by rw [hrel, hd_7, List.any_cons, g16]; rfl)⟩
  omega
 have g9p := of_decide_eq_false g9
 refine wp_exit (then_exit (then_exit ?_))
 refine w_exit_here ?_
 refine tn (sq (rg ?_))
 refine H.v 4 (ii (-1)) fun a H => ?_
 refine nl (tn (rt ?_))
 refine H.r1 (ii (-1)) Tryz.results129 ?_
 exact ⟨_, rfl, by rw [hrel, List.drop_eq_nil_of_le (by omega)]; rfl, HP.bl⟩
theorem containsF_any (A : Option Addr) (c : Nat) (al : Alts) (b2 b3 : Nat) (q : Int × Int → Bool) (w : World) (hr : IsAl w A al) (hl : al.length ≤ maxLen) (hF : ∀ (a : Int × Int) (v : World), Below w.heap.size w v → Calls Tryz.prog 117 #[.agg #[.int .i64 a.1, .int .i64 a.2], .pointer (some ⟨b2, 0, none⟩), .pointer (some ⟨b3, 0, none⟩)] v fun e v' => e = .returned (.bool (q a)) ∧ Below v.heap.size v v') : Calls Tryz.prog 118 #[.slice A al.length c, (.func (.func 117) #[] #[(pt b2 0), (pt b3 0)])] w fun e w' => e = .returned (.bool (al.any q)) ∧ Below w.heap.size w w' := by
 have HP := Hp.start w
 refine w_enter 9 [(0, (.slice A al.length c)), (1, (.func (.func 117) #[] #[(pt b2 0), (pt b3 0)]))] Tryz.func118 rfl Tryz.ntmps118 (by kernel_rfl) (by kernel_rfl) fun a H => ?_
 refine sq (rg ?_)
 refine H.v 4 (.bool false) fun a H => ?_
 refine nl (tn (sq (rg ?_)))
 refine H.v 5 (.slice A al.length c) fun a H => H.v 6 (.func (.func 117) #[] #[(pt b2 0), (pt b3 0)]) fun a H => ?_
 refine H.cl 7 (Tryz.call129 _ _) (indexF_any A c al b2 b3 q w (hr.below HP.bl) hl (fun a v hv => hF a v (bnext HP.bl hv))) ?_
 rintro e w_1 ⟨n, rfl, hn, hb⟩
 refine ⟨_, rfl, ?_⟩
 intro a H
 have HP := HP.next hb
 refine H.v 8 (.bool (decide (n ≥ 0))) fun a H => H.v 4 (.bool (decide (n ≥ 0))) fun a H => ?_
 refine nl (tn (rt ?_))
 refine H.r1 (.bool (decide (n ≥ 0))) Tryz.results118 ?_
 exact ⟨by rw [hn], HP.bl⟩
theorem alts_any (x : Ent) (b m1 m2 : Nat) (p : Pln) (w : World) (hBk : BookAt w b m1 m2 p) (hx : x.ok w) (hreg : 1 ≤ p.regions ∧ p.regions ≤ 8) : Calls Tryz.prog 73 #[.pointer (some ⟨b, 0, none⟩), (enV x)] w fun e w' => e = .returned (.bool (altsP p.its p.regions x)) ∧ Below w.heap.size w w' := by
 have HP := Hp.start w
 refine w_enter 37 [(0, (pt b 0)), (1, (enV x))] Tryz.func73 rfl Tryz.ntmps73 (by kernel_rfl) (by kernel_rfl) fun a H => ?_
 refine sq (rg ?_)
 refine H.al HP 2 113 [(pt b 0)] fun b_1 w_2 a H HP => H.al HP 3 43 (enL x) fun b_3 w_4 a H HP => H.v 4 (.bool false) fun a H => ?_
 refine nl (tn (sq (sq ?_)))
 refine An.start (fun v => Hp w v [bx b_3 43 (enL x) true, bx b_1 113 [(pt b 0)] true] []) 10 10 HP wide_follows rfl fun w_5 HP => ?_
 refine An.p H (.inr HP) 0 6 (pt b_3 6) fun a H => ?_
 refine An.vw H (HP) 1 7 (.slice x.A x.al.length x.c) (fun _ hS => ex_l1 (hS.cell 0 rfl 6 rfl)) fun a H => ?_
 refine An.vw H (HP) 2 8 (pt b 0) (fun _ hS => ex_l1 (hS.cell 1 rfl 0 rfl)) fun a H => ?_
 refine An.p H (.inr HP) 3 9 (pt b 0) fun a H => ?_
 refine An.p H (.inr HP) 4 10 (pt b 0) fun a H => ?_
 refine An.p H (.inr HP) 5 11 (pt b 6) fun a H => ?_
 refine An.vw H (HP) 6 12 (ii p.regions) (fun _ hS => ex_l1 ((hBk.below (hS.below (by kernel_rfl))).box.cell (i := 6) rfl)) fun a H => ?_
 refine An.pureE H (.inr (HP)) 7 13 (ii (IntKind.i64.wrap (p.regions - 1))) (ii (p.regions - 1)) rfl (by kernel_rfl) (by kernel_rfl) (fun _ _ _ h => h) (fun _ => by kernel_rfl) ((by rw [wrap_ini64 _ (by omega)])) fun a H => ?_
 refine An.one 8 (by kernel_rfl) ?_
 refine Op.call H 14 rfl (by kernel_rfl) (Eq.trans (by kernel_rfl : _ = (callFunc 115 #[(.slice x.A x.al.length x.c), (ii 1), (ii (p.regions - 1)), (.func (.func 116) #[] #[])]).run Tryz.prog w_5) (Tryz.call115 _ _)) (ascA_any x.A x.c x.al 1 (p.regions - 1) w_5 (hx.1.below HP.bl) hx.2 (by omega)) ?_
 rintro e w_6 ⟨rfl, hb⟩
 refine ⟨_, rfl, ?_⟩
 intro a H
 have HP := HP.next hb
 refine ⟨.inr (HP), ?_⟩
 refine An.p H (.inr HP) 9 15 (.bool (!(asc 0 (p.regions - 1) (x.al.map (fun x : Int × Int => x.1))))) fun a H => ?_
 refine An.done (by kernel_rfl) ?_
 refine tn ?_
 refine w_if H rfl (fun g15 => ?_) (fun g15 => ?_)
 ·have g15p := not_is_true g15
  refine sq (rg ?_)
  refine H.v 4 (.bool false) fun a H => ?_
  refine nl (tn (rt (tr ?_)))
  refine H.r1 (.bool false) Tryz.results73 ?_
  exact ⟨by rw [show altsP p.its p.regions x = (false) from by (first | (rw [Bool.eq_iff_iff]; (try simp only [altsP, g15, g15p]); (try simp only [Bool.and_eq_true, Bool.or_eq_true, Bool.not_eq_true', Bool.false_eq_true, decide_eq_true_eq, decide_eq_false_iff_not, inR_iff, inR_not, beq_iff_eq, bne_iff_ne, beq_eq_false_iff_ne, ne_eq, Bool.true_and, Bool.and_true, Bool.false_and, Bool.and_false, Bool.true_or, Bool.or_true, Bool.false_or, Bool.or_false, Bool.not_true, Bool.not_false, and_true, true_and, iff_true, true_iff, iff_false, false_iff, or_true, true_or, or_false, false_or, not_true_eq_false, not_false_eq_true, and_false, false_and]); first | omega | (simp; done) | (simp; omega)) | (simp [altsP, g15, g15p]; done) | (simp [altsP, g15, g15p] <;> simp [bne]))], HP.bl⟩
 have g15p := not_is_false g15
 refine sk (tn (sq (sq ?_)))
 refine An.start (fun v => Hp w v [bx b_3 43 (enL x) true, bx b_1 113 [(pt b 0)] true] []) 15 15 HP wide_follows rfl fun w_7 HP => ?_
 refine An.vw H (HP) 0 16 (pt b 0) (fun _ hS => ex_l1 (hS.cell 1 rfl 0 rfl)) fun a H => ?_
 refine An.p H (.inr HP) 1 17 (pt b 0) fun a H => ?_
 refine An.p H (.inr HP) 2 18 (pt b 13) fun a H => ?_
 refine An.vw H (HP) 3 19 (.map (some m1)) (fun _ hS => ex_l1 ((hBk.below (hS.below (by kernel_rfl))).box.cell (i := 13) rfl)) fun a H => ?_
 refine An.p H (.inr HP) 4 20 (pt b_3 1) fun a H => ?_
 refine An.vw H (HP) 5 21 (ii x.item) (fun _ hS => ex_l1 (hS.cell 0 rfl 1 rfl)) fun a H => ?_
 refine An.vw H (HP) 6 22 (itV (gI p.its x.item)) (fun _ hS => ex_lookI (l := p.its) (kt := 3) (et := 38) (s1 := 5) (s2 := 40) (by kernel_rfl) (by kernel_rfl) (by kernel_rfl) (by kernel_rfl) (by kernel_rfl) ((hBk.below (hS.below (by kernel_rfl))).m1)) fun a H => ?_
 refine An.p H (.inr HP) 7 23 (ii ((gI p.its x.item).kind)) fun a H => ?_
 refine An.p H (.inr HP) 8 24 (.bool (((gI p.its x.item).kind) == 4)) fun a H => ?_
 refine An.p H (.inr HP) 9 25 (.bool (((gI p.its x.item).kind) == 4)) fun a H => ?_
 refine H.split 25 rfl (fun g25 H => ?_) (fun g25 H => ?_)
 ·have g25p := eq_of_beq g25
  refine An.p H (.inr HP) 10 26 (pt b_3 6) fun a H => ?_
  refine An.vw H (HP) 11 27 (.slice x.A x.al.length x.c) (fun _ hS => ex_l1 (hS.cell 0 rfl 6 rfl)) fun a H => ?_
  refine An.q H (.inr (HP)) 12 28 (ii x.al.length) (fun _ => by kernel_rfl) fun a H => ?_
  refine An.q H (.inr (HP)) 13 29 (.bool (decide ((x.al.length : Int) > 0))) (fun _ => by kernel_rfl) fun a H => ?_
  refine An.q H (.inr (HP)) 14 30 (.bool (decide ((x.al.length : Int) > 0))) (fun _ => by kernel_rfl) fun a H => ?_
  refine An.done (by kernel_rfl) ?_
  refine tn ?_
  refine w_if H rfl (fun g30 => ?_) (fun g30 => ?_)
  ·have g30p := of_decide_eq_true g30
   refine sq (rg ?_)
   refine H.v 4 (.bool false) fun a H => ?_
   refine nl (tn (rt (tr ?_)))
   refine H.r1 (.bool false) Tryz.results73 ?_
   exact ⟨by rw [show altsP p.its p.regions x = (false) from by (first | (rw [Bool.eq_iff_iff]; (try simp only [altsP, g15, g15p, g25, g25p, g30, g30p]); (try simp only [Bool.and_eq_true, Bool.or_eq_true, Bool.not_eq_true', Bool.false_eq_true, decide_eq_true_eq, decide_eq_false_iff_not, inR_iff, inR_not, beq_iff_eq, bne_iff_ne, beq_eq_false_iff_ne, ne_eq, Bool.true_and, Bool.and_true, Bool.false_and, Bool.and_false, Bool.true_or, Bool.or_true, Bool.false_or, Bool.or_false, Bool.not_true, Bool.not_false, and_true, true_and, iff_true, true_iff, iff_false, false_iff, or_true, true_or, or_false, false_or, not_true_eq_false, not_false_eq_true, and_false, false_and]); first | omega | (simp; done) | (simp; omega)) | (simp [altsP, g15, g15p, g25, g25p, g30, g30p]; done) | (simp [altsP, g15, g15p, g25, g25p, g30, g30p] <;> simp [bne]))], HP.bl⟩
  have g30p := of_decide_eq_false g30
  refine sk (tn (sq (rg ?_)))
  refine H.v 31 (.func (.func 117) #[] #[(pt b_1 0), (pt b_3 0)]) fun a H => H.v 5 (.func (.func 117) #[] #[(pt b_1 0), (pt b_3 0)]) fun a H => ?_
  refine nl (tn (sq (rg ?_)))
  refine H.v 32 (pt b_3 6) fun a H => H.u 33 (.slice x.A x.al.length x.c) (ex_l1 (HP.cell 0 rfl 6 rfl)) fun a H => H.v 34 (.func (.func 117) #[] #[(pt b_1 0), (pt b_3 0)]) fun a H => H.cb HP 35 (Tryz.call118 _ _) (containsF_any x.A x.c x.al b_1 b_3 (unfitP p.its x.frames) w_7 (hx.1.below HP.bl) hx.2 (fun a v hv => unfit_any a x b_1 b_3 b m1 m2 p v (hBk.below (bnext HP.bl hv)) ((HP.at_ 1 rfl).next hv) ((HP.at_ 0 rfl).next hv))) fun w_8 hb a H HP => H.v 36 (.bool (!(x.al.any (unfitP p.its x.frames)))) fun a H => H.v 4 (.bool (!(x.al.any (unfitP p.its x.frames)))) fun a H => ?_
  refine nl (tn (rt ?_))
  refine H.r1 (.bool (!(x.al.any (unfitP p.its x.frames)))) Tryz.results73 ?_
  exact ⟨by rw [show altsP p.its p.regions x = (!(x.al.any (unfitP p.its x.frames))) from by (first | (rw [Bool.eq_iff_iff]; (try simp only [altsP, g15, g15p, g25, g25p, g30, g30p]); (try simp only [Bool.and_eq_true, Bool.or_eq_true, Bool.not_eq_true', Bool.false_eq_true, decide_eq_true_eq, decide_eq_false_iff_not, inR_iff, inR_not, beq_iff_eq, bne_iff_ne, beq_eq_false_iff_ne, ne_eq, Bool.true_and, Bool.and_true, Bool.false_and, Bool.and_false, Bool.true_or, Bool.or_true, Bool.false_or, Bool.or_false, Bool.not_true, Bool.not_false, and_true, true_and, iff_true, true_iff, iff_false, false_iff, or_true, true_or, or_false, false_or, not_true_eq_false, not_false_eq_true, and_false, false_and]); first | omega | (simp; done) | (simp; omega)) | (simp [altsP, g15, g15p, g25, g25p, g30, g30p]; done) | (simp [altsP, g15, g15p, g25, g25p, g30, g30p] <;> simp [bne]))], HP.bl⟩
 have g25p := ne_of_beq_false g25
 refine An.s H (.inr HP) 10 26 fun a H => ?_
 refine An.s H (.inr HP) 11 27 fun a H => ?_
 refine An.s H (.inr HP) 12 28 fun a H => ?_
 refine An.s H (.inr HP) 13 29 fun a H => ?_
 refine An.p H (.inr HP) 14 30 (.bool false) fun a H => ?_
 refine An.done (by kernel_rfl) ?_
 refine tn ?_
 refine w_iff H rfl ?_
 refine sk (tn (sq (rg ?_)))
 refine H.v 31 (.func (.func 117) #[] #[(pt b_1 0), (pt b_3 0)]) fun a H => H.v 5 (.func (.func 117) #[] #[(pt b_1 0), (pt b_3 0)]) fun a H => ?_
 refine nl (tn (sq (rg ?_)))
 refine H.v 32 (pt b_3 6) fun a H => H.u 33 (.slice x.A x.al.length x.c) (ex_l1 (HP.cell 0 rfl 6 rfl)) fun a H => H.v 34 (.func (.func 117) #[] #[(pt b_1 0), (pt b_3 0)]) fun a H => H.cb HP 35 (Tryz.call118 _ _) (containsF_any x.A x.c x.al b_1 b_3 (unfitP p.its x.frames) w_7 (hx.1.below HP.bl) hx.2 (fun a v hv => unfit_any a x b_1 b_3 b m1 m2 p v (hBk.below (bnext HP.bl hv)) ((HP.at_ 1 rfl).next hv) ((HP.at_ 0 rfl).next hv))) fun w_9 hb a H HP => H.v 36 (.bool (!(x.al.any (unfitP p.its x.frames)))) fun a H => H.v 4 (.bool (!(x.al.any (unfitP p.its x.frames)))) fun a H => ?_
 refine nl (tn (rt ?_))
 refine H.r1 (.bool (!(x.al.any (unfitP p.its x.frames)))) Tryz.results73 ?_
 exact ⟨by rw [show altsP p.its p.regions x = (!(x.al.any (unfitP p.its x.frames))) from by (first | (rw [Bool.eq_iff_iff]; (try simp only [altsP, g15, g15p, g25, g25p]); (try simp only [Bool.and_eq_true, Bool.or_eq_true, Bool.not_eq_true', Bool.false_eq_true, decide_eq_true_eq, decide_eq_false_iff_not, inR_iff, inR_not, beq_iff_eq, bne_iff_ne, beq_eq_false_iff_ne, ne_eq, Bool.true_and, Bool.and_true, Bool.false_and, Bool.and_false, Bool.true_or, Bool.or_true, Bool.false_or, Bool.or_false, Bool.not_true, Bool.not_false, and_true, true_and, iff_true, true_iff, iff_false, false_iff, or_true, true_or, or_false, false_or, not_true_eq_false, not_false_eq_true, and_false, false_and]); first | omega | (simp; done) | (simp; omega)) | (simp [altsP, g15, g15p, g25, g25p]; done) | (simp [altsP, g15, g15p, g25, g25p] <;> simp [bne]))], HP.bl⟩
theorem clauses_any (b m1 m2 : Nat) (p : Pln) (w : World) (hBk : BookAt w b m1 m2 p) : Calls Tryz.prog 35 #[.pointer (some ⟨b, 0, none⟩)] w fun e w' => e = .returned (.bool (clsP p.cs)) ∧ Below w.heap.size w w' := by
 have hcl := hBk.pl.lcs
 unfold maxLen at hcl
 have HP := Hp.start w
 refine w_enter 26 [(0, (pt b 0))] Tryz.func35 rfl Tryz.ntmps35 (by kernel_rfl) (by kernel_rfl) fun a H => ?_
 refine sq (rg ?_)
 refine H.v 2 (.bool false) fun a H => ?_
 refine nl (tn (sq (sq (rg ?_))))
 refine H.v 5 (pt b 0) fun a H => H.v 6 (pt b 0) fun a H => H.v 7 (pt b 0) fun a H => H.v 8 (pt b 12) fun a H => H.u 9 (.slice p.CA p.cs.length p.cc) (ex_l1 ((hBk.below HP.bl).box.cell (i := 12) rfl)) fun a H => H.v 10 (ii p.cs.length) fun a H => H.v 11 (.bool (decide ((p.cs.length : Int) > 400))) fun a H => ?_
 refine nl (tn ?_)
 refine w_if H rfl (fun g11 => ?_) (fun g11 => ?_)
 ·have g11p := of_decide_eq_true g11
  refine sq (rg ?_)
  refine H.v 2 (.bool false) fun a H => ?_
  refine nl (tn (rt (tr ?_)))
  refine H.r1 (.bool false) Tryz.results35 ?_
  exact ⟨by rw [show clsP p.cs = false from by (first | (rw [Bool.eq_iff_iff]; (try simp only [clsP, g11, g11p]); (try simp only [Bool.and_eq_true, Bool.or_eq_true, Bool.not_eq_true', Bool.false_eq_true, decide_eq_true_eq, decide_eq_false_iff_not, inR_iff, inR_not, beq_iff_eq, bne_iff_ne, beq_eq_false_iff_ne, ne_eq, Bool.true_and, Bool.and_true, Bool.false_and, Bool.and_false, Bool.true_or, Bool.or_true, Bool.false_or, Bool.or_false, Bool.not_true, Bool.not_false, and_true, true_and, iff_true, true_iff, iff_false, false_iff, or_true, true_or, or_false, false_or, not_true_eq_false, not_false_eq_true, and_false, false_and]); first | omega | (simp; done) | (simp; omega)) | (simp [clsP, g11, g11p]; done) | (simp [clsP, g11, g11p] <;> simp [bne]))], HP.bl⟩
 have g11p := of_decide_eq_false g11
 refine sk (tn (sq (sq (rg ?_))))
 refine H.v 12 (pt b 0) fun a H => H.v 13 (pt b 0) fun a H => H.v 14 (pt b 0) fun a H => H.v 15 (pt b 12) fun a H => H.u 16 (.slice p.CA p.cs.length p.cc) (ex_l1 ((hBk.below HP.bl).box.cell (i := 12) rfl)) fun a H => H.v 17 (ii p.cs.length) fun a H => H.v 18 (ii 0) fun a H => ?_
 refine nl (tn (bk ?_))
 refine w_loop (fun mm a wv => ∃ (i : Nat), p.cs.length - i = mm ∧ Sl 26 [(18, (ii i)), (17, (ii p.cs.length)), (16, (.slice p.CA p.cs.length p.cc)), (15, (pt b 12)), (14, (pt b 0)), (13, (pt b 0)), (12, (pt b 0)), (11, (.bool (decide ((p.cs.length : Int) > 400)))), (10, (ii p.cs.length)), (9, (.slice p.CA p.cs.length p.cc)), (8, (pt b 12)), (7, (pt b 0)), (6, (pt b 0)), (5, (pt b 0)), (0, (pt b 0))] a ∧ Hp w wv [] [] ∧ (i ≤ p.cs.length) ∧ (p.cs.all clP = (p.cs.drop i).all clP)) (p.cs.length - 0) ?_ ?_
 ·exact ⟨0, (by omega), H.keep (by kernel_rfl), HP, (Nat.zero_le _), rfl⟩
 rintro mm a w_1 ⟨i, hmeas, H, HP, hib, hrel⟩
 refine sq (rg ?_)
 refine H.v 19 (.bool (decide ((i : Int) < (p.cs.length : Int)))) fun a H => ?_
 refine nl (tn (sq ?_))
 refine w_if H rfl (fun g19 => ?_) (fun g19 => ?_)
 ·have g19p := of_decide_eq_true g19
  refine sk (tn (sq (bk (sq ?_))))
  obtain ⟨bu_3, ou_4, x_2, hA_5, _, hd_7, hx_6, hm_8, _⟩ := IsRow.get clC_size (hBk.below HP.bl).pl.cs (i := i) (by omega)
  refine rg ?_
  refine H.u 20 (.pointer (some ⟨bu_3, ou_4 + i * 8, none⟩)) (ex_indexA (b := bu_3) (off := ou_4) (len := p.cs.length) (cap := p.cc) (e := 73) (k := 8) (ik := .i64) (i := (i : Int)) (m := i) hA_5 (by kernel_rfl) (by kernel_rfl) (by omega) (by omega) (by kernel_rfl) (by kernel_rfl)) fun a H => H.u 21 (clV x_2) (ex_lN (clL x_2) (IsRow.cells clC_size (hBk.below HP.bl).pl.cs hA_5 hx_6)) fun a H => H.al HP 4 73 [(ii 0), (ii 0), (ii 0), (ii 0), (ii 0), (ii 0), (ii 0), (ii 0)] fun b_9 w_10 a H HP => H.st HP 0 b_9 0 8 73 true (clV x_2) [bx b_9 73 (clL x_2) true] rfl fun w_11 a H HP => ?_
  refine nl (tn (sq (rg ?_)))
  refine H.u 22 (clV x_2) (ex_lN (clL x_2) (HP.cells 0 rfl 0 8 (by kernel_rfl))) fun a H => H.cb HP 23 (Tryz.call75 _ _) (rightsV_any x_2 w_11) fun w_12 hb a H HP => H.v 24 (.bool (!(clP x_2))) fun a H => ?_
  refine nl (tn ?_)
  refine w_if H rfl (fun g24 => ?_) (fun g24 => ?_)
  ·have g24p := not_is_true g24
   refine sq (rg ?_)
   refine H.v 2 (.bool false) fun a H => ?_
   refine nl (tn (rt (ibr (tr (tr (ibr (tr ?_)))))))
   refine H.r1 (.bool false) Tryz.results35 ?_
   exact ⟨by unfold clsP; rw [hrel, hd_7, List.all_cons, g24p]; simp, HP.bl⟩
  have g24p := not_is_false g24
  refine sk (ibn (tn (rg ?_)))
  refine H.valE 25 (ii (IntKind.i64.wrap ((i : Int) + 1))) (ii ((i : Int) + 1)) (by kernel_rfl) (by kernel_rfl) ((by rw [wrap_ini64 _ (by omega)])) fun a H => H.v 18 (ii ((i : Int) + 1)) fun a H => ?_
  refine nl (tn ?_)
  have H := H.as 18 (ii ((i + 1 : Nat) : Int)) rfl rfl
  refine ⟨_, ?_, i + 1, rfl, H.keep (by kernel_rfl), (HP.tail rfl), (by omega), (by rw [hrel, hd_7, List.all_cons, g24p]; rfl)⟩
  omega
 have g19p := of_decide_eq_false g19
 refine wp_exit (then_exit (then_exit ?_))
 refine w_exit_here ?_
 refine tn (sq (rg ?_))
 refine H.v 2 (.bool true) fun a H => ?_
 refine nl (tn (rt ?_))
 refine H.r1 (.bool true) Tryz.results35 ?_
 exact ⟨by unfold clsP; rw [hrel, List.drop_eq_nil_of_le (by omega)]; simp [show (p.cs.length : Int) ≤ 400 by omega], HP.bl⟩
end Go.Proofs.YteeillphhiaopaaGreatDoor
namespace Go.Proofs.YteeillphhiaopaaGreatDoor
set_option maxRecDepth 100000
set_option maxHeartbeats 4000000
open Go.ChangeShapes Go.WideShapes Go.ChangeAt Go.RowKit
set_option linter.unusedVariables false
set_option linter.unusedSimpArgs false
def boxK (b : Nat) (t : TypeId) (vs : List Value) : FK := ⟨fun k => k = b, fun w => Box w b t vs.toArray⟩
theorem boxK_ok (b : Nat) (t : TypeId) (vs : List Value) : (boxK b t vs).ok := fun _ _ h hk _ => (hk b rfl).trans h
def mapK (b : Nat) (l : List (Int × Value)) : FK := ⟨fun k => k = b, fun w => MapAt w b l⟩
theorem mapK_ok (b : Nat) (l : List (Int × Value)) : (mapK b l).ok := fun _ _ h hk _ => (hk b rfl).trans h
theorem box_map {w : World} {b m : Nat} {t : TypeId} {vs : Array Value} {l : List (Int × Value)} (h : Box w b t vs) (h' : MapAt w m l) : b ≠ m := fun e => by
 subst e
 unfold Box at h
 unfold MapAt at h'
 rw [h] at h'
 cases h'
theorem rateP_eq (n d : Int) : rateP n d = rateOk n d := by
 unfold rateP rateOk
 rw [show rateL = rateTab from rfl, List.contains_eq_any_beq]
 congr 1
 funext p
 rw [Bool.eq_iff_iff]
 simp only [beq_iff_eq, Bool.and_eq_true, Prod.ext_iff]
 exact ⟨fun h => ⟨h.1.symm, h.2.symm⟩, fun h => ⟨h.1.symm, h.2.symm⟩⟩
theorem soundP_eq (p : Pln) : soundP p = (inR p.channel 0 39 && rateOk p.num p.den && zoneP p.offset p.sh && inR p.epoch 0 9000000000 && inR p.regions 1 8 && inR p.length 1 100000000) := by
 unfold soundP; rw [rateP_eq]
theorem sound_facts {p : Pln} (h : soundP p = true) : (1 ≤ p.regions ∧ p.regions ≤ 8) ∧ (1 ≤ p.length ∧ p.length ≤ 100000000) := by
 unfold soundP at h
 simp only [Bool.and_eq_true, inR_iff] at h
 exact ⟨h.1.2, h.2⟩
theorem its_facts {l : List Itm} {fill : Int} (h : itsP l fill = true) : l.all itemP = true := by
 unfold itsP at h
 simp only [Bool.and_eq_true] at h
 exact h.1.2
theorem asc_fresh {α : Type} {f : α → Int} {lo hi : Int} {l : List α} (h : asc lo hi (l.map f) = true) {i : Nat} {x : α} (hx : l[i]? = some x) : ∀ y ∈ l.take i, f y ≠ f x := by
 intro y hy
 have hp := asc_pair h
 rw [List.pairwise_map] at hp
 have hi := (List.getElem?_eq_some_iff.1 hx).1
 have hs : l = l.take i ++ x :: l.drop (i + 1) := by
  have : x = l[i] := ((List.getElem?_eq_some_iff.1 hx).2).symm
  rw [this, List.getElem_cons_drop, List.take_append_drop]
 rw [hs, List.pairwise_append] at hp
 have := hp.2.2 y hy x (List.mem_cons_self ..)
 omega
theorem take_snoc {α : Type} {l : List α} {i : Nat} {x : α} (hx : l[i]? = some x) : l.take (i + 1) = l.take i ++ [x] := by
 rw [List.take_add_one, hx]; rfl
theorem itM_snoc {l : List Itm} {i : Nat} {x : Itm} (hx : l[i]? = some x) : itM (l.take i) ++ [(x.id, .agg (itC x))] = itM (l.take (i + 1)) := by
 rw [take_snoc hx]; simp [itM]
theorem bkM_snoc {l : List Bkg} {i : Nat} {x : Bkg} (hx : l[i]? = some x) : bkM (l.take i) ++ [(x.id, .agg (bkC x))] = bkM (l.take (i + 1)) := by
 rw [take_snoc hx]; simp [bkM]
theorem ids_snoc {l : List Ent} {i : Nat} {x : Ent} (hx : l[i]? = some x) : (l.take i).map (fun x => x.id) ++ [x.id] = (l.take (i + 1)).map (fun x => x.id) := by
 rw [take_snoc hx]; simp
theorem se_snoc {l : List Ent} {i : Nat} {x : Ent} (hx : l[i]? = some x) : seM ((l.take i).map (fun x => x.id)) ++ [(x.id, .bool true)] = seM ((l.take (i + 1)).map (fun x => x.id)) := by
 rw [take_snoc hx]; simp [seM]
theorem fr_it {l : List Itm} {k : Int} (h : ∀ y ∈ l, y.id ≠ k) : ∀ z ∈ itM l, z.1 ≠ k := by
 intro z hz
 simp only [itM, List.mem_map] at hz
 obtain ⟨y, hy, rfl⟩ := hz
 exact h y hy
theorem fr_bk {l : List Bkg} {k : Int} (h : ∀ y ∈ l, y.id ≠ k) : ∀ z ∈ bkM l, z.1 ≠ k := by
 intro z hz
 simp only [bkM, List.mem_map] at hz
 obtain ⟨y, hy, rfl⟩ := hz
 exact h y hy
theorem se_none {l : List Int} {k : Int} (h : l.contains k = false) : mget k (seM l) = none := by
 have := (mget_se l k).2
 rw [h] at this
 cases hm : mget k (seM l) with
 | none => rfl
 | some v => rw [hm] at this; cases this
theorem Hp.fp_new {w0 w : World} {L : List HB} {K : List FK} (H : Hp w0 w L K) (i : Nat) {b : Nat} {l : List (Int × Value)} (hi : L[i]? = some (mapB b l true)) {k : Nat} (hk : k < w0.heap.size) : k ≠ b := fun e => by
 have := H.fresh _ (List.mem_of_getElem? hi) rfl b rfl
 omega
theorem pair_at {α : Type} {R : α → α → Prop} {L : List α} (h : L.Pairwise R) : ∀ {i j : Nat} {x y : α}, L[i]? = some x → L[j]? = some y → i < j → R x y := by
 intro i j x y hx hy hij
 obtain ⟨h1, rfl⟩ := List.getElem?_eq_some_iff.1 hx
 obtain ⟨h2, rfl⟩ := List.getElem?_eq_some_iff.1 hy
 exact List.pairwise_iff_getElem.1 h i j h1 h2 hij
theorem Hp.two {w0 w : World} {L : List HB} {K : List FK} (H : Hp w0 w L K) (i j : Nat) {b c : Nat} {l l' : List (Int × Value)} {f f' : Bool} (hi : L[i]? = some (mapB b l f)) (hj : L[j]? = some (mapB c l' f')) (hij : i < j) : b ≠ c := fun e => pair_at H.apart hi hj hij b rfl e
theorem sound_any (b m1 m2 : Nat) (p : Pln) (w : World) (hbx : Box w b 67 (bookC p m1 m2).toArray) (hpl : IsPln w p) (hL : LaidR w) : Calls Tryz.prog 31 #[.pointer (some ⟨b, 0, none⟩)] w fun e w' => e = .returned (.bool (soundP p)) ∧ Below w.heap.size w w' := by
 have HP := Hp.start w
 refine w_enter 49 [(0, (pt b 0))] Tryz.func31 rfl Tryz.ntmps31 (by kernel_rfl) (by kernel_rfl) fun a H => ?_
 refine sq (rg ?_)
 refine H.v 2 (.bool false) fun a H => ?_
 refine nl (tn (sq (rg ?_)))
 refine H.v 3 (pt b 0) fun a H => H.v 4 (pt b 0) fun a H => H.v 5 (pt b 0) fun a H => H.v 6 (pt b 0) fun a H => H.u 7 (ii p.channel) (ex_l1 ((hbx.next HP.bl).cell (i := 0) rfl)) fun a H => H.cb HP 8 (Tryz.call67 _ _) (within_any p.channel 0 39 w) fun w_1 hb a H HP => H.v 9 (.bool (inR p.channel 0 39)) fun a H => ?_
 refine H.split 9 rfl (fun g9 H => ?_) (fun g9 H => ?_)
 ·have g9p := inR_iff.1 g9
  refine H.v 10 (pt b 0) fun a H => H.v 11 (pt b 0) fun a H => H.v 12 (pt b 0) fun a H => H.v 13 (pt b 1) fun a H => H.u 14 (.agg #[(ii p.num), (ii p.den)]) (ex_lN [(ii p.num), (ii p.den)] (cells2 ((hbx.next HP.bl).cell (i := 1) rfl) ((hbx.next HP.bl).cell (i := 2) rfl))) fun a H => H.cb HP 15 (Tryz.call68 _ _) (tvalid_any p.num p.den w_1 (hL.below HP.bl)) fun w_2 hb a H HP => H.v 16 (.bool (rateOk p.num p.den)) fun a H => H.v 17 (.bool (rateOk p.num p.den)) fun a H => ?_
  refine H.split 17 rfl (fun g17 H => ?_) (fun g17 H => ?_)
  ·have g17p := g17
   refine H.v 18 (pt b 0) fun a H => H.v 19 (pt b 0) fun a H => H.v 20 (pt b 0) fun a H => H.v 21 (pt b 3) fun a H => H.u 22 (.agg #[(ii p.offset), (.slice p.SA p.sh.length p.sc)]) (ex_lN [(ii p.offset), (.slice p.SA p.sh.length p.sc)] (cells2 ((hbx.next HP.bl).cell (i := 3) rfl) ((hbx.next HP.bl).cell (i := 4) rfl))) fun a H => H.cb HP 23 (Tryz.call69 _ _) (zone_any p.offset p.SA p.sc p.sh w_2 (hpl.sh.below HP.bl) hpl.lsh) fun w_3 hb a H HP => H.v 24 (.bool (zoneP p.offset p.sh)) fun a H => H.v 25 (.bool (zoneP p.offset p.sh)) fun a H => ?_
   refine H.split 25 rfl (fun g25 H => ?_) (fun g25 H => ?_)
   ·have g25p := g25
    refine H.v 26 (pt b 0) fun a H => H.v 27 (pt b 0) fun a H => H.v 28 (pt b 0) fun a H => H.v 29 (pt b 5) fun a H => H.u 30 (ii p.epoch) (ex_l1 ((hbx.next HP.bl).cell (i := 5) rfl)) fun a H => H.cb HP 31 (Tryz.call67 _ _) (within_any p.epoch 0 9000000000 w_3) fun w_4 hb a H HP => H.v 32 (.bool (inR p.epoch 0 9000000000)) fun a H => H.v 33 (.bool (inR p.epoch 0 9000000000)) fun a H => ?_
    refine H.split 33 rfl (fun g33 H => ?_) (fun g33 H => ?_)
    ·have g33p := inR_iff.1 g33
     refine H.v 34 (pt b 0) fun a H => H.v 35 (pt b 0) fun a H => H.v 36 (pt b 0) fun a H => H.v 37 (pt b 6) fun a H => H.u 38 (ii p.regions) (ex_l1 ((hbx.next HP.bl).cell (i := 6) rfl)) fun a H => H.cb HP 39 (Tryz.call67 _ _) (within_any p.regions 1 8 w_4) fun w_5 hb a H HP => H.v 40 (.bool (inR p.regions 1 8)) fun a H => H.v 41 (.bool (inR p.regions 1 8)) fun a H => ?_
     refine H.split 41 rfl (fun g41 H => ?_) (fun g41 H => ?_)
     ·have g41p := inR_iff.1 g41
      refine H.v 42 (pt b 0) fun a H => H.v 43 (pt b 0) fun a H => H.v 44 (pt b 0) fun a H => H.v 45 (pt b 7) fun a H => H.u 46 (ii p.length) (ex_l1 ((hbx.next HP.bl).cell (i := 7) rfl)) fun a H => H.cb HP 47 (Tryz.call67 _ _) (within_any p.length 1 100000000 w_5) fun w_6 hb a H HP => H.v 48 (.bool (inR p.length 1 100000000)) fun a H => H.v 2 (.bool (inR p.length 1 100000000)) fun a H => ?_
      refine nl (tn (rt ?_))
      refine H.r1 (.bool (inR p.length 1 100000000)) Tryz.results31 ?_
      exact ⟨by rw [show soundP p = (inR p.length 1 100000000) from by simp [soundP_eq, g9, g17, g25, g33, g41]], HP.bl⟩
     have g41p := inR_not.1 g41
     iterate 6 refine H.sx rfl fun a H => ?_
     refine H.v 48 (.bool false) fun a H => H.v 2 (.bool false) fun a H => ?_
     refine nl (tn (rt ?_))
     refine H.r1 (.bool false) Tryz.results31 ?_
     exact ⟨by rw [show soundP p = (false) from by simp [soundP_eq, g9, g17, g25, g33, g41]], HP.bl⟩
    have g33p := inR_not.1 g33
    iterate 6 refine H.sx rfl fun a H => ?_
    refine H.v 40 (.bool false) fun a H => H.v 41 (.bool false) fun a H => ?_
    iterate 6 refine H.sx rfl fun a H => ?_
    refine H.v 48 (.bool false) fun a H => H.v 2 (.bool false) fun a H => ?_
    refine nl (tn (rt ?_))
    refine H.r1 (.bool false) Tryz.results31 ?_
    exact ⟨by rw [show soundP p = (false) from by simp [soundP_eq, g9, g17, g25, g33]], HP.bl⟩
   have g25p := g25
   iterate 6 refine H.sx rfl fun a H => ?_
   refine H.v 32 (.bool false) fun a H => H.v 33 (.bool false) fun a H => ?_
   iterate 6 refine H.sx rfl fun a H => ?_
   refine H.v 40 (.bool false) fun a H => H.v 41 (.bool false) fun a H => ?_
   iterate 6 refine H.sx rfl fun a H => ?_
   refine H.v 48 (.bool false) fun a H => H.v 2 (.bool false) fun a H => ?_
   refine nl (tn (rt ?_))
   refine H.r1 (.bool false) Tryz.results31 ?_
   exact ⟨by rw [show soundP p = (false) from by simp [soundP_eq, g9, g17, g25]], HP.bl⟩
  have g17p := g17
  iterate 6 refine H.sx rfl fun a H => ?_
  refine H.v 24 (.bool false) fun a H => H.v 25 (.bool false) fun a H => ?_
  iterate 6 refine H.sx rfl fun a H => ?_
  refine H.v 32 (.bool false) fun a H => H.v 33 (.bool false) fun a H => ?_
  iterate 6 refine H.sx rfl fun a H => ?_
  refine H.v 40 (.bool false) fun a H => H.v 41 (.bool false) fun a H => ?_
  iterate 6 refine H.sx rfl fun a H => ?_
  refine H.v 48 (.bool false) fun a H => H.v 2 (.bool false) fun a H => ?_
  refine nl (tn (rt ?_))
  refine H.r1 (.bool false) Tryz.results31 ?_
  exact ⟨by rw [show soundP p = (false) from by simp [soundP_eq, g9, g17]], HP.bl⟩
 have g9p := inR_not.1 g9
 iterate 6 refine H.sx rfl fun a H => ?_
 refine H.v 16 (.bool false) fun a H => H.v 17 (.bool false) fun a H => ?_
 iterate 6 refine H.sx rfl fun a H => ?_
 refine H.v 24 (.bool false) fun a H => H.v 25 (.bool false) fun a H => ?_
 iterate 6 refine H.sx rfl fun a H => ?_
 refine H.v 32 (.bool false) fun a H => H.v 33 (.bool false) fun a H => ?_
 iterate 6 refine H.sx rfl fun a H => ?_
 refine H.v 40 (.bool false) fun a H => H.v 41 (.bool false) fun a H => ?_
 iterate 6 refine H.sx rfl fun a H => ?_
 refine H.v 48 (.bool false) fun a H => H.v 2 (.bool false) fun a H => ?_
 refine nl (tn (rt ?_))
 refine H.r1 (.bool false) Tryz.results31 ?_
 exact ⟨by rw [show soundP p = (false) from by simp [soundP_eq, g9]], HP.bl⟩
theorem hasItems_any (b m1 m2 : Nat) (p : Pln) (w : World) (hbx : Box w b 67 (bookC p m1 m2).toArray) (hm : MapAt w m1 []) (hpl : IsPln w p) (hfp : ∀ k, p.fp k → k ≠ m1) : Calls Tryz.prog 32 #[.pointer (some ⟨b, 0, none⟩)] w fun e w' => e = .returned (.bool (itsP p.its p.fill)) ∧ ∃ l, MapAt w' m1 l ∧ (itsP p.its p.fill = true → l = itM p.its) ∧ w.grownBy w' (some m1) := by
 have hlI := hpl.lits
 unfold maxLen at hlI
 have hne : b ≠ m1 := box_map hbx hm
 have HP : Hp w w [mapB m1 (itM []) false] [boxK b 67 (bookC p m1 m2), plnK p] := ((Hp.ownM hm).keepF (plnK p) hpl (plnK_ok p) (fun k hk => ⟨hpl.lt k hk, by simpa [mapB] using hfp k hk⟩)).keepF (boxK b 67 (bookC p m1 m2)) hbx (boxK_ok _ _ _) (fun k hk => ⟨by cases hk; exact hbx.lt, by cases hk; simpa [mapB] using hne⟩)
 refine w_enter 73 [(0, (pt b 0))] Tryz.func32 rfl Tryz.ntmps32 (by kernel_rfl) (by kernel_rfl) fun a H => ?_
 refine sq (rg ?_)
 refine H.v 2 (.bool false) fun a H => ?_
 refine nl (tn (sq (sq (rg ?_))))
 refine H.v 5 (pt b 0) fun a H => H.v 6 (pt b 0) fun a H => H.v 7 (pt b 0) fun a H => H.v 8 (pt b 9) fun a H => H.u 9 (.slice p.IA p.its.length p.ic) (ex_l1 (((HP.fact 0 rfl : Box _ b 67 _)).cell (i := 9) rfl)) fun a H => H.v 10 (ii p.its.length) fun a H => H.v 11 (.bool (decide ((p.its.length : Int) > 4000))) fun a H => H.v 12 (.bool (decide ((p.its.length : Int) > 4000))) fun a H => ?_
 refine H.split 12 rfl (fun g12 H => ?_) (fun g12 H => ?_)
 ·have g12p := of_decide_eq_true g12
  iterate 7 refine H.sx rfl fun a H => ?_
  refine H.vx rfl (.bool true) fun a H => ?_
  refine nl (tn ?_)
  refine w_ift H rfl ?_
  refine sq (rg ?_)
  refine H.v 2 (.bool false) fun a H => ?_
  refine nl (tn (rt (tr ?_)))
  refine H.r1 (.bool false) Tryz.results32 ?_
  have hv : itsP p.its p.fill = false := by simp [itsP, show ¬ (p.its.length : Int) ≤ 4000 by omega]
  exact ⟨by rw [hv], _, HP.mapAt 0 rfl, (fun h => by rw [hv] at h; cases h), HP.only m1 (by simp [bx, mapB])⟩
 have g12p := of_decide_eq_false g12
 refine H.v 13 (pt b 0) fun a H => H.v 14 (pt b 0) fun a H => H.v 15 (pt b 0) fun a H => H.v 16 (pt b 9) fun a H => H.u 17 (.slice p.IA p.its.length p.ic) (ex_l1 (((HP.fact 0 rfl : Box _ b 67 _)).cell (i := 9) rfl)) fun a H => H.cb HP 18 (Tryz.call70 _ _) (ascI_any p.IA p.ic p.its 1 1000000 w ((HP.fact 1 rfl : IsPln _ p).its) (by unfold maxLen; omega) (by omega)) fun w_1 hb a H HP => H.v 19 (.bool (!(asc (1 - 1) 1000000 (p.its.map (fun x => x.id))))) fun a H => H.v 20 (.bool (!(asc (1 - 1) 1000000 (p.its.map (fun x => x.id))))) fun a H => ?_
 refine nl (tn ?_)
 refine w_if H rfl (fun g20 => ?_) (fun g20 => ?_)
 ·have g20p := not_is_true g20
  refine sq (rg ?_)
  refine H.v 2 (.bool false) fun a H => ?_
  refine nl (tn (rt (tr ?_)))
  refine H.r1 (.bool false) Tryz.results32 ?_
  have hv : itsP p.its p.fill = false := by simp [itsP, show asc 0 1000000 (p.its.map (fun x => x.id)) = false from g20p]
  exact ⟨by rw [hv], _, HP.mapAt 0 rfl, (fun h => by rw [hv] at h; cases h), HP.only m1 (by simp [bx, mapB])⟩
 have g20p := not_is_false g20
 refine sk (tn (sq (sq (rg ?_))))
 refine H.v 21 (pt b 0) fun a H => H.v 22 (pt b 0) fun a H => H.v 23 (pt b 0) fun a H => H.v 24 (pt b 9) fun a H => H.u 25 (.slice p.IA p.its.length p.ic) (ex_l1 (((HP.fact 0 rfl : Box _ b 67 _)).cell (i := 9) rfl)) fun a H => H.v 26 (ii p.its.length) fun a H => H.v 27 (ii 0) fun a H => ?_
 refine nl (tn (bk ?_))
 refine w_loop (fun mm a wv => ∃ (i : Nat), p.its.length - i = mm ∧ Sl 73 [(27, (ii i)), (26, (ii p.its.length)), (25, (.slice p.IA p.its.length p.ic)), (24, (pt b 9)), (23, (pt b 0)), (22, (pt b 0)), (21, (pt b 0)), (20, (.bool (!(asc (1 - 1) 1000000 (p.its.map (fun x => x.id)))))), (19, (.bool (!(asc (1 - 1) 1000000 (p.its.map (fun x => x.id)))))), (18, (.bool (asc (1 - 1) 1000000 (p.its.map (fun x => x.id))))), (17, (.slice p.IA p.its.length p.ic)), (16, (pt b 9)), (15, (pt b 0)), (14, (pt b 0)), (13, (pt b 0)), (12, (.bool false)), (11, (.bool (decide ((p.its.length : Int) > 4000)))), (10, (ii p.its.length)), (9, (.slice p.IA p.its.length p.ic)), (8, (pt b 9)), (7, (pt b 0)), (6, (pt b 0)), (5, (pt b 0)), (0, (pt b 0))] a ∧ Hp w wv [(mapB m1 (itM (p.its.take i)) false)] [boxK b 67 (bookC p m1 m2), plnK p] ∧ (i ≤ p.its.length) ∧ (p.its.all itemP = (p.its.drop i).all itemP)) (p.its.length - 0) ?_ ?_
 ·exact ⟨0, (by omega), H.keep (by kernel_rfl), HP, (Nat.zero_le _), rfl⟩
 rintro mm a w_2 ⟨i, hmeas, H, HP, hib, hrel⟩
 refine sq (rg ?_)
 refine H.v 28 (.bool (decide ((i : Int) < (p.its.length : Int)))) fun a H => ?_
 refine nl (tn (sq ?_))
 refine w_if H rfl (fun g28 => ?_) (fun g28 => ?_)
 ·have g28p := of_decide_eq_true g28
  refine sk (tn (sq (bk (sq ?_))))
  obtain ⟨bu_4, ou_5, x_3, hA_6, _, hd_8, hx_7, hm_9, _⟩ := IsRow.get itC_size (HP.fact 1 rfl : IsPln _ p).its (i := i) (by omega)
  have hfr := asc_fresh g20p hx_7
  refine rg ?_
  refine H.u 29 (.pointer (some ⟨bu_4, ou_5 + i * 5, none⟩)) (ex_indexA (b := bu_4) (off := ou_5) (len := p.its.length) (cap := p.ic) (e := 38) (k := 5) (ik := .i64) (i := (i : Int)) (m := i) hA_6 (by kernel_rfl) (by kernel_rfl) (by omega) (by omega) (by kernel_rfl) (by kernel_rfl)) fun a H => H.u 30 (itV x_3) (ex_lN (itL x_3) (IsRow.cells itC_size (HP.fact 1 rfl : IsPln _ p).its hA_6 hx_7)) fun a H => H.al HP 4 38 [(ii 0), (ii 0), (ii 0), (ii 0), (ii 0)] fun b_10 w_11 a H HP => H.st HP 0 b_10 0 5 38 true (itV x_3) [bx b_10 38 (itL x_3) true, (mapB m1 (itM (p.its.take i)) false)] rfl fun w_12 a H HP => ?_
  refine nl (tn (sq (sq (rg ?_))))
  refine H.v 31 (pt b_10 1) fun a H => H.u 32 (ii x_3.kind) (ex_l1 (HP.cell 0 rfl 1 rfl)) fun a H => H.cb HP 33 (Tryz.call67 _ _) (within_any x_3.kind 1 5 w_12) fun w_13 hb a H HP => H.v 34 (.bool (!(inR x_3.kind 1 5))) fun a H => H.v 35 (.bool (!(inR x_3.kind 1 5))) fun a H => ?_
  refine H.split 35 rfl (fun g35 H => ?_) (fun g35 H => ?_)
  ·have g35p := inR_not.1 (not_is_true g35)
   iterate 2 ((iterate 4 refine H.sx rfl fun a H => ?_); (iterate 2 refine H.vx rfl (.bool true) fun a H => ?_))
   iterate 4 refine H.sx rfl fun a H => ?_
   refine H.vx rfl (.bool true) fun a H => ?_
   refine nl (tn ?_)
   refine w_ift H rfl ?_
   refine sq (rg ?_)
   refine H.v 2 (.bool false) fun a H => ?_
   refine nl (tn (rt (tr (ibr (tr (tr (ibr (tr ?_))))))))
   refine H.r1 (.bool false) Tryz.results32 ?_
   have hv : itsP p.its p.fill = false := by unfold itsP; rw [hrel, hd_8, List.all_cons, show itemP x_3 = false from by (first | (rw [Bool.eq_iff_iff]; (try simp only [itemP, g12, g12p, g20, g20p, g28, g28p, g35, g35p]); (try simp only [Bool.and_eq_true, Bool.or_eq_true, Bool.not_eq_true', Bool.false_eq_true, decide_eq_true_eq, decide_eq_false_iff_not, inR_iff, inR_not, beq_iff_eq, bne_iff_ne, beq_eq_false_iff_ne, ne_eq, Bool.true_and, Bool.and_true, Bool.false_and, Bool.and_false, Bool.true_or, Bool.or_true, Bool.false_or, Bool.or_false, Bool.not_true, Bool.not_false, and_true, true_and, iff_true, true_iff, iff_false, false_iff, or_true, true_or, or_false, false_or, not_true_eq_false, not_false_eq_true, and_false, false_and]); first | omega | (simp; done) | (simp; omega)) | (simp [itemP, g12, g12p, g20, g20p, g28, g28p, g35, g35p]; done) | (simp [itemP, g12, g12p, g20, g20p, g28, g28p, g35, g35p] <;> simp [bne]))]; simp
   exact ⟨by rw [hv], _, HP.mapAt 1 rfl, (fun h => by rw [hv] at h; cases h), HP.only m1 (by simp [bx, mapB])⟩
  have g35p := inR_iff.1 (not_is_false g35)
  refine H.v 36 (pt b_10 2) fun a H => H.u 37 (ii x_3.frames) (ex_l1 (HP.cell 0 rfl 2 rfl)) fun a H => H.cb HP 38 (Tryz.call67 _ _) (within_any x_3.frames 1 100000000 w_13) fun w_14 hb a H HP => H.v 39 (.bool (!(inR x_3.frames 1 100000000))) fun a H => H.v 40 (.bool (!(inR x_3.frames 1 100000000))) fun a H => H.v 41 (.bool (!(inR x_3.frames 1 100000000))) fun a H => ?_
  refine H.split 41 rfl (fun g41 H => ?_) (fun g41 H => ?_)
  ·have g41p := inR_not.1 (not_is_true g41)
   iterate 4 refine H.sx rfl fun a H => ?_
   iterate 2 refine H.vx rfl (.bool true) fun a H => ?_
   iterate 4 refine H.sx rfl fun a H => ?_
   refine H.vx rfl (.bool true) fun a H => ?_
   refine nl (tn ?_)
   refine w_ift H rfl ?_
   refine sq (rg ?_)
   refine H.v 2 (.bool false) fun a H => ?_
   refine nl (tn (rt (tr (ibr (tr (tr (ibr (tr ?_))))))))
   refine H.r1 (.bool false) Tryz.results32 ?_
   have hv : itsP p.its p.fill = false := by unfold itsP; rw [hrel, hd_8, List.all_cons, show itemP x_3 = false from by (first | (rw [Bool.eq_iff_iff]; (try simp only [itemP, g12, g12p, g20, g20p, g28, g28p, g35, g35p, g41, g41p]); (try simp only [Bool.and_eq_true, Bool.or_eq_true, Bool.not_eq_true', Bool.false_eq_true, decide_eq_true_eq, decide_eq_false_iff_not, inR_iff, inR_not, beq_iff_eq, bne_iff_ne, beq_eq_false_iff_ne, ne_eq, Bool.true_and, Bool.and_true, Bool.false_and, Bool.and_false, Bool.true_or, Bool.or_true, Bool.false_or, Bool.or_false, Bool.not_true, Bool.not_false, and_true, true_and, iff_true, true_iff, iff_false, false_iff, or_true, true_or, or_false, false_or, not_true_eq_false, not_false_eq_true, and_false, false_and]); first | omega | (simp; done) | (simp; omega)) | (simp [itemP, g12, g12p, g20, g20p, g28, g28p, g35, g35p, g41, g41p]; done) | (simp [itemP, g12, g12p, g20, g20p, g28, g28p, g35, g35p, g41, g41p] <;> simp [bne]))]; simp
   exact ⟨by rw [hv], _, HP.mapAt 1 rfl, (fun h => by rw [hv] at h; cases h), HP.only m1 (by simp [bx, mapB])⟩
  have g41p := inR_iff.1 (not_is_false g41)
  refine H.v 42 (pt b_10 3) fun a H => H.u 43 (ii x_3.sponsor) (ex_l1 (HP.cell 0 rfl 3 rfl)) fun a H => H.cb HP 44 (Tryz.call67 _ _) (within_any x_3.sponsor 0 200 w_14) fun w_15 hb a H HP => H.v 45 (.bool (!(inR x_3.sponsor 0 200))) fun a H => H.v 46 (.bool (!(inR x_3.sponsor 0 200))) fun a H => H.v 47 (.bool (!(inR x_3.sponsor 0 200))) fun a H => ?_
  refine H.split 47 rfl (fun g47 H => ?_) (fun g47 H => ?_)
  ·have g47p := inR_not.1 (not_is_true g47)
   iterate 4 refine H.sx rfl fun a H => ?_
   refine H.vx rfl (.bool true) fun a H => ?_
   refine nl (tn ?_)
   refine w_ift H rfl ?_
   refine sq (rg ?_)
   refine H.v 2 (.bool false) fun a H => ?_
   refine nl (tn (rt (tr (ibr (tr (tr (ibr (tr ?_))))))))
   refine H.r1 (.bool false) Tryz.results32 ?_
   have hv : itsP p.its p.fill = false := by unfold itsP; rw [hrel, hd_8, List.all_cons, show itemP x_3 = false from by (first | (rw [Bool.eq_iff_iff]; (try simp only [itemP, g12, g12p, g20, g20p, g28, g28p, g35, g35p, g41, g41p, g47, g47p]); (try simp only [Bool.and_eq_true, Bool.or_eq_true, Bool.not_eq_true', Bool.false_eq_true, decide_eq_true_eq, decide_eq_false_iff_not, inR_iff, inR_not, beq_iff_eq, bne_iff_ne, beq_eq_false_iff_ne, ne_eq, Bool.true_and, Bool.and_true, Bool.false_and, Bool.and_false, Bool.true_or, Bool.or_true, Bool.false_or, Bool.or_false, Bool.not_true, Bool.not_false, and_true, true_and, iff_true, true_iff, iff_false, false_iff, or_true, true_or, or_false, false_or, not_true_eq_false, not_false_eq_true, and_false, false_and]); first | omega | (simp; done) | (simp; omega)) | (simp [itemP, g12, g12p, g20, g20p, g28, g28p, g35, g35p, g41, g41p, g47, g47p]; done) | (simp [itemP, g12, g12p, g20, g20p, g28, g28p, g35, g35p, g41, g41p, g47, g47p] <;> simp [bne]))]; simp
   exact ⟨by rw [hv], _, HP.mapAt 1 rfl, (fun h => by rw [hv] at h; cases h), HP.only m1 (by simp [bx, mapB])⟩
  have g47p := inR_iff.1 (not_is_false g47)
  refine H.v 48 (pt b_10 4) fun a H => H.u 49 (ii x_3.rating) (ex_l1 (HP.cell 0 rfl 4 rfl)) fun a H => H.cb HP 50 (Tryz.call67 _ _) (within_any x_3.rating 0 3 w_15) fun w_16 hb a H HP => H.v 51 (.bool (!(inR x_3.rating 0 3))) fun a H => H.v 52 (.bool (!(inR x_3.rating 0 3))) fun a H => ?_
  refine nl (tn ?_)
  refine w_if H rfl (fun g52 => ?_) (fun g52 => ?_)
  ·have g52p := inR_not.1 (not_is_true g52)
   refine sq (rg ?_)
   refine H.v 2 (.bool false) fun a H => ?_
   refine nl (tn (rt (tr (ibr (tr (tr (ibr (tr ?_))))))))
   refine H.r1 (.bool false) Tryz.results32 ?_
   have hv : itsP p.its p.fill = false := by unfold itsP; rw [hrel, hd_8, List.all_cons, show itemP x_3 = false from by (first | (rw [Bool.eq_iff_iff]; (try simp only [itemP, g12, g12p, g20, g20p, g28, g28p, g35, g35p, g41, g41p, g47, g47p, g52, g52p]); (try simp only [Bool.and_eq_true, Bool.or_eq_true, Bool.not_eq_true', Bool.false_eq_true, decide_eq_true_eq, decide_eq_false_iff_not, inR_iff, inR_not, beq_iff_eq, bne_iff_ne, beq_eq_false_iff_ne, ne_eq, Bool.true_and, Bool.and_true, Bool.false_and, Bool.and_false, Bool.true_or, Bool.or_true, Bool.false_or, Bool.or_false, Bool.not_true, Bool.not_false, and_true, true_and, iff_true, true_iff, iff_false, false_iff, or_true, true_or, or_false, false_or, not_true_eq_false, not_false_eq_true, and_false, false_and]); first | omega | (simp; done) | (simp; omega)) | (simp [itemP, g12, g12p, g20, g20p, g28, g28p, g35, g35p, g41, g41p, g47, g47p, g52, g52p]; done) | (simp [itemP, g12, g12p, g20, g20p, g28, g28p, g35, g35p, g41, g41p, g47, g47p, g52, g52p] <;> simp [bne]))]; simp
   exact ⟨by rw [hv], _, HP.mapAt 1 rfl, (fun h => by rw [hv] at h; cases h), HP.only m1 (by simp [bx, mapB])⟩
  have g52p := inR_iff.1 (not_is_false g52)
  refine sk (tn ?_)
  refine An.start (fun v => Hp w v [bx b_10 38 (itL x_3) true, (mapB m1 (itM (p.its.take i)) false)] [boxK b 67 (bookC p m1 m2), plnK p]) 7 8 HP wide_follows rfl fun w_17 HP => ?_
  refine An.p H (.inr HP) 0 53 (pt b 0) fun a H => ?_
  refine An.p H (.inr HP) 1 54 (pt b 0) fun a H => ?_
  refine An.p H (.inr HP) 2 55 (pt b 13) fun a H => ?_
  refine An.vw H (HP) 3 56 (.map (some m1)) (fun _ hS => ex_l1 (((hS.fact 0 rfl : Box _ b 67 _)).cell (i := 13) rfl)) fun a H => ?_
  refine An.p H (.inr HP) 4 57 (pt b_10 0) fun a H => ?_
  refine An.vw H (HP) 5 58 (ii x_3.id) (fun _ hS => ex_l1 (hS.cell 0 rfl 0 rfl)) fun a H => ?_
  refine An.vw H (HP) 6 59 (itV x_3) (fun _ hS => ex_lN (itL x_3) (hS.cells 0 rfl 0 5 (by kernel_rfl))) fun a H => ?_
  refine An.one 7 (by kernel_rfl) ?_
  refine Op.pushM (kt := 3) (et := 38) (k := x_3.id) (v := (itV x_3)) H HP 1 [bx b_10 38 (itL x_3) true, (mapB m1 ((itM (p.its.take i)) ++ [(x_3.id, (itV x_3))]) false)] rfl (by kernel_rfl) (by kernel_rfl) (by kernel_rfl) (by kernel_rfl) (by kernel_rfl) (by kernel_rfl) rfl (mget_none (fr_it hfr)) (by kernel_rfl) fun w_18 a H HP => ?_
  have HP : Hp w w_18 [bx b_10 38 (itL x_3) true, (mapB m1 (itM (p.its.take (i + 1))) false)] [boxK b 67 (bookC p m1 m2), plnK p] := by have hh := HP; rw [show (itM (p.its.take i)) ++ [(x_3.id, (itV x_3))] = (itM (p.its.take (i + 1))) from itM_snoc hx_7] at hh; exact hh
  refine ⟨.inl (by kernel_rfl), ?_⟩
  refine An.done (by kernel_rfl) ?_
  refine ibn (tn (rg ?_))
  refine H.valE 60 (ii (IntKind.i64.wrap ((i : Int) + 1))) (ii ((i : Int) + 1)) (by kernel_rfl) (by kernel_rfl) ((by rw [wrap_ini64 _ (by omega)])) fun a H => H.v 27 (ii ((i : Int) + 1)) fun a H => ?_
  refine nl (tn ?_)
  have H := H.as 27 (ii ((i + 1 : Nat) : Int)) rfl rfl
  refine ⟨_, ?_, i + 1, rfl, H.keep (by kernel_rfl), (HP.tail rfl), (by omega), (by rw [hrel, hd_8, List.all_cons, show itemP x_3 = true from by (first | (rw [Bool.eq_iff_iff]; (try simp only [itemP, g12, g12p, g20, g20p, g28, g28p, g35, g35p, g41, g41p, g47, g47p, g52, g52p]); (try simp only [Bool.and_eq_true, Bool.or_eq_true, Bool.not_eq_true', Bool.false_eq_true, decide_eq_true_eq, decide_eq_false_iff_not, inR_iff, inR_not, beq_iff_eq, bne_iff_ne, beq_eq_false_iff_ne, ne_eq, Bool.true_and, Bool.and_true, Bool.false_and, Bool.and_false, Bool.true_or, Bool.or_true, Bool.false_or, Bool.or_false, Bool.not_true, Bool.not_false, and_true, true_and, iff_true, true_iff, iff_false, false_iff, or_true, true_or, or_false, false_or, not_true_eq_false, not_false_eq_true, and_false, false_and]); first | omega | (simp; done) | (simp; omega)) | (simp [itemP, g12, g12p, g20, g20p, g28, g28p, g35, g35p, g41, g41p, g47, g47p, g52, g52p]; done) | (simp [itemP, g12, g12p, g20, g20p, g28, g28p, g35, g35p, g41, g41p, g47, g47p, g52, g52p] <;> simp [bne]))]; rfl)⟩
  omega
 have g28p := of_decide_eq_false g28
 refine wp_exit (then_exit (then_exit ?_))
 refine w_exit_here ?_
 refine tn (sq ?_)
 have ht : p.its.take i = p.its := List.take_of_length_le (by omega)
 rw [ht] at HP
 refine An.start (fun v => Hp w v [(mapB m1 (itM p.its) false)] [boxK b 67 (bookC p m1 m2), plnK p]) 13 13 HP wide_follows rfl fun w_19 HP => ?_
 refine An.p H (.inr HP) 0 61 (pt b 0) fun a H => ?_
 refine An.p H (.inr HP) 1 62 (pt b 0) fun a H => ?_
 refine An.p H (.inr HP) 2 63 (pt b 13) fun a H => ?_
 refine An.vw H (HP) 3 64 (.map (some m1)) (fun _ hS => ex_l1 (((hS.fact 0 rfl : Box _ b 67 _)).cell (i := 13) rfl)) fun a H => ?_
 refine An.p H (.inr HP) 4 65 (pt b 0) fun a H => ?_
 refine An.p H (.inr HP) 5 66 (pt b 0) fun a H => ?_
 refine An.p H (.inr HP) 6 67 (pt b 0) fun a H => ?_
 refine An.p H (.inr HP) 7 68 (pt b 8) fun a H => ?_
 refine An.vw H (HP) 8 69 (ii p.fill) (fun _ hS => ex_l1 (((hS.fact 0 rfl : Box _ b 67 _)).cell (i := 8) rfl)) fun a H => ?_
 refine An.vw H (HP) 9 70 (itV (gI p.its p.fill)) (fun _ hS => ex_lookI (l := p.its) (kt := 3) (et := 38) (s1 := 5) (s2 := 40) (by kernel_rfl) (by kernel_rfl) (by kernel_rfl) (by kernel_rfl) (by kernel_rfl) (hS.mapAt 0 rfl)) fun a H => ?_
 refine An.p H (.inr HP) 10 71 (ii ((gI p.its p.fill).kind)) fun a H => ?_
 refine An.p H (.inr HP) 11 72 (.bool (((gI p.its p.fill).kind) == 5)) fun a H => ?_
 refine An.p H (.inr HP) 12 2 (.bool (((gI p.its p.fill).kind) == 5)) fun a H => ?_
 refine An.done (by kernel_rfl) ?_
 refine tn (rt ?_)
 refine H.r1 (.bool (((gI p.its p.fill).kind) == 5)) Tryz.results32 ?_
 have hall : p.its.all itemP = true := by rw [hrel, List.drop_eq_nil_of_le (by omega)]; rfl
 have hasc : asc 0 1000000 (p.its.map (fun x => x.id)) = true := g20p
 have hlen : (p.its.length : Int) ≤ 4000 := by omega
 exact ⟨by rw [show itsP p.its p.fill = (((gI p.its p.fill).kind) == 5) from by unfold itsP; rw [hall, hasc]; simp [hlen]], _, HP.mapAt 0 rfl, (fun _ => rfl), HP.only m1 (by simp [bx, mapB])⟩
theorem hasBookings_any (b m1 m2 : Nat) (p : Pln) (w : World) (hbx : Box w b 67 (bookC p m1 m2).toArray) (hm1 : MapAt w m1 (itM p.its)) (hm : MapAt w m2 []) (hpl : IsPln w p) (hfp : ∀ k, p.fp k → k ≠ m2) (hmm : m1 ≠ m2) (hreg : 1 ≤ p.regions ∧ p.regions ≤ 8) : Calls Tryz.prog 33 #[.pointer (some ⟨b, 0, none⟩)] w fun e w' => e = .returned (.bool (bksP p.its p.regions p.bs)) ∧ ∃ l, MapAt w' m2 l ∧ (bksP p.its p.regions p.bs = true → l = bkM p.bs) ∧ w.grownBy w' (some m2) := by
 have hlI := hpl.lbs
 unfold maxLen at hlI
 have hne : b ≠ m2 := box_map hbx hm
 have HP0 : Hp w w [mapB m2 (bkM []) false] [mapK m1 (itM p.its)] := (Hp.ownM hm).keepF (mapK m1 (itM p.its)) hm1 (mapK_ok _ _) (fun k hk => ⟨by cases hk; exact hm1.lt, by cases hk; simpa [mapB] using hmm⟩)
 have HP : Hp w w [mapB m2 (bkM []) false] [boxK b 67 (bookC p m1 m2), plnK p, mapK m1 (itM p.its)] := (HP0.keepF (plnK p) hpl (plnK_ok p) (fun k hk => ⟨hpl.lt k hk, by simpa [mapB] using hfp k hk⟩)).keepF (boxK b 67 (bookC p m1 m2)) hbx (boxK_ok _ _ _) (fun k hk => ⟨by cases hk; exact hbx.lt, by cases hk; simpa [mapB] using hne⟩)
 refine w_enter 93 [(0, (pt b 0))] Tryz.func33 rfl Tryz.ntmps33 (by kernel_rfl) (by kernel_rfl) fun a H => ?_
 refine sq (rg ?_)
 refine H.v 2 (.bool false) fun a H => ?_
 refine nl (tn (sq (sq (rg ?_))))
 refine H.v 6 (pt b 0) fun a H => H.v 7 (pt b 0) fun a H => H.v 8 (pt b 0) fun a H => H.v 9 (pt b 11) fun a H => H.u 10 (.slice p.BA p.bs.length p.bc) (ex_l1 (((HP.fact 0 rfl : Box _ b 67 _)).cell (i := 11) rfl)) fun a H => H.v 11 (ii p.bs.length) fun a H => H.v 12 (.bool (decide ((p.bs.length : Int) > 2000))) fun a H => H.v 13 (.bool (decide ((p.bs.length : Int) > 2000))) fun a H => ?_
 refine H.split 13 rfl (fun g13 H => ?_) (fun g13 H => ?_)
 ·have g13p := of_decide_eq_true g13
  iterate 7 refine H.sx rfl fun a H => ?_
  refine H.vx rfl (.bool true) fun a H => ?_
  refine nl (tn ?_)
  refine w_ift H rfl ?_
  refine sq (rg ?_)
  refine H.v 2 (.bool false) fun a H => ?_
  refine nl (tn (rt (tr ?_)))
  refine H.r1 (.bool false) Tryz.results33 ?_
  have hv : bksP p.its p.regions p.bs = false := by simp [bksP, show ¬ (p.bs.length : Int) ≤ 2000 by omega]
  exact ⟨by rw [hv], _, HP.mapAt 0 rfl, (fun h => by rw [hv] at h; cases h), HP.only m2 (by simp [bx, mapB])⟩
 have g13p := of_decide_eq_false g13
 refine H.v 14 (pt b 0) fun a H => H.v 15 (pt b 0) fun a H => H.v 16 (pt b 0) fun a H => H.v 17 (pt b 11) fun a H => H.u 18 (.slice p.BA p.bs.length p.bc) (ex_l1 (((HP.fact 0 rfl : Box _ b 67 _)).cell (i := 11) rfl)) fun a H => H.cb HP 19 (Tryz.call71 _ _) (ascB_any p.BA p.bc p.bs 1 1000000 w ((HP.fact 1 rfl : IsPln _ p).bs) (by unfold maxLen; omega) (by omega)) fun w_1 hb a H HP => H.v 20 (.bool (!(asc (1 - 1) 1000000 (p.bs.map (fun x => x.id))))) fun a H => H.v 21 (.bool (!(asc (1 - 1) 1000000 (p.bs.map (fun x => x.id))))) fun a H => ?_
 refine nl (tn ?_)
 refine w_if H rfl (fun g21 => ?_) (fun g21 => ?_)
 ·have g21p := not_is_true g21
  refine sq (rg ?_)
  refine H.v 2 (.bool false) fun a H => ?_
  refine nl (tn (rt (tr ?_)))
  refine H.r1 (.bool false) Tryz.results33 ?_
  have hv : bksP p.its p.regions p.bs = false := by simp [bksP, show asc 0 1000000 (p.bs.map (fun x => x.id)) = false from g21p]
  exact ⟨by rw [hv], _, HP.mapAt 0 rfl, (fun h => by rw [hv] at h; cases h), HP.only m2 (by simp [bx, mapB])⟩
 have g21p := not_is_false g21
 refine sk (tn (sq (sq (rg ?_))))
 refine H.v 22 (pt b 0) fun a H => H.v 23 (pt b 0) fun a H => H.v 24 (pt b 0) fun a H => H.v 25 (pt b 11) fun a H => H.u 26 (.slice p.BA p.bs.length p.bc) (ex_l1 (((HP.fact 0 rfl : Box _ b 67 _)).cell (i := 11) rfl)) fun a H => H.v 27 (ii p.bs.length) fun a H => H.v 28 (ii 0) fun a H => ?_
 refine nl (tn (bk ?_))
 refine w_loop (fun mm a wv => ∃ (i : Nat), p.bs.length - i = mm ∧ Sl 93 [(28, (ii i)), (27, (ii p.bs.length)), (26, (.slice p.BA p.bs.length p.bc)), (25, (pt b 11)), (24, (pt b 0)), (23, (pt b 0)), (22, (pt b 0)), (21, (.bool (!(asc (1 - 1) 1000000 (p.bs.map (fun x => x.id)))))), (20, (.bool (!(asc (1 - 1) 1000000 (p.bs.map (fun x => x.id)))))), (19, (.bool (asc (1 - 1) 1000000 (p.bs.map (fun x => x.id))))), (18, (.slice p.BA p.bs.length p.bc)), (17, (pt b 11)), (16, (pt b 0)), (15, (pt b 0)), (14, (pt b 0)), (13, (.bool false)), (12, (.bool (decide ((p.bs.length : Int) > 2000)))), (11, (ii p.bs.length)), (10, (.slice p.BA p.bs.length p.bc)), (9, (pt b 11)), (8, (pt b 0)), (7, (pt b 0)), (6, (pt b 0)), (0, (pt b 0))] a ∧ Hp w wv [(mapB m2 (bkM (p.bs.take i)) false)] [boxK b 67 (bookC p m1 m2), plnK p, mapK m1 (itM p.its)] ∧ (i ≤ p.bs.length) ∧ (p.bs.all (bookP p.its p.regions) = (p.bs.drop i).all (bookP p.its p.regions))) (p.bs.length - 0) ?_ ?_
 ·exact ⟨0, (by omega), H.keep (by kernel_rfl), HP, (Nat.zero_le _), rfl⟩
 rintro mm a w_2 ⟨i, hmeas, H, HP, hib, hrel⟩
 refine sq (rg ?_)
 refine H.v 29 (.bool (decide ((i : Int) < (p.bs.length : Int)))) fun a H => ?_
 refine nl (tn (sq ?_))
 refine w_if H rfl (fun g29 => ?_) (fun g29 => ?_)
 ·have g29p := of_decide_eq_true g29
  refine sk (tn (sq (bk (sq ?_))))
  obtain ⟨bu_4, ou_5, x_3, hA_6, _, hd_8, hx_7, hm_9, _⟩ := IsRow.get bkC_size (HP.fact 1 rfl : IsPln _ p).bs (i := i) (by omega)
  have hfr := asc_fresh g21p hx_7
  refine rg ?_
  refine H.u 30 (.pointer (some ⟨bu_4, ou_5 + i * 7, none⟩)) (ex_indexA (b := bu_4) (off := ou_5) (len := p.bs.length) (cap := p.bc) (e := 47) (k := 7) (ik := .i64) (i := (i : Int)) (m := i) hA_6 (by kernel_rfl) (by kernel_rfl) (by omega) (by omega) (by kernel_rfl) (by kernel_rfl)) fun a H => H.u 31 (bkV x_3) (ex_lN (bkL x_3) (IsRow.cells bkC_size (HP.fact 1 rfl : IsPln _ p).bs hA_6 hx_7)) fun a H => H.al HP 4 47 [(ii 0), (ii 0), (ii 0), (ii 0), (ii 0), (ii 0), (ii 0)] fun b_10 w_11 a H HP => H.st HP 0 b_10 0 7 47 true (bkV x_3) [bx b_10 47 (bkL x_3) true, (mapB m2 (bkM (p.bs.take i)) false)] rfl fun w_12 a H HP => ?_
  refine nl (tn (sq (rg ?_)))
  refine H.v 32 (pt b_10 3) fun a H => H.u 33 (ii x_3.from_) (ex_l1 (HP.cell 0 rfl 3 rfl)) fun a H => H.v 34 (.bool (decide (0 ≤ x_3.from_))) fun a H => H.v 35 (.bool (decide (0 ≤ x_3.from_))) fun a H => ?_
  refine H.split 35 rfl (fun g35 H => ?_) (fun g35 H => ?_)
  ·have g35p := of_decide_eq_true g35
   refine H.v 36 (pt b_10 3) fun a H => H.u 37 (ii x_3.from_) (ex_l1 (HP.cell 0 rfl 3 rfl)) fun a H => H.v 38 (pt b_10 4) fun a H => H.u 39 (ii x_3.to_) (ex_l1 (HP.cell 0 rfl 4 rfl)) fun a H => H.v 40 (.bool (decide (x_3.from_ < x_3.to_))) fun a H => H.v 41 (.bool (decide (x_3.from_ < x_3.to_))) fun a H => H.v 42 (.bool (decide (x_3.from_ < x_3.to_))) fun a H => ?_
   refine H.split 42 rfl (fun g42 H => ?_) (fun g42 H => ?_)
   ·have g42p := of_decide_eq_true g42
    refine H.v 43 (pt b_10 4) fun a H => H.u 44 (ii x_3.to_) (ex_l1 (HP.cell 0 rfl 4 rfl)) fun a H => H.v 45 (pt b_10 5) fun a H => H.u 46 (ii x_3.until_) (ex_l1 (HP.cell 0 rfl 5 rfl)) fun a H => H.v 47 (.bool (decide (x_3.to_ ≤ x_3.until_))) fun a H => H.v 48 (.bool (decide (x_3.to_ ≤ x_3.until_))) fun a H => H.v 49 (.bool (decide (x_3.to_ ≤ x_3.until_))) fun a H => ?_
    refine H.split 49 rfl (fun g49 H => ?_) (fun g49 H => ?_)
    ·have g49p := of_decide_eq_true g49
     refine H.v 50 (pt b_10 5) fun a H => H.u 51 (ii x_3.until_) (ex_l1 (HP.cell 0 rfl 5 rfl)) fun a H => H.v 52 (.bool (decide (x_3.until_ ≤ 100000000))) fun a H => H.v 53 (.bool (decide (x_3.until_ ≤ 100000000))) fun a H => H.v 5 (.bool (decide (x_3.until_ ≤ 100000000))) fun a H => ?_
     refine nl (tn (sq (sq ?_)))
     refine An.start (fun v => Hp w v [bx b_10 47 (bkL x_3) true, (mapB m2 (bkM (p.bs.take i)) false)] [boxK b 67 (bookC p m1 m2), plnK p, mapK m1 (itM p.its)]) 31 31 HP wide_follows rfl fun w_13 HP => ?_
     refine An.p H (.inr HP) 0 54 (pt b 0) fun a H => ?_
     refine An.p H (.inr HP) 1 55 (pt b 0) fun a H => ?_
     refine An.p H (.inr HP) 2 56 (pt b 13) fun a H => ?_
     refine An.vw H (HP) 3 57 (.map (some m1)) (fun _ hS => ex_l1 (((hS.fact 0 rfl : Box _ b 67 _)).cell (i := 13) rfl)) fun a H => ?_
     refine An.p H (.inr HP) 4 58 (pt b_10 1) fun a H => ?_
     refine An.vw H (HP) 5 59 (ii x_3.item) (fun _ hS => ex_l1 (hS.cell 0 rfl 1 rfl)) fun a H => ?_
     refine An.vw H (HP) 6 60 (itV (gI p.its x_3.item)) (fun _ hS => ex_lookI (l := p.its) (kt := 3) (et := 38) (s1 := 5) (s2 := 40) (by kernel_rfl) (by kernel_rfl) (by kernel_rfl) (by kernel_rfl) (by kernel_rfl) ((hS.fact 2 rfl : MapAt _ m1 (itM p.its)))) fun a H => ?_
     refine An.p H (.inr HP) 7 61 (ii ((gI p.its x_3.item).kind)) fun a H => ?_
     refine An.p H (.inr HP) 8 62 (.bool (((gI p.its x_3.item).kind) != 2)) fun a H => ?_
     refine An.p H (.inr HP) 9 63 (.bool (((gI p.its x_3.item).kind) != 2)) fun a H => ?_
     refine H.split 63 rfl (fun g63 H => ?_) (fun g63 H => ?_)
     ·have g63p := bne_iff_ne.1 g63
      refine An.s H (.inr HP) 10 64 fun a H => ?_
      refine An.s H (.inr HP) 11 65 fun a H => ?_
      refine An.s H (.inr HP) 12 66 fun a H => ?_
      refine An.s H (.inr HP) 13 67 fun a H => ?_
      refine An.s H (.inr HP) 14 68 fun a H => ?_
      refine An.s H (.inr HP) 15 69 fun a H => ?_
      refine An.s H (.inr HP) 16 70 fun a H => ?_
      refine An.s H (.inr HP) 17 71 fun a H => ?_
      refine An.s H (.inr HP) 18 72 fun a H => ?_
      refine An.s H (.inr HP) 19 73 fun a H => ?_
      refine An.p H (.inr HP) 20 74 (.bool true) fun a H => ?_
      refine An.p H (.inr HP) 21 75 (.bool true) fun a H => ?_
      refine An.s H (.inr HP) 22 76 fun a H => ?_
      refine An.s H (.inr HP) 23 77 fun a H => ?_
      refine An.p H (.inr HP) 24 78 (.bool true) fun a H => ?_
      refine An.p H (.inr HP) 25 79 (.bool true) fun a H => ?_
      refine An.s H (.inr HP) 26 80 fun a H => ?_
      refine An.s H (.inr HP) 27 81 fun a H => ?_
      refine An.s H (.inr HP) 28 82 fun a H => ?_
      refine An.s H (.inr HP) 29 83 fun a H => ?_
      refine An.p H (.inr HP) 30 84 (.bool true) fun a H => ?_
      refine An.done (by kernel_rfl) ?_
      refine tn ?_
      refine w_ift H rfl ?_
      refine sq (rg ?_)
      refine H.v 2 (.bool false) fun a H => ?_
      refine nl (tn (rt (tr (ibr (tr (tr (ibr (tr ?_))))))))
      refine H.r1 (.bool false) Tryz.results33 ?_
      have hv : bksP p.its p.regions p.bs = false := by unfold bksP; rw [hrel, hd_8, List.all_cons, show (bookP p.its p.regions) x_3 = false from by (first | (rw [Bool.eq_iff_iff]; (try simp only [bookP, g13, g13p, g21, g21p, g29, g29p, g35, g35p, g42, g42p, g49, g49p, g63, g63p]); (try simp only [Bool.and_eq_true, Bool.or_eq_true, Bool.not_eq_true', Bool.false_eq_true, decide_eq_true_eq, decide_eq_false_iff_not, inR_iff, inR_not, beq_iff_eq, bne_iff_ne, beq_eq_false_iff_ne, ne_eq, Bool.true_and, Bool.and_true, Bool.false_and, Bool.and_false, Bool.true_or, Bool.or_true, Bool.false_or, Bool.or_false, Bool.not_true, Bool.not_false, and_true, true_and, iff_true, true_iff, iff_false, false_iff, or_true, true_or, or_false, false_or, not_true_eq_false, not_false_eq_true, and_false, false_and]); first | omega | (simp; done) | (simp; omega)) | (simp [bookP, g13, g13p, g21, g21p, g29, g29p, g35, g35p, g42, g42p, g49, g49p, g63, g63p]; done) | (simp [bookP, g13, g13p, g21, g21p, g29, g29p, g35, g35p, g42, g42p, g49, g49p, g63, g63p] <;> simp [bne]))]; simp
      exact ⟨by rw [hv], _, HP.mapAt 1 rfl, (fun h => by rw [hv] at h; cases h), HP.only m2 (by simp [bx, mapB])⟩
     have g63p := eq_of_bne_false g63
     refine An.p H (.inr HP) 10 64 (pt b_10 2) fun a H => ?_
     refine An.vw H (HP) 11 65 (ii x_3.region) (fun _ hS => ex_l1 (hS.cell 0 rfl 2 rfl)) fun a H => ?_
     refine An.p H (.inr HP) 12 66 (pt b 0) fun a H => ?_
     refine An.p H (.inr HP) 13 67 (pt b 0) fun a H => ?_
     refine An.p H (.inr HP) 14 68 (pt b 0) fun a H => ?_
     refine An.p H (.inr HP) 15 69 (pt b 6) fun a H => ?_
     refine An.vw H (HP) 16 70 (ii p.regions) (fun _ hS => ex_l1 (((hS.fact 0 rfl : Box _ b 67 _)).cell (i := 6) rfl)) fun a H => ?_
     refine An.pureE H (.inr (HP)) 17 71 (ii (IntKind.i64.wrap (p.regions - 1))) (ii (p.regions - 1)) rfl (by kernel_rfl) (by kernel_rfl) (fun _ _ _ h => h) (fun _ => by kernel_rfl) ((by rw [wrap_ini64 _ (by omega)])) fun a H => ?_
     refine An.one 18 (by kernel_rfl) ?_
     refine Op.call H 72 rfl (by kernel_rfl) (Eq.trans (by kernel_rfl : _ = (callFunc 67 #[(ii x_3.region), (ii 0), (ii (p.regions - 1))]).run Tryz.prog w_13) (Tryz.call67 _ _)) (within_any x_3.region 0 (p.regions - 1) w_13) ?_
     rintro e w_14 ⟨rfl, hb⟩
     refine ⟨_, rfl, ?_⟩
     intro a H
     have HP := HP.next hb
     refine ⟨.inr (HP), ?_⟩
     refine An.p H (.inr HP) 19 73 (.bool (!(inR x_3.region 0 (p.regions - 1)))) fun a H => ?_
     refine An.p H (.inr HP) 20 74 (.bool (!(inR x_3.region 0 (p.regions - 1)))) fun a H => ?_
     refine An.p H (.inr HP) 21 75 (.bool (!(inR x_3.region 0 (p.regions - 1)))) fun a H => ?_
     refine H.split 75 rfl (fun g75 H => ?_) (fun g75 H => ?_)
     ·have g75p := inR_not.1 (not_is_true g75)
      refine An.s H (.inr HP) 22 76 fun a H => ?_
      refine An.s H (.inr HP) 23 77 fun a H => ?_
      refine An.p H (.inr HP) 24 78 (.bool true) fun a H => ?_
      refine An.p H (.inr HP) 25 79 (.bool true) fun a H => ?_
      refine An.s H (.inr HP) 26 80 fun a H => ?_
      refine An.s H (.inr HP) 27 81 fun a H => ?_
      refine An.s H (.inr HP) 28 82 fun a H => ?_
      refine An.s H (.inr HP) 29 83 fun a H => ?_
      refine An.p H (.inr HP) 30 84 (.bool true) fun a H => ?_
      refine An.done (by kernel_rfl) ?_
      refine tn ?_
      refine w_ift H rfl ?_
      refine sq (rg ?_)
      refine H.v 2 (.bool false) fun a H => ?_
      refine nl (tn (rt (tr (ibr (tr (tr (ibr (tr ?_))))))))
      refine H.r1 (.bool false) Tryz.results33 ?_
      have hv : bksP p.its p.regions p.bs = false := by unfold bksP; rw [hrel, hd_8, List.all_cons, show (bookP p.its p.regions) x_3 = false from by (first | (rw [Bool.eq_iff_iff]; (try simp only [bookP, g13, g13p, g21, g21p, g29, g29p, g35, g35p, g42, g42p, g49, g49p, g63, g63p, g75, g75p]); (try simp only [Bool.and_eq_true, Bool.or_eq_true, Bool.not_eq_true', Bool.false_eq_true, decide_eq_true_eq, decide_eq_false_iff_not, inR_iff, inR_not, beq_iff_eq, bne_iff_ne, beq_eq_false_iff_ne, ne_eq, Bool.true_and, Bool.and_true, Bool.false_and, Bool.and_false, Bool.true_or, Bool.or_true, Bool.false_or, Bool.or_false, Bool.not_true, Bool.not_false, and_true, true_and, iff_true, true_iff, iff_false, false_iff, or_true, true_or, or_false, false_or, not_true_eq_false, not_false_eq_true, and_false, false_and]); first | omega | (simp; done) | (simp; omega)) | (simp [bookP, g13, g13p, g21, g21p, g29, g29p, g35, g35p, g42, g42p, g49, g49p, g63, g63p, g75, g75p]; done) | (simp [bookP, g13, g13p, g21, g21p, g29, g29p, g35, g35p, g42, g42p, g49, g49p, g63, g63p, g75, g75p] <;> simp [bne]))]; simp
      exact ⟨by rw [hv], _, HP.mapAt 1 rfl, (fun h => by rw [hv] at h; cases h), HP.only m2 (by simp [bx, mapB])⟩
     have g75p := inR_iff.1 (not_is_false g75)
     refine An.p H (.inr HP) 22 76 (.bool (decide (x_3.until_ ≤ 100000000))) fun a H => ?_
     refine An.p H (.inr HP) 23 77 (.bool (!(decide (x_3.until_ ≤ 100000000)))) fun a H => ?_
     refine An.p H (.inr HP) 24 78 (.bool (!(decide (x_3.until_ ≤ 100000000)))) fun a H => ?_
     refine An.p H (.inr HP) 25 79 (.bool (!(decide (x_3.until_ ≤ 100000000)))) fun a H => ?_
     refine H.split 79 rfl (fun g79 H => ?_) (fun g79 H => ?_)
     ·have g79p := not_is_true g79
      refine An.s H (.inr HP) 26 80 fun a H => ?_
      refine An.s H (.inr HP) 27 81 fun a H => ?_
      refine An.s H (.inr HP) 28 82 fun a H => ?_
      refine An.s H (.inr HP) 29 83 fun a H => ?_
      refine An.p H (.inr HP) 30 84 (.bool true) fun a H => ?_
      refine An.done (by kernel_rfl) ?_
      refine tn ?_
      refine w_ift H rfl ?_
      refine sq (rg ?_)
      refine H.v 2 (.bool false) fun a H => ?_
      refine nl (tn (rt (tr (ibr (tr (tr (ibr (tr ?_))))))))
      refine H.r1 (.bool false) Tryz.results33 ?_
      have hv : bksP p.its p.regions p.bs = false := by unfold bksP; rw [hrel, hd_8, List.all_cons, show (bookP p.its p.regions) x_3 = false from by (first | (rw [Bool.eq_iff_iff]; (try simp only [bookP, g13, g13p, g21, g21p, g29, g29p, g35, g35p, g42, g42p, g49, g49p, g63, g63p, g75, g75p, g79, g79p]); (try simp only [Bool.and_eq_true, Bool.or_eq_true, Bool.not_eq_true', Bool.false_eq_true, decide_eq_true_eq, decide_eq_false_iff_not, inR_iff, inR_not, beq_iff_eq, bne_iff_ne, beq_eq_false_iff_ne, ne_eq, Bool.true_and, Bool.and_true, Bool.false_and, Bool.and_false, Bool.true_or, Bool.or_true, Bool.false_or, Bool.or_false, Bool.not_true, Bool.not_false, and_true, true_and, iff_true, true_iff, iff_false, false_iff, or_true, true_or, or_false, false_or, not_true_eq_false, not_false_eq_true, and_false, false_and]); first | omega | (simp; done) | (simp; omega)) | (simp [bookP, g13, g13p, g21, g21p, g29, g29p, g35, g35p, g42, g42p, g49, g49p, g63, g63p, g75, g75p, g79, g79p]; done) | (simp [bookP, g13, g13p, g21, g21p, g29, g29p, g35, g35p, g42, g42p, g49, g49p, g63, g63p, g75, g75p, g79, g79p] <;> simp [bne]))]; simp
      exact ⟨by rw [hv], _, HP.mapAt 1 rfl, (fun h => by rw [hv] at h; cases h), HP.only m2 (by simp [bx, mapB])⟩
     have g79p := not_is_false g79
     refine An.p H (.inr HP) 26 80 (pt b_10 6) fun a H => ?_
     refine An.vw H (HP) 27 81 (ii x_3.price) (fun _ hS => ex_l1 (hS.cell 0 rfl 6 rfl)) fun a H => ?_
     refine An.one 28 (by kernel_rfl) ?_
     refine Op.call H 82 rfl (by kernel_rfl) (Eq.trans (by kernel_rfl : _ = (callFunc 67 #[(ii x_3.price), (ii 0), (ii 1000000000)]).run Tryz.prog w_14) (Tryz.call67 _ _)) (within_any x_3.price 0 1000000000 w_14) ?_
     rintro e w_15 ⟨rfl, hb⟩
     refine ⟨_, rfl, ?_⟩
     intro a H
     have HP := HP.next hb
     refine ⟨.inr (HP), ?_⟩
     refine An.p H (.inr HP) 29 83 (.bool (!(inR x_3.price 0 1000000000))) fun a H => ?_
     refine An.p H (.inr HP) 30 84 (.bool (!(inR x_3.price 0 1000000000))) fun a H => ?_
     refine An.done (by kernel_rfl) ?_
     refine tn ?_
     refine w_if H rfl (fun g84 => ?_) (fun g84 => ?_)
     ·have g84p := inR_not.1 (not_is_true g84)
      refine sq (rg ?_)
      refine H.v 2 (.bool false) fun a H => ?_
      refine nl (tn (rt (tr (ibr (tr (tr (ibr (tr ?_))))))))
      refine H.r1 (.bool false) Tryz.results33 ?_
      have hv : bksP p.its p.regions p.bs = false := by unfold bksP; rw [hrel, hd_8, List.all_cons, show (bookP p.its p.regions) x_3 = false from by (first | (rw [Bool.eq_iff_iff]; (try simp only [bookP, g13, g13p, g21, g21p, g29, g29p, g35, g35p, g42, g42p, g49, g49p, g63, g63p, g75, g75p, g79, g79p, g84, g84p]); (try simp only [Bool.and_eq_true, Bool.or_eq_true, Bool.not_eq_true', Bool.false_eq_true, decide_eq_true_eq, decide_eq_false_iff_not, inR_iff, inR_not, beq_iff_eq, bne_iff_ne, beq_eq_false_iff_ne, ne_eq, Bool.true_and, Bool.and_true, Bool.false_and, Bool.and_false, Bool.true_or, Bool.or_true, Bool.false_or, Bool.or_false, Bool.not_true, Bool.not_false, and_true, true_and, iff_true, true_iff, iff_false, false_iff, or_true, true_or, or_false, false_or, not_true_eq_false, not_false_eq_true, and_false, false_and]); first | omega | (simp; done) | (simp; omega)) | (simp [bookP, g13, g13p, g21, g21p, g29, g29p, g35, g35p, g42, g42p, g49, g49p, g63, g63p, g75, g75p, g79, g79p, g84, g84p]; done) | (simp [bookP, g13, g13p, g21, g21p, g29, g29p, g35, g35p, g42, g42p, g49, g49p, g63, g63p, g75, g75p, g79, g79p, g84, g84p] <;> simp [bne]))]; simp
      exact ⟨by rw [hv], _, HP.mapAt 1 rfl, (fun h => by rw [hv] at h; cases h), HP.only m2 (by simp [bx, mapB])⟩
     have g84p := inR_iff.1 (not_is_false g84)
     refine sk (tn ?_)
     refine An.start (fun v => Hp w v [bx b_10 47 (bkL x_3) true, (mapB m2 (bkM (p.bs.take i)) false)] [boxK b 67 (bookC p m1 m2), plnK p, mapK m1 (itM p.its)]) 7 8 HP wide_follows rfl fun w_16 HP => ?_
     refine An.p H (.inr HP) 0 85 (pt b 0) fun a H => ?_
     refine An.p H (.inr HP) 1 86 (pt b 0) fun a H => ?_
     refine An.p H (.inr HP) 2 87 (pt b 14) fun a H => ?_
     refine An.vw H (HP) 3 88 (.map (some m2)) (fun _ hS => ex_l1 (((hS.fact 0 rfl : Box _ b 67 _)).cell (i := 14) rfl)) fun a H => ?_
     refine An.p H (.inr HP) 4 89 (pt b_10 0) fun a H => ?_
     refine An.vw H (HP) 5 90 (ii x_3.id) (fun _ hS => ex_l1 (hS.cell 0 rfl 0 rfl)) fun a H => ?_
     refine An.vw H (HP) 6 91 (bkV x_3) (fun _ hS => ex_lN (bkL x_3) (hS.cells 0 rfl 0 7 (by kernel_rfl))) fun a H => ?_
     refine An.one 7 (by kernel_rfl) ?_
     refine Op.pushM (kt := 3) (et := 47) (k := x_3.id) (v := (bkV x_3)) H HP 1 [bx b_10 47 (bkL x_3) true, (mapB m2 ((bkM (p.bs.take i)) ++ [(x_3.id, (bkV x_3))]) false)] rfl (by kernel_rfl) (by kernel_rfl) (by kernel_rfl) (by kernel_rfl) (by kernel_rfl) (by kernel_rfl) rfl (mget_none (fr_bk hfr)) (by kernel_rfl) fun w_17 a H HP => ?_
     have HP : Hp w w_17 [bx b_10 47 (bkL x_3) true, (mapB m2 (bkM (p.bs.take (i + 1))) false)] [boxK b 67 (bookC p m1 m2), plnK p, mapK m1 (itM p.its)] := by have hh := HP; rw [show (bkM (p.bs.take i)) ++ [(x_3.id, (bkV x_3))] = (bkM (p.bs.take (i + 1))) from bkM_snoc hx_7] at hh; exact hh
     refine ⟨.inl (by kernel_rfl), ?_⟩
     refine An.done (by kernel_rfl) ?_
     refine ibn (tn (rg ?_))
     refine H.valE 92 (ii (IntKind.i64.wrap ((i : Int) + 1))) (ii ((i : Int) + 1)) (by kernel_rfl) (by kernel_rfl) ((by rw [wrap_ini64 _ (by omega)])) fun a H => H.v 28 (ii ((i : Int) + 1)) fun a H => ?_
     refine nl (tn ?_)
     have H := H.as 28 (ii ((i + 1 : Nat) : Int)) rfl rfl
     refine ⟨_, ?_, i + 1, rfl, H.keep (by kernel_rfl), (HP.tail rfl), (by omega), (by rw [hrel, hd_8, List.all_cons, show (bookP p.its p.regions) x_3 = true from by (first | (rw [Bool.eq_iff_iff]; (try simp only [bookP, g13, g13p, g21, g21p, g29, g29p, g35, g35p, g42, g42p, g49, g49p, g63, g63p, g75, g75p, g79, g79p, g84, g84p]); (try simp only [Bool.and_eq_true, Bool.or_eq_true, Bool.not_eq_true', Bool.false_eq_true, decide_eq_true_eq, decide_eq_false_iff_not, inR_iff, inR_not, beq_iff_eq, bne_iff_ne, beq_eq_false_iff_ne, ne_eq, Bool.true_and, Bool.and_true, Bool.false_and, Bool.and_false, Bool.true_or, Bool.or_true, Bool.false_or, Bool.or_false, Bool.not_true, Bool.not_false, and_true, true_and, iff_true, true_iff, iff_false, false_iff, or_true, true_or, or_false, false_or, not_true_eq_false, not_false_eq_true, and_false, false_and]); first | omega | (simp; done) | (simp; omega)) | (simp [bookP, g13, g13p, g21, g21p, g29, g29p, g35, g35p, g42, g42p, g49, g49p, g63, g63p, g75, g75p, g79, g79p, g84, g84p]; done) | (simp [bookP, g13, g13p, g21, g21p, g29, g29p, g35, g35p, g42, g42p, g49, g49p, g63, g63p, g75, g75p, g79, g79p, g84, g84p] <;> simp [bne]))]; rfl)⟩
     omega
    have g49p := of_decide_eq_false g49
    iterate 3 refine H.sx rfl fun a H => ?_
    refine H.v 53 (.bool false) fun a H => H.v 5 (.bool false) fun a H => ?_
    refine nl (tn (sq (sq ?_)))
    refine An.start (fun v => Hp w v [bx b_10 47 (bkL x_3) true, (mapB m2 (bkM (p.bs.take i)) false)] [boxK b 67 (bookC p m1 m2), plnK p, mapK m1 (itM p.its)]) 31 31 HP wide_follows rfl fun w_18 HP => ?_
    refine An.p H (.inr HP) 0 54 (pt b 0) fun a H => ?_
    refine An.p H (.inr HP) 1 55 (pt b 0) fun a H => ?_
    refine An.p H (.inr HP) 2 56 (pt b 13) fun a H => ?_
    refine An.vw H (HP) 3 57 (.map (some m1)) (fun _ hS => ex_l1 (((hS.fact 0 rfl : Box _ b 67 _)).cell (i := 13) rfl)) fun a H => ?_
    refine An.p H (.inr HP) 4 58 (pt b_10 1) fun a H => ?_
    refine An.vw H (HP) 5 59 (ii x_3.item) (fun _ hS => ex_l1 (hS.cell 0 rfl 1 rfl)) fun a H => ?_
    refine An.vw H (HP) 6 60 (itV (gI p.its x_3.item)) (fun _ hS => ex_lookI (l := p.its) (kt := 3) (et := 38) (s1 := 5) (s2 := 40) (by kernel_rfl) (by kernel_rfl) (by kernel_rfl) (by kernel_rfl) (by kernel_rfl) ((hS.fact 2 rfl : MapAt _ m1 (itM p.its)))) fun a H => ?_
    refine An.p H (.inr HP) 7 61 (ii ((gI p.its x_3.item).kind)) fun a H => ?_
    refine An.p H (.inr HP) 8 62 (.bool (((gI p.its x_3.item).kind) != 2)) fun a H => ?_
    refine An.p H (.inr HP) 9 63 (.bool (((gI p.its x_3.item).kind) != 2)) fun a H => ?_
    refine H.split 63 rfl (fun g63 H => ?_) (fun g63 H => ?_)
    ·have g63p := bne_iff_ne.1 g63
     refine An.s H (.inr HP) 10 64 fun a H => ?_
     refine An.s H (.inr HP) 11 65 fun a H => ?_
     refine An.s H (.inr HP) 12 66 fun a H => ?_
     refine An.s H (.inr HP) 13 67 fun a H => ?_
     refine An.s H (.inr HP) 14 68 fun a H => ?_
     refine An.s H (.inr HP) 15 69 fun a H => ?_
     refine An.s H (.inr HP) 16 70 fun a H => ?_
     refine An.s H (.inr HP) 17 71 fun a H => ?_
     refine An.s H (.inr HP) 18 72 fun a H => ?_
     refine An.s H (.inr HP) 19 73 fun a H => ?_
     refine An.p H (.inr HP) 20 74 (.bool true) fun a H => ?_
     refine An.p H (.inr HP) 21 75 (.bool true) fun a H => ?_
     refine An.s H (.inr HP) 22 76 fun a H => ?_
     refine An.s H (.inr HP) 23 77 fun a H => ?_
     refine An.p H (.inr HP) 24 78 (.bool true) fun a H => ?_
     refine An.p H (.inr HP) 25 79 (.bool true) fun a H => ?_
     refine An.s H (.inr HP) 26 80 fun a H => ?_
     refine An.s H (.inr HP) 27 81 fun a H => ?_
     refine An.s H (.inr HP) 28 82 fun a H => ?_
     refine An.s H (.inr HP) 29 83 fun a H => ?_
     refine An.p H (.inr HP) 30 84 (.bool true) fun a H => ?_
     refine An.done (by kernel_rfl) ?_
     refine tn ?_
     refine w_ift H rfl ?_
     refine sq (rg ?_)
     refine H.v 2 (.bool false) fun a H => ?_
     refine nl (tn (rt (tr (ibr (tr (tr (ibr (tr ?_))))))))
     refine H.r1 (.bool false) Tryz.results33 ?_
     have hv : bksP p.its p.regions p.bs = false := by unfold bksP; rw [hrel, hd_8, List.all_cons, show (bookP p.its p.regions) x_3 = false from by (first | (rw [Bool.eq_iff_iff]; (try simp only [bookP, g13, g13p, g21, g21p, g29, g29p, g35, g35p, g42, g42p, g49, g49p, g63, g63p]); (try simp only [Bool.and_eq_true, Bool.or_eq_true, Bool.not_eq_true', Bool.false_eq_true, decide_eq_true_eq, decide_eq_false_iff_not, inR_iff, inR_not, beq_iff_eq, bne_iff_ne, beq_eq_false_iff_ne, ne_eq, Bool.true_and, Bool.and_true, Bool.false_and, Bool.and_false, Bool.true_or, Bool.or_true, Bool.false_or, Bool.or_false, Bool.not_true, Bool.not_false, and_true, true_and, iff_true, true_iff, iff_false, false_iff, or_true, true_or, or_false, false_or, not_true_eq_false, not_false_eq_true, and_false, false_and]); first | omega | (simp; done) | (simp; omega)) | (simp [bookP, g13, g13p, g21, g21p, g29, g29p, g35, g35p, g42, g42p, g49, g49p, g63, g63p]; done) | (simp [bookP, g13, g13p, g21, g21p, g29, g29p, g35, g35p, g42, g42p, g49, g49p, g63, g63p] <;> simp [bne]))]; simp
     exact ⟨by rw [hv], _, HP.mapAt 1 rfl, (fun h => by rw [hv] at h; cases h), HP.only m2 (by simp [bx, mapB])⟩
    have g63p := eq_of_bne_false g63
    refine An.p H (.inr HP) 10 64 (pt b_10 2) fun a H => ?_
    refine An.vw H (HP) 11 65 (ii x_3.region) (fun _ hS => ex_l1 (hS.cell 0 rfl 2 rfl)) fun a H => ?_
    refine An.p H (.inr HP) 12 66 (pt b 0) fun a H => ?_
    refine An.p H (.inr HP) 13 67 (pt b 0) fun a H => ?_
    refine An.p H (.inr HP) 14 68 (pt b 0) fun a H => ?_
    refine An.p H (.inr HP) 15 69 (pt b 6) fun a H => ?_
    refine An.vw H (HP) 16 70 (ii p.regions) (fun _ hS => ex_l1 (((hS.fact 0 rfl : Box _ b 67 _)).cell (i := 6) rfl)) fun a H => ?_
    refine An.pureE H (.inr (HP)) 17 71 (ii (IntKind.i64.wrap (p.regions - 1))) (ii (p.regions - 1)) rfl (by kernel_rfl) (by kernel_rfl) (fun _ _ _ h => h) (fun _ => by kernel_rfl) ((by rw [wrap_ini64 _ (by omega)])) fun a H => ?_
    refine An.one 18 (by kernel_rfl) ?_
    refine Op.call H 72 rfl (by kernel_rfl) (Eq.trans (by kernel_rfl : _ = (callFunc 67 #[(ii x_3.region), (ii 0), (ii (p.regions - 1))]).run Tryz.prog w_18) (Tryz.call67 _ _)) (within_any x_3.region 0 (p.regions - 1) w_18) ?_
    rintro e w_19 ⟨rfl, hb⟩
    refine ⟨_, rfl, ?_⟩
    intro a H
    have HP := HP.next hb
    refine ⟨.inr (HP), ?_⟩
    refine An.p H (.inr HP) 19 73 (.bool (!(inR x_3.region 0 (p.regions - 1)))) fun a H => ?_
    refine An.p H (.inr HP) 20 74 (.bool (!(inR x_3.region 0 (p.regions - 1)))) fun a H => ?_
    refine An.p H (.inr HP) 21 75 (.bool (!(inR x_3.region 0 (p.regions - 1)))) fun a H => ?_
    refine H.split 75 rfl (fun g75 H => ?_) (fun g75 H => ?_)
    ·have g75p := inR_not.1 (not_is_true g75)
     refine An.s H (.inr HP) 22 76 fun a H => ?_
     refine An.s H (.inr HP) 23 77 fun a H => ?_
     refine An.p H (.inr HP) 24 78 (.bool true) fun a H => ?_
     refine An.p H (.inr HP) 25 79 (.bool true) fun a H => ?_
     refine An.s H (.inr HP) 26 80 fun a H => ?_
     refine An.s H (.inr HP) 27 81 fun a H => ?_
     refine An.s H (.inr HP) 28 82 fun a H => ?_
     refine An.s H (.inr HP) 29 83 fun a H => ?_
     refine An.p H (.inr HP) 30 84 (.bool true) fun a H => ?_
     refine An.done (by kernel_rfl) ?_
     refine tn ?_
     refine w_ift H rfl ?_
     refine sq (rg ?_)
     refine H.v 2 (.bool false) fun a H => ?_
     refine nl (tn (rt (tr (ibr (tr (tr (ibr (tr ?_))))))))
     refine H.r1 (.bool false) Tryz.results33 ?_
     have hv : bksP p.its p.regions p.bs = false := by unfold bksP; rw [hrel, hd_8, List.all_cons, show (bookP p.its p.regions) x_3 = false from by (first | (rw [Bool.eq_iff_iff]; (try simp only [bookP, g13, g13p, g21, g21p, g29, g29p, g35, g35p, g42, g42p, g49, g49p, g63, g63p, g75, g75p]); (try simp only [Bool.and_eq_true, Bool.or_eq_true, Bool.not_eq_true', Bool.false_eq_true, decide_eq_true_eq, decide_eq_false_iff_not, inR_iff, inR_not, beq_iff_eq, bne_iff_ne, beq_eq_false_iff_ne, ne_eq, Bool.true_and, Bool.and_true, Bool.false_and, Bool.and_false, Bool.true_or, Bool.or_true, Bool.false_or, Bool.or_false, Bool.not_true, Bool.not_false, and_true, true_and, iff_true, true_iff, iff_false, false_iff, or_true, true_or, or_false, false_or, not_true_eq_false, not_false_eq_true, and_false, false_and]); first | omega | (simp; done) | (simp; omega)) | (simp [bookP, g13, g13p, g21, g21p, g29, g29p, g35, g35p, g42, g42p, g49, g49p, g63, g63p, g75, g75p]; done) | (simp [bookP, g13, g13p, g21, g21p, g29, g29p, g35, g35p, g42, g42p, g49, g49p, g63, g63p, g75, g75p] <;> simp [bne]))]; simp
     exact ⟨by rw [hv], _, HP.mapAt 1 rfl, (fun h => by rw [hv] at h; cases h), HP.only m2 (by simp [bx, mapB])⟩
    have g75p := inR_iff.1 (not_is_false g75)
    refine An.p H (.inr HP) 22 76 (.bool false) fun a H => ?_
    refine An.p H (.inr HP) 23 77 (.bool true) fun a H => ?_
    refine An.p H (.inr HP) 24 78 (.bool true) fun a H => ?_
    refine An.p H (.inr HP) 25 79 (.bool true) fun a H => ?_
    refine An.s H (.inr HP) 26 80 fun a H => ?_
    refine An.s H (.inr HP) 27 81 fun a H => ?_
    refine An.s H (.inr HP) 28 82 fun a H => ?_
    refine An.s H (.inr HP) 29 83 fun a H => ?_
    refine An.p H (.inr HP) 30 84 (.bool true) fun a H => ?_
    refine An.done (by kernel_rfl) ?_
    refine tn ?_
    refine w_ift H rfl ?_
    refine sq (rg ?_)
    refine H.v 2 (.bool false) fun a H => ?_
    refine nl (tn (rt (tr (ibr (tr (tr (ibr (tr ?_))))))))
    refine H.r1 (.bool false) Tryz.results33 ?_
    have hv : bksP p.its p.regions p.bs = false := by unfold bksP; rw [hrel, hd_8, List.all_cons, show (bookP p.its p.regions) x_3 = false from by (first | (rw [Bool.eq_iff_iff]; (try simp only [bookP, g13, g13p, g21, g21p, g29, g29p, g35, g35p, g42, g42p, g49, g49p, g63, g63p, g75, g75p]); (try simp only [Bool.and_eq_true, Bool.or_eq_true, Bool.not_eq_true', Bool.false_eq_true, decide_eq_true_eq, decide_eq_false_iff_not, inR_iff, inR_not, beq_iff_eq, bne_iff_ne, beq_eq_false_iff_ne, ne_eq, Bool.true_and, Bool.and_true, Bool.false_and, Bool.and_false, Bool.true_or, Bool.or_true, Bool.false_or, Bool.or_false, Bool.not_true, Bool.not_false, and_true, true_and, iff_true, true_iff, iff_false, false_iff, or_true, true_or, or_false, false_or, not_true_eq_false, not_false_eq_true, and_false, false_and]); first | omega | (simp; done) | (simp; omega)) | (simp [bookP, g13, g13p, g21, g21p, g29, g29p, g35, g35p, g42, g42p, g49, g49p, g63, g63p, g75, g75p]; done) | (simp [bookP, g13, g13p, g21, g21p, g29, g29p, g35, g35p, g42, g42p, g49, g49p, g63, g63p, g75, g75p] <;> simp [bne]))]; simp
    exact ⟨by rw [hv], _, HP.mapAt 1 rfl, (fun h => by rw [hv] at h; cases h), HP.only m2 (by simp [bx, mapB])⟩
   have g42p := of_decide_eq_false g42
   iterate 5 refine H.sx rfl fun a H => ?_
   refine H.v 48 (.bool false) fun a H => H.v 49 (.bool false) fun a H => ?_
   iterate 3 refine H.sx rfl fun a H => ?_
   refine H.v 53 (.bool false) fun a H => H.v 5 (.bool false) fun a H => ?_
   refine nl (tn (sq (sq ?_)))
   refine An.start (fun v => Hp w v [bx b_10 47 (bkL x_3) true, (mapB m2 (bkM (p.bs.take i)) false)] [boxK b 67 (bookC p m1 m2), plnK p, mapK m1 (itM p.its)]) 31 31 HP wide_follows rfl fun w_20 HP => ?_
   refine An.p H (.inr HP) 0 54 (pt b 0) fun a H => ?_
   refine An.p H (.inr HP) 1 55 (pt b 0) fun a H => ?_
   refine An.p H (.inr HP) 2 56 (pt b 13) fun a H => ?_
   refine An.vw H (HP) 3 57 (.map (some m1)) (fun _ hS => ex_l1 (((hS.fact 0 rfl : Box _ b 67 _)).cell (i := 13) rfl)) fun a H => ?_
   refine An.p H (.inr HP) 4 58 (pt b_10 1) fun a H => ?_
   refine An.vw H (HP) 5 59 (ii x_3.item) (fun _ hS => ex_l1 (hS.cell 0 rfl 1 rfl)) fun a H => ?_
   refine An.vw H (HP) 6 60 (itV (gI p.its x_3.item)) (fun _ hS => ex_lookI (l := p.its) (kt := 3) (et := 38) (s1 := 5) (s2 := 40) (by kernel_rfl) (by kernel_rfl) (by kernel_rfl) (by kernel_rfl) (by kernel_rfl) ((hS.fact 2 rfl : MapAt _ m1 (itM p.its)))) fun a H => ?_
   refine An.p H (.inr HP) 7 61 (ii ((gI p.its x_3.item).kind)) fun a H => ?_
   refine An.p H (.inr HP) 8 62 (.bool (((gI p.its x_3.item).kind) != 2)) fun a H => ?_
   refine An.p H (.inr HP) 9 63 (.bool (((gI p.its x_3.item).kind) != 2)) fun a H => ?_
   refine H.split 63 rfl (fun g63 H => ?_) (fun g63 H => ?_)
   ·have g63p := bne_iff_ne.1 g63
    refine An.s H (.inr HP) 10 64 fun a H => ?_
    refine An.s H (.inr HP) 11 65 fun a H => ?_
    refine An.s H (.inr HP) 12 66 fun a H => ?_
    refine An.s H (.inr HP) 13 67 fun a H => ?_
    refine An.s H (.inr HP) 14 68 fun a H => ?_
    refine An.s H (.inr HP) 15 69 fun a H => ?_
    refine An.s H (.inr HP) 16 70 fun a H => ?_
    refine An.s H (.inr HP) 17 71 fun a H => ?_
    refine An.s H (.inr HP) 18 72 fun a H => ?_
    refine An.s H (.inr HP) 19 73 fun a H => ?_
    refine An.p H (.inr HP) 20 74 (.bool true) fun a H => ?_
    refine An.p H (.inr HP) 21 75 (.bool true) fun a H => ?_
    refine An.s H (.inr HP) 22 76 fun a H => ?_
    refine An.s H (.inr HP) 23 77 fun a H => ?_
    refine An.p H (.inr HP) 24 78 (.bool true) fun a H => ?_
    refine An.p H (.inr HP) 25 79 (.bool true) fun a H => ?_
    refine An.s H (.inr HP) 26 80 fun a H => ?_
    refine An.s H (.inr HP) 27 81 fun a H => ?_
    refine An.s H (.inr HP) 28 82 fun a H => ?_
    refine An.s H (.inr HP) 29 83 fun a H => ?_
    refine An.p H (.inr HP) 30 84 (.bool true) fun a H => ?_
    refine An.done (by kernel_rfl) ?_
    refine tn ?_
    refine w_ift H rfl ?_
    refine sq (rg ?_)
    refine H.v 2 (.bool false) fun a H => ?_
    refine nl (tn (rt (tr (ibr (tr (tr (ibr (tr ?_))))))))
    refine H.r1 (.bool false) Tryz.results33 ?_
    have hv : bksP p.its p.regions p.bs = false := by unfold bksP; rw [hrel, hd_8, List.all_cons, show (bookP p.its p.regions) x_3 = false from by (first | (rw [Bool.eq_iff_iff]; (try simp only [bookP, g13, g13p, g21, g21p, g29, g29p, g35, g35p, g42, g42p, g63, g63p]); (try simp only [Bool.and_eq_true, Bool.or_eq_true, Bool.not_eq_true', Bool.false_eq_true, decide_eq_true_eq, decide_eq_false_iff_not, inR_iff, inR_not, beq_iff_eq, bne_iff_ne, beq_eq_false_iff_ne, ne_eq, Bool.true_and, Bool.and_true, Bool.false_and, Bool.and_false, Bool.true_or, Bool.or_true, Bool.false_or, Bool.or_false, Bool.not_true, Bool.not_false, and_true, true_and, iff_true, true_iff, iff_false, false_iff, or_true, true_or, or_false, false_or, not_true_eq_false, not_false_eq_true, and_false, false_and]); first | omega | (simp; done) | (simp; omega)) | (simp [bookP, g13, g13p, g21, g21p, g29, g29p, g35, g35p, g42, g42p, g63, g63p]; done) | (simp [bookP, g13, g13p, g21, g21p, g29, g29p, g35, g35p, g42, g42p, g63, g63p] <;> simp [bne]))]; simp
    exact ⟨by rw [hv], _, HP.mapAt 1 rfl, (fun h => by rw [hv] at h; cases h), HP.only m2 (by simp [bx, mapB])⟩
   have g63p := eq_of_bne_false g63
   refine An.p H (.inr HP) 10 64 (pt b_10 2) fun a H => ?_
   refine An.vw H (HP) 11 65 (ii x_3.region) (fun _ hS => ex_l1 (hS.cell 0 rfl 2 rfl)) fun a H => ?_
   refine An.p H (.inr HP) 12 66 (pt b 0) fun a H => ?_
   refine An.p H (.inr HP) 13 67 (pt b 0) fun a H => ?_
   refine An.p H (.inr HP) 14 68 (pt b 0) fun a H => ?_
   refine An.p H (.inr HP) 15 69 (pt b 6) fun a H => ?_
   refine An.vw H (HP) 16 70 (ii p.regions) (fun _ hS => ex_l1 (((hS.fact 0 rfl : Box _ b 67 _)).cell (i := 6) rfl)) fun a H => ?_
   refine An.pureE H (.inr (HP)) 17 71 (ii (IntKind.i64.wrap (p.regions - 1))) (ii (p.regions - 1)) rfl (by kernel_rfl) (by kernel_rfl) (fun _ _ _ h => h) (fun _ => by kernel_rfl) ((by rw [wrap_ini64 _ (by omega)])) fun a H => ?_
   refine An.one 18 (by kernel_rfl) ?_
   refine Op.call H 72 rfl (by kernel_rfl) (Eq.trans (by kernel_rfl : _ = (callFunc 67 #[(ii x_3.region), (ii 0), (ii (p.regions - 1))]).run Tryz.prog w_20) (Tryz.call67 _ _)) (within_any x_3.region 0 (p.regions - 1) w_20) ?_
   rintro e w_21 ⟨rfl, hb⟩
   refine ⟨_, rfl, ?_⟩
   intro a H
   have HP := HP.next hb
   refine ⟨.inr (HP), ?_⟩
   refine An.p H (.inr HP) 19 73 (.bool (!(inR x_3.region 0 (p.regions - 1)))) fun a H => ?_
   refine An.p H (.inr HP) 20 74 (.bool (!(inR x_3.region 0 (p.regions - 1)))) fun a H => ?_
   refine An.p H (.inr HP) 21 75 (.bool (!(inR x_3.region 0 (p.regions - 1)))) fun a H => ?_
   refine H.split 75 rfl (fun g75 H => ?_) (fun g75 H => ?_)
   ·have g75p := inR_not.1 (not_is_true g75)
    refine An.s H (.inr HP) 22 76 fun a H => ?_
    refine An.s H (.inr HP) 23 77 fun a H => ?_
    refine An.p H (.inr HP) 24 78 (.bool true) fun a H => ?_
    refine An.p H (.inr HP) 25 79 (.bool true) fun a H => ?_
    refine An.s H (.inr HP) 26 80 fun a H => ?_
    refine An.s H (.inr HP) 27 81 fun a H => ?_
    refine An.s H (.inr HP) 28 82 fun a H => ?_
    refine An.s H (.inr HP) 29 83 fun a H => ?_
    refine An.p H (.inr HP) 30 84 (.bool true) fun a H => ?_
    refine An.done (by kernel_rfl) ?_
    refine tn ?_
    refine w_ift H rfl ?_
    refine sq (rg ?_)
    refine H.v 2 (.bool false) fun a H => ?_
    refine nl (tn (rt (tr (ibr (tr (tr (ibr (tr ?_))))))))
    refine H.r1 (.bool false) Tryz.results33 ?_
    have hv : bksP p.its p.regions p.bs = false := by unfold bksP; rw [hrel, hd_8, List.all_cons, show (bookP p.its p.regions) x_3 = false from by (first | (rw [Bool.eq_iff_iff]; (try simp only [bookP, g13, g13p, g21, g21p, g29, g29p, g35, g35p, g42, g42p, g63, g63p, g75, g75p]); (try simp only [Bool.and_eq_true, Bool.or_eq_true, Bool.not_eq_true', Bool.false_eq_true, decide_eq_true_eq, decide_eq_false_iff_not, inR_iff, inR_not, beq_iff_eq, bne_iff_ne, beq_eq_false_iff_ne, ne_eq, Bool.true_and, Bool.and_true, Bool.false_and, Bool.and_false, Bool.true_or, Bool.or_true, Bool.false_or, Bool.or_false, Bool.not_true, Bool.not_false, and_true, true_and, iff_true, true_iff, iff_false, false_iff, or_true, true_or, or_false, false_or, not_true_eq_false, not_false_eq_true, and_false, false_and]); first | omega | (simp; done) | (simp; omega)) | (simp [bookP, g13, g13p, g21, g21p, g29, g29p, g35, g35p, g42, g42p, g63, g63p, g75, g75p]; done) | (simp [bookP, g13, g13p, g21, g21p, g29, g29p, g35, g35p, g42, g42p, g63, g63p, g75, g75p] <;> simp [bne]))]; simp
    exact ⟨by rw [hv], _, HP.mapAt 1 rfl, (fun h => by rw [hv] at h; cases h), HP.only m2 (by simp [bx, mapB])⟩
   have g75p := inR_iff.1 (not_is_false g75)
   refine An.p H (.inr HP) 22 76 (.bool false) fun a H => ?_
   refine An.p H (.inr HP) 23 77 (.bool true) fun a H => ?_
   refine An.p H (.inr HP) 24 78 (.bool true) fun a H => ?_
   refine An.p H (.inr HP) 25 79 (.bool true) fun a H => ?_
   refine An.s H (.inr HP) 26 80 fun a H => ?_
   refine An.s H (.inr HP) 27 81 fun a H => ?_
   refine An.s H (.inr HP) 28 82 fun a H => ?_
   refine An.s H (.inr HP) 29 83 fun a H => ?_
   refine An.p H (.inr HP) 30 84 (.bool true) fun a H => ?_
   refine An.done (by kernel_rfl) ?_
   refine tn ?_
   refine w_ift H rfl ?_
   refine sq (rg ?_)
   refine H.v 2 (.bool false) fun a H => ?_
   refine nl (tn (rt (tr (ibr (tr (tr (ibr (tr ?_))))))))
   refine H.r1 (.bool false) Tryz.results33 ?_
   have hv : bksP p.its p.regions p.bs = false := by unfold bksP; rw [hrel, hd_8, List.all_cons, show (bookP p.its p.regions) x_3 = false from by (first | (rw [Bool.eq_iff_iff]; (try simp only [bookP, g13, g13p, g21, g21p, g29, g29p, g35, g35p, g42, g42p, g63, g63p, g75, g75p]); (try simp only [Bool.and_eq_true, Bool.or_eq_true, Bool.not_eq_true', Bool.false_eq_true, decide_eq_true_eq, decide_eq_false_iff_not, inR_iff, inR_not, beq_iff_eq, bne_iff_ne, beq_eq_false_iff_ne, ne_eq, Bool.true_and, Bool.and_true, Bool.false_and, Bool.and_false, Bool.true_or, Bool.or_true, Bool.false_or, Bool.or_false, Bool.not_true, Bool.not_false, and_true, true_and, iff_true, true_iff, iff_false, false_iff, or_true, true_or, or_false, false_or, not_true_eq_false, not_false_eq_true, and_false, false_and]); first | omega | (simp; done) | (simp; omega)) | (simp [bookP, g13, g13p, g21, g21p, g29, g29p, g35, g35p, g42, g42p, g63, g63p, g75, g75p]; done) | (simp [bookP, g13, g13p, g21, g21p, g29, g29p, g35, g35p, g42, g42p, g63, g63p, g75, g75p] <;> simp [bne]))]; simp
   exact ⟨by rw [hv], _, HP.mapAt 1 rfl, (fun h => by rw [hv] at h; cases h), HP.only m2 (by simp [bx, mapB])⟩
  have g35p := of_decide_eq_false g35
  iterate 5 refine H.sx rfl fun a H => ?_
  refine H.v 41 (.bool false) fun a H => H.v 42 (.bool false) fun a H => ?_
  iterate 5 refine H.sx rfl fun a H => ?_
  refine H.v 48 (.bool false) fun a H => H.v 49 (.bool false) fun a H => ?_
  iterate 3 refine H.sx rfl fun a H => ?_
  refine H.v 53 (.bool false) fun a H => H.v 5 (.bool false) fun a H => ?_
  refine nl (tn (sq (sq ?_)))
  refine An.start (fun v => Hp w v [bx b_10 47 (bkL x_3) true, (mapB m2 (bkM (p.bs.take i)) false)] [boxK b 67 (bookC p m1 m2), plnK p, mapK m1 (itM p.its)]) 31 31 HP wide_follows rfl fun w_22 HP => ?_
  refine An.p H (.inr HP) 0 54 (pt b 0) fun a H => ?_
  refine An.p H (.inr HP) 1 55 (pt b 0) fun a H => ?_
  refine An.p H (.inr HP) 2 56 (pt b 13) fun a H => ?_
  refine An.vw H (HP) 3 57 (.map (some m1)) (fun _ hS => ex_l1 (((hS.fact 0 rfl : Box _ b 67 _)).cell (i := 13) rfl)) fun a H => ?_
  refine An.p H (.inr HP) 4 58 (pt b_10 1) fun a H => ?_
  refine An.vw H (HP) 5 59 (ii x_3.item) (fun _ hS => ex_l1 (hS.cell 0 rfl 1 rfl)) fun a H => ?_
  refine An.vw H (HP) 6 60 (itV (gI p.its x_3.item)) (fun _ hS => ex_lookI (l := p.its) (kt := 3) (et := 38) (s1 := 5) (s2 := 40) (by kernel_rfl) (by kernel_rfl) (by kernel_rfl) (by kernel_rfl) (by kernel_rfl) ((hS.fact 2 rfl : MapAt _ m1 (itM p.its)))) fun a H => ?_
  refine An.p H (.inr HP) 7 61 (ii ((gI p.its x_3.item).kind)) fun a H => ?_
  refine An.p H (.inr HP) 8 62 (.bool (((gI p.its x_3.item).kind) != 2)) fun a H => ?_
  refine An.p H (.inr HP) 9 63 (.bool (((gI p.its x_3.item).kind) != 2)) fun a H => ?_
  refine H.split 63 rfl (fun g63 H => ?_) (fun g63 H => ?_)
  ·have g63p := bne_iff_ne.1 g63
   refine An.s H (.inr HP) 10 64 fun a H => ?_
   refine An.s H (.inr HP) 11 65 fun a H => ?_
   refine An.s H (.inr HP) 12 66 fun a H => ?_
   refine An.s H (.inr HP) 13 67 fun a H => ?_
   refine An.s H (.inr HP) 14 68 fun a H => ?_
   refine An.s H (.inr HP) 15 69 fun a H => ?_
   refine An.s H (.inr HP) 16 70 fun a H => ?_
   refine An.s H (.inr HP) 17 71 fun a H => ?_
   refine An.s H (.inr HP) 18 72 fun a H => ?_
   refine An.s H (.inr HP) 19 73 fun a H => ?_
   refine An.p H (.inr HP) 20 74 (.bool true) fun a H => ?_
   refine An.p H (.inr HP) 21 75 (.bool true) fun a H => ?_
   refine An.s H (.inr HP) 22 76 fun a H => ?_
   refine An.s H (.inr HP) 23 77 fun a H => ?_
   refine An.p H (.inr HP) 24 78 (.bool true) fun a H => ?_
   refine An.p H (.inr HP) 25 79 (.bool true) fun a H => ?_
   refine An.s H (.inr HP) 26 80 fun a H => ?_
   refine An.s H (.inr HP) 27 81 fun a H => ?_
   refine An.s H (.inr HP) 28 82 fun a H => ?_
   refine An.s H (.inr HP) 29 83 fun a H => ?_
   refine An.p H (.inr HP) 30 84 (.bool true) fun a H => ?_
   refine An.done (by kernel_rfl) ?_
   refine tn ?_
   refine w_ift H rfl ?_
   refine sq (rg ?_)
   refine H.v 2 (.bool false) fun a H => ?_
   refine nl (tn (rt (tr (ibr (tr (tr (ibr (tr ?_))))))))
   refine H.r1 (.bool false) Tryz.results33 ?_
   have hv : bksP p.its p.regions p.bs = false := by unfold bksP; rw [hrel, hd_8, List.all_cons, show (bookP p.its p.regions) x_3 = false from by (first | (rw [Bool.eq_iff_iff]; (try simp only [bookP, g13, g13p, g21, g21p, g29, g29p, g35, g35p, g63, g63p]); (try simp only [Bool.and_eq_true, Bool.or_eq_true, Bool.not_eq_true', Bool.false_eq_true, decide_eq_true_eq, decide_eq_false_iff_not, inR_iff, inR_not, beq_iff_eq, bne_iff_ne, beq_eq_false_iff_ne, ne_eq, Bool.true_and, Bool.and_true, Bool.false_and, Bool.and_false, Bool.true_or, Bool.or_true, Bool.false_or, Bool.or_false, Bool.not_true, Bool.not_false, and_true, true_and, iff_true, true_iff, iff_false, false_iff, or_true, true_or, or_false, false_or, not_true_eq_false, not_false_eq_true, and_false, false_and]); first | omega | (simp; done) | (simp; omega)) | (simp [bookP, g13, g13p, g21, g21p, g29, g29p, g35, g35p, g63, g63p]; done) | (simp [bookP, g13, g13p, g21, g21p, g29, g29p, g35, g35p, g63, g63p] <;> simp [bne]))]; simp
   exact ⟨by rw [hv], _, HP.mapAt 1 rfl, (fun h => by rw [hv] at h; cases h), HP.only m2 (by simp [bx, mapB])⟩
  have g63p := eq_of_bne_false g63
  refine An.p H (.inr HP) 10 64 (pt b_10 2) fun a H => ?_
  refine An.vw H (HP) 11 65 (ii x_3.region) (fun _ hS => ex_l1 (hS.cell 0 rfl 2 rfl)) fun a H => ?_
  refine An.p H (.inr HP) 12 66 (pt b 0) fun a H => ?_
  refine An.p H (.inr HP) 13 67 (pt b 0) fun a H => ?_
  refine An.p H (.inr HP) 14 68 (pt b 0) fun a H => ?_
  refine An.p H (.inr HP) 15 69 (pt b 6) fun a H => ?_
  refine An.vw H (HP) 16 70 (ii p.regions) (fun _ hS => ex_l1 (((hS.fact 0 rfl : Box _ b 67 _)).cell (i := 6) rfl)) fun a H => ?_
  refine An.pureE H (.inr (HP)) 17 71 (ii (IntKind.i64.wrap (p.regions - 1))) (ii (p.regions - 1)) rfl (by kernel_rfl) (by kernel_rfl) (fun _ _ _ h => h) (fun _ => by kernel_rfl) ((by rw [wrap_ini64 _ (by omega)])) fun a H => ?_
  refine An.one 18 (by kernel_rfl) ?_
  refine Op.call H 72 rfl (by kernel_rfl) (Eq.trans (by kernel_rfl : _ = (callFunc 67 #[(ii x_3.region), (ii 0), (ii (p.regions - 1))]).run Tryz.prog w_22) (Tryz.call67 _ _)) (within_any x_3.region 0 (p.regions - 1) w_22) ?_
  rintro e w_23 ⟨rfl, hb⟩
  refine ⟨_, rfl, ?_⟩
  intro a H
  have HP := HP.next hb
  refine ⟨.inr (HP), ?_⟩
  refine An.p H (.inr HP) 19 73 (.bool (!(inR x_3.region 0 (p.regions - 1)))) fun a H => ?_
  refine An.p H (.inr HP) 20 74 (.bool (!(inR x_3.region 0 (p.regions - 1)))) fun a H => ?_
  refine An.p H (.inr HP) 21 75 (.bool (!(inR x_3.region 0 (p.regions - 1)))) fun a H => ?_
  refine H.split 75 rfl (fun g75 H => ?_) (fun g75 H => ?_)
  ·have g75p := inR_not.1 (not_is_true g75)
   refine An.s H (.inr HP) 22 76 fun a H => ?_
   refine An.s H (.inr HP) 23 77 fun a H => ?_
   refine An.p H (.inr HP) 24 78 (.bool true) fun a H => ?_
   refine An.p H (.inr HP) 25 79 (.bool true) fun a H => ?_
   refine An.s H (.inr HP) 26 80 fun a H => ?_
   refine An.s H (.inr HP) 27 81 fun a H => ?_
   refine An.s H (.inr HP) 28 82 fun a H => ?_
   refine An.s H (.inr HP) 29 83 fun a H => ?_
   refine An.p H (.inr HP) 30 84 (.bool true) fun a H => ?_
   refine An.done (by kernel_rfl) ?_
   refine tn ?_
   refine w_ift H rfl ?_
   refine sq (rg ?_)
   refine H.v 2 (.bool false) fun a H => ?_
   refine nl (tn (rt (tr (ibr (tr (tr (ibr (tr ?_))))))))
   refine H.r1 (.bool false) Tryz.results33 ?_
   have hv : bksP p.its p.regions p.bs = false := by unfold bksP; rw [hrel, hd_8, List.all_cons, show (bookP p.its p.regions) x_3 = false from by (first | (rw [Bool.eq_iff_iff]; (try simp only [bookP, g13, g13p, g21, g21p, g29, g29p, g35, g35p, g63, g63p, g75, g75p]); (try simp only [Bool.and_eq_true, Bool.or_eq_true, Bool.not_eq_true', Bool.false_eq_true, decide_eq_true_eq, decide_eq_false_iff_not, inR_iff, inR_not, beq_iff_eq, bne_iff_ne, beq_eq_false_iff_ne, ne_eq, Bool.true_and, Bool.and_true, Bool.false_and, Bool.and_false, Bool.true_or, Bool.or_true, Bool.false_or, Bool.or_false, Bool.not_true, Bool.not_false, and_true, true_and, iff_true, true_iff, iff_false, false_iff, or_true, true_or, or_false, false_or, not_true_eq_false, not_false_eq_true, and_false, false_and]); first | omega | (simp; done) | (simp; omega)) | (simp [bookP, g13, g13p, g21, g21p, g29, g29p, g35, g35p, g63, g63p, g75, g75p]; done) | (simp [bookP, g13, g13p, g21, g21p, g29, g29p, g35, g35p, g63, g63p, g75, g75p] <;> simp [bne]))]; simp
   exact ⟨by rw [hv], _, HP.mapAt 1 rfl, (fun h => by rw [hv] at h; cases h), HP.only m2 (by simp [bx, mapB])⟩
  have g75p := inR_iff.1 (not_is_false g75)
  refine An.p H (.inr HP) 22 76 (.bool false) fun a H => ?_
  refine An.p H (.inr HP) 23 77 (.bool true) fun a H => ?_
  refine An.p H (.inr HP) 24 78 (.bool true) fun a H => ?_
  refine An.p H (.inr HP) 25 79 (.bool true) fun a H => ?_
  refine An.s H (.inr HP) 26 80 fun a H => ?_
  refine An.s H (.inr HP) 27 81 fun a H => ?_
  refine An.s H (.inr HP) 28 82 fun a H => ?_
  refine An.s H (.inr HP) 29 83 fun a H => ?_
  refine An.p H (.inr HP) 30 84 (.bool true) fun a H => ?_
  refine An.done (by kernel_rfl) ?_
  refine tn ?_
  refine w_ift H rfl ?_
  refine sq (rg ?_)
  refine H.v 2 (.bool false) fun a H => ?_
  refine nl (tn (rt (tr (ibr (tr (tr (ibr (tr ?_))))))))
  refine H.r1 (.bool false) Tryz.results33 ?_
  have hv : bksP p.its p.regions p.bs = false := by unfold bksP; rw [hrel, hd_8, List.all_cons, show (bookP p.its p.regions) x_3 = false from by (first | (rw [Bool.eq_iff_iff]; (try simp only [bookP, g13, g13p, g21, g21p, g29, g29p, g35, g35p, g63, g63p, g75, g75p]); (try simp only [Bool.and_eq_true, Bool.or_eq_true, Bool.not_eq_true', Bool.false_eq_true, decide_eq_true_eq, decide_eq_false_iff_not, inR_iff, inR_not, beq_iff_eq, bne_iff_ne, beq_eq_false_iff_ne, ne_eq, Bool.true_and, Bool.and_true, Bool.false_and, Bool.and_false, Bool.true_or, Bool.or_true, Bool.false_or, Bool.or_false, Bool.not_true, Bool.not_false, and_true, true_and, iff_true, true_iff, iff_false, false_iff, or_true, true_or, or_false, false_or, not_true_eq_false, not_false_eq_true, and_false, false_and]); first | omega | (simp; done) | (simp; omega)) | (simp [bookP, g13, g13p, g21, g21p, g29, g29p, g35, g35p, g63, g63p, g75, g75p]; done) | (simp [bookP, g13, g13p, g21, g21p, g29, g29p, g35, g35p, g63, g63p, g75, g75p] <;> simp [bne]))]; simp
  exact ⟨by rw [hv], _, HP.mapAt 1 rfl, (fun h => by rw [hv] at h; cases h), HP.only m2 (by simp [bx, mapB])⟩
 have g29p := of_decide_eq_false g29
 refine wp_exit (then_exit (then_exit ?_))
 refine w_exit_here ?_
 refine tn (sq ?_)
 have ht : p.bs.take i = p.bs := List.take_of_length_le (by omega)
 rw [ht] at HP
 refine rg ?_
 refine H.v 2 (.bool true) fun a H => ?_
 refine nl (tn (rt ?_))
 refine H.r1 (.bool true) Tryz.results33 ?_
 have hall : p.bs.all (bookP p.its p.regions) = true := by rw [hrel, List.drop_eq_nil_of_le (by omega)]; rfl
 have hasc : asc 0 1000000 (p.bs.map (fun x => x.id)) = true := g21p
 have hlen : (p.bs.length : Int) ≤ 2000 := by omega
 exact ⟨by rw [show bksP p.its p.regions p.bs = (true) from by unfold bksP; rw [hall, hasc]; simp [hlen]], _, HP.mapAt 0 rfl, (fun _ => rfl), HP.only m2 (by simp [bx, mapB])⟩
theorem hasEntries_any (b m1 m2 : Nat) (p : Pln) (w : World) (hBk : BookAt w b m1 m2 p) (hlen : 1 ≤ p.length ∧ p.length ≤ 100000000) (hits : p.its.all itemP = true) (hreg : 1 ≤ p.regions ∧ p.regions ≤ 8) : Calls Tryz.prog 34 #[.pointer (some ⟨b, 0, none⟩)] w fun e w' => e = .returned (.bool (decide ((p.es.length : Int) ≤ 4000) && entsP p [] p.es)) ∧ Below w.heap.size w w' := by
 have hlE := hBk.pl.les
 unfold maxLen at hlE
 have HP := Hp.start w
 refine w_enter 56 [(0, (pt b 0))] Tryz.func34 rfl Tryz.ntmps34 (by kernel_rfl) (by kernel_rfl) fun a H => ?_
 refine sq (rg ?_)
 refine H.v 2 (.bool false) fun a H => ?_
 refine nl (tn (sq (sq (rg ?_))))
 refine H.v 6 (pt b 0) fun a H => H.v 7 (pt b 0) fun a H => H.v 8 (pt b 0) fun a H => H.v 9 (pt b 10) fun a H => H.u 10 (.slice p.EA p.es.length p.ec) (ex_l1 ((hBk.below HP.bl).box.cell (i := 10) rfl)) fun a H => H.v 11 (ii p.es.length) fun a H => H.v 12 (.bool (decide ((p.es.length : Int) > 4000))) fun a H => ?_
 refine nl (tn ?_)
 refine w_if H rfl (fun g12 => ?_) (fun g12 => ?_)
 ·have g12p := of_decide_eq_true g12
  refine sq (rg ?_)
  refine H.v 2 (.bool false) fun a H => ?_
  refine nl (tn (rt (tr ?_)))
  refine H.r1 (.bool false) Tryz.results34 ?_
  exact ⟨by rw [show (decide ((p.es.length : Int) ≤ 4000) && entsP p [] p.es) = false from by simp [show ¬ (p.es.length : Int) ≤ 4000 by omega]], HP.bl⟩
 have g12p := of_decide_eq_false g12
 refine sk (tn (sq (rg ?_)))
 refine H.newMap HP 13 (by kernel_rfl) fun m_1 w_2 a H HP => ?_
 have HP : Hp w w_2 [(mapB m_1 (seM ([])) true)] [] := HP
 refine H.v 3 (.map (some m_1)) fun a H => ?_
 refine nl (tn (sq (sq (rg ?_))))
 refine H.v 14 (pt b 0) fun a H => H.v 15 (pt b 0) fun a H => H.v 16 (pt b 0) fun a H => H.v 17 (pt b 10) fun a H => H.u 18 (.slice p.EA p.es.length p.ec) (ex_l1 ((hBk.below HP.bl).box.cell (i := 10) rfl)) fun a H => H.v 19 (ii p.es.length) fun a H => H.v 20 (ii 0) fun a H => ?_
 refine nl (tn (bk ?_))
 refine w_loop (fun mm a wv => ∃ (i : Nat), p.es.length - i = mm ∧ Sl 56 [(20, (ii i)), (19, (ii p.es.length)), (18, (.slice p.EA p.es.length p.ec)), (17, (pt b 10)), (16, (pt b 0)), (15, (pt b 0)), (14, (pt b 0)), (3, (.map (some m_1))), (13, (.map (some m_1))), (12, (.bool (decide ((p.es.length : Int) > 4000)))), (11, (ii p.es.length)), (10, (.slice p.EA p.es.length p.ec)), (9, (pt b 10)), (8, (pt b 0)), (7, (pt b 0)), (6, (pt b 0)), (0, (pt b 0))] a ∧ Hp w wv [(mapB m_1 (seM ((p.es.take i).map (fun x => x.id))) true)] [] ∧ (i ≤ p.es.length) ∧ (entsP p [] p.es = entsP p ((p.es.take i).map (fun x => x.id)) (p.es.drop i))) (p.es.length - 0) ?_ ?_
 ·exact ⟨0, (by omega), H.keep (by kernel_rfl), HP, (Nat.zero_le _), rfl⟩
 rintro mm a w_3 ⟨i, hmeas, H, HP, hib, hrel⟩
 refine sq (rg ?_)
 refine H.v 21 (.bool (decide ((i : Int) < (p.es.length : Int)))) fun a H => ?_
 refine nl (tn (sq ?_))
 refine w_if H rfl (fun g21 => ?_) (fun g21 => ?_)
 ·have g21p := of_decide_eq_true g21
  refine sk (tn (sq (bk (sq ?_))))
  obtain ⟨bu_5, ou_6, x_4, hA_7, _, hd_9, hx_8, hm_10, _⟩ := IsRow.get enC_size (hBk.below HP.bl).pl.es.row (i := i) (by omega)
  refine rg ?_
  refine H.u 22 (.pointer (some ⟨bu_5, ou_6 + i * 7, none⟩)) (ex_indexA (b := bu_5) (off := ou_6) (len := p.es.length) (cap := p.ec) (e := 43) (k := 7) (ik := .i64) (i := (i : Int)) (m := i) hA_7 (by kernel_rfl) (by kernel_rfl) (by omega) (by omega) (by kernel_rfl) (by kernel_rfl)) fun a H => H.u 23 (enV x_4) (ex_lN (enL x_4) (IsRow.cells enC_size (hBk.below HP.bl).pl.es.row hA_7 hx_8)) fun a H => H.al HP 5 43 [(ii 0), (ii 0), (ii 0), (ii 0), (ii 0), (ii 0), (.slice none 0 0)] fun b_11 w_12 a H HP => H.st HP 0 b_11 0 7 43 true (enV x_4) [bx b_11 43 (enL x_4) true, (mapB m_1 (seM ((p.es.take i).map (fun x => x.id))) true)] rfl fun w_13 a H HP => ?_
  refine nl (tn (sq (sq (rg ?_))))
  refine H.v 24 (pt b_11 0) fun a H => H.u 25 (ii x_4.id) (ex_l1 (HP.cell 0 rfl 0 rfl)) fun a H => H.cb HP 26 (Tryz.call67 _ _) (within_any x_4.id 1 1000000 w_13) fun w_14 hb a H HP => H.v 27 (.bool (!(inR x_4.id 1 1000000))) fun a H => H.v 28 (.bool (!(inR x_4.id 1 1000000))) fun a H => ?_
  refine H.split 28 rfl (fun g28 H => ?_) (fun g28 H => ?_)
  ·have g28p := inR_not.1 (not_is_true g28)
   iterate 3 ((iterate 4 refine H.sx rfl fun a H => ?_); (iterate 2 refine H.vx rfl (.bool true) fun a H => ?_))
   iterate 4 refine H.sx rfl fun a H => ?_
   refine H.vx rfl (.bool true) fun a H => ?_
   refine nl (tn ?_)
   refine w_ift H rfl ?_
   refine sq (rg ?_)
   refine H.v 2 (.bool false) fun a H => ?_
   refine nl (tn (rt (tr (ibr (tr (tr (ibr (tr ?_))))))))
   refine H.r1 (.bool false) Tryz.results34 ?_
   exact ⟨by rw [show (decide ((p.es.length : Int) ≤ 4000) && entsP p [] p.es) = false from by rw [hrel, hd_9, entsP, show (entP p x_4 && !((p.es.take i).map (fun x => x.id)).contains x_4.id) = false from by have hi_ : inR x_4.id 1 1000000 = false := (by rw [inR_not]; omega); simp only [entP, hi_, g12, g12p, g21, g21p, g28, g28p, Bool.not_true, Bool.not_false, Bool.and_false, Bool.false_and, Bool.and_true, Bool.true_and]]; simp], HP.bl⟩
  have g28p := inR_iff.1 (not_is_false g28)
  refine H.v 29 (.map (some m_1)) fun a H => H.v 30 (pt b_11 0) fun a H => H.u 31 (ii x_4.id) (ex_l1 (HP.cell 0 rfl 0 rfl)) fun a H => H.u 32 (.bool (((p.es.take i).map (fun x => x.id)).contains x_4.id)) (ex_lookS (l := (p.es.take i).map (fun x => x.id)) (kt := 3) (et := 4) (s1 := 1) (s2 := 1) (by kernel_rfl) (by kernel_rfl) (by kernel_rfl) (by kernel_rfl) (by kernel_rfl) (HP.mapAt 1 rfl)) fun a H => H.v 33 (.bool (((p.es.take i).map (fun x => x.id)).contains x_4.id)) fun a H => H.v 34 (.bool (((p.es.take i).map (fun x => x.id)).contains x_4.id)) fun a H => ?_
  refine H.split 34 rfl (fun g34 H => ?_) (fun g34 H => ?_)
  ·have g34p := g34
   iterate 2 ((iterate 4 refine H.sx rfl fun a H => ?_); (iterate 2 refine H.vx rfl (.bool true) fun a H => ?_))
   iterate 4 refine H.sx rfl fun a H => ?_
   refine H.vx rfl (.bool true) fun a H => ?_
   refine nl (tn ?_)
   refine w_ift H rfl ?_
   refine sq (rg ?_)
   refine H.v 2 (.bool false) fun a H => ?_
   refine nl (tn (rt (tr (ibr (tr (tr (ibr (tr ?_))))))))
   refine H.r1 (.bool false) Tryz.results34 ?_
   exact ⟨by rw [show (decide ((p.es.length : Int) ≤ 4000) && entsP p [] p.es) = false from by rw [hrel, hd_9, entsP, show (entP p x_4 && !((p.es.take i).map (fun x => x.id)).contains x_4.id) = false from by have hi_ : inR x_4.id 1 1000000 = true := (by rw [inR_iff]; omega); simp only [entP, hi_, g12, g12p, g21, g21p, g28, g28p, g34, g34p, Bool.not_true, Bool.not_false, Bool.and_false, Bool.false_and, Bool.and_true, Bool.true_and]]; simp], HP.bl⟩
  have g34p := g34
  refine H.v 35 (pt b 0) fun a H => H.u 36 (enV x_4) (ex_lN (enL x_4) (HP.cells 0 rfl 0 7 (by kernel_rfl))) fun a H => H.cb HP 37 (Tryz.call72 _ _) (fits_any x_4 b m1 m2 p w_14 (hBk.below HP.bl) hlen hits) fun w_15 hb a H HP => H.v 38 (.bool (!(fitsP p.its p.length x_4))) fun a H => H.v 39 (.bool (!(fitsP p.its p.length x_4))) fun a H => H.v 40 (.bool (!(fitsP p.its p.length x_4))) fun a H => ?_
  refine H.split 40 rfl (fun g40 H => ?_) (fun g40 H => ?_)
  ·have g40p := not_is_true g40
   iterate 4 refine H.sx rfl fun a H => ?_
   iterate 2 refine H.vx rfl (.bool true) fun a H => ?_
   iterate 4 refine H.sx rfl fun a H => ?_
   refine H.vx rfl (.bool true) fun a H => ?_
   refine nl (tn ?_)
   refine w_ift H rfl ?_
   refine sq (rg ?_)
   refine H.v 2 (.bool false) fun a H => ?_
   refine nl (tn (rt (tr (ibr (tr (tr (ibr (tr ?_))))))))
   refine H.r1 (.bool false) Tryz.results34 ?_
   exact ⟨by rw [show (decide ((p.es.length : Int) ≤ 4000) && entsP p [] p.es) = false from by rw [hrel, hd_9, entsP, show (entP p x_4 && !((p.es.take i).map (fun x => x.id)).contains x_4.id) = false from by have hi_ : inR x_4.id 1 1000000 = true := (by rw [inR_iff]; omega); simp only [entP, hi_, g12, g12p, g21, g21p, g28, g28p, g34, g34p, g40, g40p, Bool.not_true, Bool.not_false, Bool.and_false, Bool.false_and, Bool.and_true, Bool.true_and]]; simp], HP.bl⟩
  have g40p := not_is_false g40
  refine H.v 41 (pt b 0) fun a H => H.u 42 (enV x_4) (ex_lN (enL x_4) (HP.cells 0 rfl 0 7 (by kernel_rfl))) fun a H => H.cb HP 43 (Tryz.call73 _ _) (alts_any x_4 b m1 m2 p w_15 (hBk.below HP.bl) ((hBk.below HP.bl).pl.es.ok _ hm_10) hreg) fun w_16 hb a H HP => H.v 44 (.bool (!(altsP p.its p.regions x_4))) fun a H => H.v 45 (.bool (!(altsP p.its p.regions x_4))) fun a H => H.v 46 (.bool (!(altsP p.its p.regions x_4))) fun a H => ?_
  refine H.split 46 rfl (fun g46 H => ?_) (fun g46 H => ?_)
  ·have g46p := not_is_true g46
   iterate 4 refine H.sx rfl fun a H => ?_
   refine H.vx rfl (.bool true) fun a H => ?_
   refine nl (tn ?_)
   refine w_ift H rfl ?_
   refine sq (rg ?_)
   refine H.v 2 (.bool false) fun a H => ?_
   refine nl (tn (rt (tr (ibr (tr (tr (ibr (tr ?_))))))))
   refine H.r1 (.bool false) Tryz.results34 ?_
   exact ⟨by rw [show (decide ((p.es.length : Int) ≤ 4000) && entsP p [] p.es) = false from by rw [hrel, hd_9, entsP, show (entP p x_4 && !((p.es.take i).map (fun x => x.id)).contains x_4.id) = false from by have hi_ : inR x_4.id 1 1000000 = true := (by rw [inR_iff]; omega); simp only [entP, hi_, g12, g12p, g21, g21p, g28, g28p, g34, g34p, g40, g40p, g46, g46p, Bool.not_true, Bool.not_false, Bool.and_false, Bool.false_and, Bool.and_true, Bool.true_and]]; simp], HP.bl⟩
  have g46p := not_is_false g46
  refine H.v 47 (pt b 0) fun a H => H.u 48 (enV x_4) (ex_lN (enL x_4) (HP.cells 0 rfl 0 7 (by kernel_rfl))) fun a H => H.cb HP 49 (Tryz.call74 _ _) (fulfils_any x_4 b m1 m2 p w_16 (hBk.below HP.bl) ((hBk.below HP.bl).pl.es.ok _ hm_10)) fun w_17 hb a H HP => H.v 50 (.bool (!(fulP p.bs x_4))) fun a H => H.v 51 (.bool (!(fulP p.bs x_4))) fun a H => ?_
  refine nl (tn ?_)
  refine w_if H rfl (fun g51 => ?_) (fun g51 => ?_)
  ·have g51p := not_is_true g51
   refine sq (rg ?_)
   refine H.v 2 (.bool false) fun a H => ?_
   refine nl (tn (rt (tr (ibr (tr (tr (ibr (tr ?_))))))))
   refine H.r1 (.bool false) Tryz.results34 ?_
   exact ⟨by rw [show (decide ((p.es.length : Int) ≤ 4000) && entsP p [] p.es) = false from by rw [hrel, hd_9, entsP, show (entP p x_4 && !((p.es.take i).map (fun x => x.id)).contains x_4.id) = false from by have hi_ : inR x_4.id 1 1000000 = true := (by rw [inR_iff]; omega); simp only [entP, hi_, g12, g12p, g21, g21p, g28, g28p, g34, g34p, g40, g40p, g46, g46p, g51, g51p, Bool.not_true, Bool.not_false, Bool.and_false, Bool.false_and, Bool.and_true, Bool.true_and]]; simp], HP.bl⟩
  have g51p := not_is_false g51
  refine sk (tn (rg ?_))
  refine H.v 52 (.map (some m_1)) fun a H => H.v 53 (pt b_11 0) fun a H => H.u 54 (ii x_4.id) (ex_l1 (HP.cell 0 rfl 0 rfl)) fun a H => ?_
  refine Sl.pushM (kt := 3) (et := 4) (k := x_4.id) (v := (.bool true)) H HP 1 [bx b_11 43 (enL x_4) true, (mapB m_1 ((seM ((p.es.take i).map (fun x => x.id))) ++ [(x_4.id, (.bool true))]) true)] (by kernel_rfl) (by kernel_rfl) (by kernel_rfl) (by kernel_rfl) (by kernel_rfl) (by kernel_rfl) rfl (se_none (show ((p.es.take i).map (fun x => x.id)).contains x_4.id = false from by first | assumption | exact g33p | exact g34)) (by kernel_rfl) fun w_18 a H HP => ?_
  have HP : Hp w w_18 [bx b_11 43 (enL x_4) true, (mapB m_1 (seM ((p.es.take (i + 1)).map (fun x => x.id))) true)] [] := by have hh := HP; rw [show (seM ((p.es.take i).map (fun x => x.id))) ++ [(x_4.id, (.bool true))] = (seM ((p.es.take (i + 1)).map (fun x => x.id))) from se_snoc hx_8] at hh; exact hh
  refine nl (ibn (tn (rg ?_)))
  refine H.valE 55 (ii (IntKind.i64.wrap ((i : Int) + 1))) (ii ((i : Int) + 1)) (by kernel_rfl) (by kernel_rfl) ((by rw [wrap_ini64 _ (by omega)])) fun a H => H.v 20 (ii ((i : Int) + 1)) fun a H => ?_
  refine nl (tn ?_)
  have H := H.as 20 (ii ((i + 1 : Nat) : Int)) rfl rfl
  refine ⟨_, ?_, i + 1, rfl, H.keep (by kernel_rfl), (HP.tail rfl), (by omega), (by rw [hrel, hd_9, entsP, show (entP p x_4 && !((p.es.take i).map (fun x => x.id)).contains x_4.id) = true from by have hi_ : inR x_4.id 1 1000000 = true := (by rw [inR_iff]; omega); simp only [entP, hi_, g12, g12p, g21, g21p, g28, g28p, g34, g34p, g40, g40p, g46, g46p, g51, g51p, Bool.not_true, Bool.not_false, Bool.and_false, Bool.false_and, Bool.and_true, Bool.true_and], Bool.true_and, ids_snoc hx_8])⟩
  omega
 have g21p := of_decide_eq_false g21
 refine wp_exit (then_exit (then_exit ?_))
 refine w_exit_here ?_
 refine tn (sq (rg ?_))
 refine H.v 2 (.bool true) fun a H => ?_
 refine nl (tn (rt ?_))
 refine H.r1 (.bool true) Tryz.results34 ?_
 exact ⟨by rw [show (decide ((p.es.length : Int) ≤ 4000) && entsP p [] p.es) = true from by rw [hrel, List.drop_eq_nil_of_le (by omega)]; simp [entsP, show (p.es.length : Int) ≤ 4000 by omega]], HP.bl⟩
theorem valid_any (p : Pln) (w : World) (hpl : IsPln w p) (hL : LaidR w) : Calls Tryz.prog 14 #[(plV p)] w fun e w' => e = .returned (.bool (validPl p)) ∧ Below w.heap.size w w' := by
 have HP := Hp.start w
 refine w_enter 21 [(0, (plV p))] Tryz.func14 rfl Tryz.ntmps14 (by kernel_rfl) (by kernel_rfl) fun a H => ?_
 refine sq (rg ?_)
 refine H.al HP 1 32 (plL p) fun b_1 w_2 a H HP => H.v 2 (.bool false) fun a H => ?_
 refine nl (tn (sq (rg ?_)))
 refine H.u 4 (plV p) (ex_lN (plL p) (HP.cells 0 rfl 0 13 (by kernel_rfl))) fun a H => ?_
 refine H.newMap HP 5 (by kernel_rfl) fun m_3 w_4 a H HP => ?_
 have HP : Hp w w_4 [(mapB m_3 (itM ([])) true), bx b_1 32 (plL p) true] [] := HP
 refine H.newMap HP 6 (by kernel_rfl) fun m_5 w_6 a H HP => ?_
 have HP : Hp w w_6 [(mapB m_5 (bkM ([])) true), (mapB m_3 (itM ([])) true), bx b_1 32 (plL p) true] [] := HP
 refine H.v 7 (.agg #[(ii p.channel), (ii p.num), (ii p.den), (ii p.offset), (.slice p.SA p.sh.length p.sc), (ii p.epoch), (ii p.regions), (ii p.length), (ii p.fill), (.slice p.IA p.its.length p.ic), (.slice p.EA p.es.length p.ec), (.slice p.BA p.bs.length p.bc), (.slice p.CA p.cs.length p.cc), (.map (some m_3)), (.map (some m_5))]) fun a H => H.al HP 3 67 [(ii 0), (ii 0), (ii 0), (ii 0), (.slice none 0 0), (ii 0), (ii 0), (ii 0), (ii 0), (.slice none 0 0), (.slice none 0 0), (.slice none 0 0), (.slice none 0 0), (.map none), (.map none)] fun b_7 w_8 a H HP => H.st HP 0 b_7 0 15 67 true (.agg #[(ii p.channel), (ii p.num), (ii p.den), (ii p.offset), (.slice p.SA p.sh.length p.sc), (ii p.epoch), (ii p.regions), (ii p.length), (ii p.fill), (.slice p.IA p.its.length p.ic), (.slice p.EA p.es.length p.ec), (.slice p.BA p.bs.length p.bc), (.slice p.CA p.cs.length p.cc), (.map (some m_3)), (.map (some m_5))]) [bx b_7 67 [(ii p.channel), (ii p.num), (ii p.den), (ii p.offset), (.slice p.SA p.sh.length p.sc), (ii p.epoch), (ii p.regions), (ii p.length), (ii p.fill), (.slice p.IA p.its.length p.ic), (.slice p.EA p.es.length p.ec), (.slice p.BA p.bs.length p.bc), (.slice p.CA p.cs.length p.cc), (.map (some m_3)), (.map (some m_5))] true, (mapB m_5 (bkM ([])) true), (mapB m_3 (itM ([])) true), bx b_1 32 (plL p) true] rfl fun w_9 a H HP => ?_
 refine nl (tn (sq (rg ?_)))
 refine H.cb HP 8 (Tryz.call31 _ _) (sound_any b_7 m_3 m_5 p w_9 (HP.at_ 0 rfl) (hpl.below HP.bl) (hL.below HP.bl)) fun w_10 hb a H HP => H.v 9 (.bool (soundP p)) fun a H => ?_
 refine H.split 9 rfl (fun g9 H => ?_) (fun g9 H => ?_)
 ·have g9p := g9
  refine H.cl 10 (Tryz.call32 _ _) (hasItems_any b_7 m_3 m_5 p w_10 (HP.at_ 0 rfl) (HP.mapAt 2 rfl) (hpl.below HP.bl) (fun k hk => HP.fp_new 2 rfl (hpl.lt k hk))) ?_
  rintro e w_11 ⟨rfl, l1, hml, hl1, hg⟩
  refine ⟨_, rfl, ?_⟩
  intro a H
  have HP := HP.changedM 2 rfl l1 [bx b_7 67 [(ii p.channel), (ii p.num), (ii p.den), (ii p.offset), (.slice p.SA p.sh.length p.sc), (ii p.epoch), (ii p.regions), (ii p.length), (ii p.fill), (.slice p.IA p.its.length p.ic), (.slice p.EA p.es.length p.ec), (.slice p.BA p.bs.length p.bc), (.slice p.CA p.cs.length p.cc), (.map (some m_3)), (.map (some m_5))] true, (mapB m_5 (bkM ([])) true), (mapB m_3 l1 true), bx b_1 32 (plL p) true] (by kernel_rfl) hg hml
  refine H.v 11 (.bool (itsP p.its p.fill)) fun a H => H.v 12 (.bool (itsP p.its p.fill)) fun a H => ?_
  refine H.split 12 rfl (fun g12 H => ?_) (fun g12 H => ?_)
  ·have g12p := g12
   have hl1 := hl1 g12
   subst hl1
   refine H.cl 13 (Tryz.call33 _ _) (hasBookings_any b_7 m_3 m_5 p w_11 (HP.at_ 0 rfl) (HP.mapAt 2 rfl) (HP.mapAt 1 rfl) (hpl.below HP.bl) (fun k hk => HP.fp_new 1 rfl (hpl.lt k hk)) (fun e => HP.two 1 2 rfl rfl (by decide) e.symm) (sound_facts g9).1) ?_
   rintro e w_12 ⟨rfl, l2, hml, hl2, hg⟩
   refine ⟨_, rfl, ?_⟩
   intro a H
   have HP := HP.changedM 1 rfl l2 [bx b_7 67 [(ii p.channel), (ii p.num), (ii p.den), (ii p.offset), (.slice p.SA p.sh.length p.sc), (ii p.epoch), (ii p.regions), (ii p.length), (ii p.fill), (.slice p.IA p.its.length p.ic), (.slice p.EA p.es.length p.ec), (.slice p.BA p.bs.length p.bc), (.slice p.CA p.cs.length p.cc), (.map (some m_3)), (.map (some m_5))] true, (mapB m_5 l2 true), (mapB m_3 (itM p.its) true), bx b_1 32 (plL p) true] (by kernel_rfl) hg hml
   refine H.v 14 (.bool (bksP p.its p.regions p.bs)) fun a H => H.v 15 (.bool (bksP p.its p.regions p.bs)) fun a H => ?_
   refine H.split 15 rfl (fun g15 H => ?_) (fun g15 H => ?_)
   ·have g15p := g15
    have hl2 := hl2 g15
    subst hl2
    have hBk : BookAt w_12 b_7 m_3 m_5 p := ⟨HP.at_ 0 rfl, HP.mapAt 2 rfl, HP.mapAt 1 rfl, hpl.below HP.bl⟩
    refine H.cb HP 16 (Tryz.call34 _ _) (hasEntries_any b_7 m_3 m_5 p w_12 hBk (sound_facts g9).2 (its_facts g12) (sound_facts g9).1) fun w_13 hb a H HP => ?_
    have hBk := hBk.below hb
    refine H.v 17 (.bool (decide ((p.es.length : Int) ≤ 4000) && entsP p [] p.es)) fun a H => H.v 18 (.bool (decide ((p.es.length : Int) ≤ 4000) && entsP p [] p.es)) fun a H => ?_
    refine H.split 18 rfl (fun g18 H => ?_) (fun g18 H => ?_)
    ·have g18p := g18
     refine H.cb HP 19 (Tryz.call35 _ _) (clauses_any b_7 m_3 m_5 p w_13 hBk) fun w_14 hb a H HP => H.v 20 (.bool (clsP p.cs)) fun a H => H.v 2 (.bool (clsP p.cs)) fun a H => ?_
     refine nl (tn (rt ?_))
     refine H.r1 (.bool (clsP p.cs)) Tryz.results14 ?_
     exact ⟨by rw [show validPl p = (clsP p.cs) from by unfold validPl; simp only [g9, g12, g15, g18, Bool.true_and, Bool.false_and, Bool.and_true, Bool.and_false]], HP.bl⟩
    have g18p := g18
    refine H.s 19 fun a H => ?_
    refine H.v 20 (.bool false) fun a H => H.v 2 (.bool false) fun a H => ?_
    refine nl (tn (rt ?_))
    refine H.r1 (.bool false) Tryz.results14 ?_
    exact ⟨by rw [show validPl p = (false) from by unfold validPl; simp only [g9, g12, g15, g18, Bool.true_and, Bool.false_and, Bool.and_true, Bool.and_false]], HP.bl⟩
   have g15p := g15
   refine H.s 16 fun a H => ?_
   refine H.v 17 (.bool false) fun a H => H.v 18 (.bool false) fun a H => ?_
   refine H.s 19 fun a H => ?_
   refine H.v 20 (.bool false) fun a H => H.v 2 (.bool false) fun a H => ?_
   refine nl (tn (rt ?_))
   refine H.r1 (.bool false) Tryz.results14 ?_
   exact ⟨by rw [show validPl p = (false) from by unfold validPl; simp only [g9, g12, g15, Bool.true_and, Bool.false_and, Bool.and_true, Bool.and_false]], HP.bl⟩
  have g12p := g12
  refine H.s 13 fun a H => ?_
  refine H.v 14 (.bool false) fun a H => H.v 15 (.bool false) fun a H => ?_
  refine H.s 16 fun a H => ?_
  refine H.v 17 (.bool false) fun a H => H.v 18 (.bool false) fun a H => ?_
  refine H.s 19 fun a H => ?_
  refine H.v 20 (.bool false) fun a H => H.v 2 (.bool false) fun a H => ?_
  refine nl (tn (rt ?_))
  refine H.r1 (.bool false) Tryz.results14 ?_
  exact ⟨by rw [show validPl p = (false) from by unfold validPl; simp only [g9, g12, Bool.true_and, Bool.false_and, Bool.and_true, Bool.and_false]], HP.bl⟩
 have g9p := g9
 refine H.s 10 fun a H => ?_
 refine H.v 11 (.bool false) fun a H => H.v 12 (.bool false) fun a H => ?_
 refine H.s 13 fun a H => ?_
 refine H.v 14 (.bool false) fun a H => H.v 15 (.bool false) fun a H => ?_
 refine H.s 16 fun a H => ?_
 refine H.v 17 (.bool false) fun a H => H.v 18 (.bool false) fun a H => ?_
 refine H.s 19 fun a H => ?_
 refine H.v 20 (.bool false) fun a H => H.v 2 (.bool false) fun a H => ?_
 refine nl (tn (rt ?_))
 refine H.r1 (.bool false) Tryz.results14 ?_
 exact ⟨by rw [show validPl p = (false) from by unfold validPl; simp only [g9, Bool.true_and, Bool.false_and, Bool.and_true, Bool.and_false]], HP.bl⟩
end Go.Proofs.YteeillphhiaopaaGreatDoor
namespace Go.Proofs.YteeillphhiaopaaGreatDoor
set_option maxRecDepth 100000
set_option maxHeartbeats 4000000
set_option linter.unusedVariables false
def wmax : Int := 4611686018427387903
def vput : Nat → Nat → List Nat
  | 0, _ => []
  | f + 1, z => if z < 128 then [z] else (z % 128 + 128) :: vput f (z / 128)
def zig (n : Int) : Nat := if n < 0 then ((-n) * 2 - 1).toNat else (n * 2).toNat
def unzig (z : Nat) : Int := if z % 2 = 1 then -((z / 2 : Nat) : Int) - 1 else ((z / 2 : Nat) : Int)
def encInt (n : Int) : List UInt8 := (vput 9 (zig n)).map UInt8.ofNat
def vget : Nat → Nat → Nat → List UInt8 → Option (Int × Nat)
  | 0, _, _, _ => none
  | _ + 1, _, _, [] => none
  | f + 1, j, y, b :: r =>
    if 128 ≤ b.toNat then vget f (j + 1) (y + b.toNat % 128 * 128 ^ j) r
    else if b.toNat = 0 ∧ 0 < j then none
    else if unzig (y + b.toNat % 128 * 128 ^ j) < -wmax then none
    else some (unzig (y + b.toNat % 128 * 128 ^ j), j + 1)
def rdInt (l : List UInt8) (k : Nat) : Option (Int × Nat) := (vget 9 0 0 (l.drop k)).map fun p => (p.1, k + p.2)
theorem zig_unzig (n : Int) : unzig (zig n) = n := by
  unfold zig unzig
  split <;> split <;> omega
theorem unzig_zig (z : Nat) : zig (unzig z) = z := by
  unfold zig unzig
  split <;> split <;> omega
theorem zig_lt (n : Int) (h1 : -wmax ≤ n) (h2 : n ≤ wmax) : zig n < 9223372036854775808 := by
  unfold wmax at *
  unfold zig
  split <;> omega
theorem vput_bytes (f z : Nat) : ∀ x ∈ vput f z, x < 256 := by
  induction f generalizing z with
  | zero => intro x hx; cases hx
  | succ f ih =>
    intro x hx
    unfold vput at hx
    split at hx
    · simp at hx; omega
    · rw [List.mem_cons] at hx
      rcases hx with rfl | hx
      · omega
      · exact ih _ x hx
theorem ofNat_toNat {x : Nat} (h : x < 256) : (UInt8.ofNat x).toNat = x := by
  rw [UInt8.toNat_ofNat']; exact Nat.mod_eq_of_lt h
theorem vget_put (f : Nat) : ∀ (j y z : Nat) (r : List UInt8), z < 128 ^ f → 0 < f → (0 < j → 0 < z) → -wmax ≤ unzig (y + z * 128 ^ j) →
    vget f j y ((vput f z).map UInt8.ofNat ++ r) = some (unzig (y + z * 128 ^ j), j + (vput f z).length) := by
  induction f with
  | zero => intro j y z r hz hf; omega
  | succ f ih =>
    intro j y z r hz _ hj hu
    unfold vput
    by_cases h : z < 128
    · rw [if_pos h]
      simp only [List.map_cons, List.map_nil, List.cons_append, List.nil_append, vget]
      rw [ofNat_toNat (by omega), if_neg (by omega), if_neg (by omega), Nat.mod_eq_of_lt h, if_neg (by omega)]
      simp
    · rw [if_neg h]
      simp only [List.map_cons, List.cons_append, vget]
      rw [ofNat_toNat (by omega), if_pos (by omega)]
      have hm : (z % 128 + 128) % 128 = z % 128 := by omega
      have hval : y + z % 128 * 128 ^ j + z / 128 * 128 ^ (j + 1) = y + z * 128 ^ j := by
        have : z * 128 ^ j = (z % 128 + z / 128 * 128) * 128 ^ j := by congr 1; omega
        rw [this, Nat.add_mul, Nat.pow_succ]
        have e : z / 128 * 128 * 128 ^ j = z / 128 * (128 ^ j * 128) := by rw [Nat.mul_assoc, Nat.mul_comm 128 (128 ^ j)]
        omega
      have hf : 0 < f := by
        rcases Nat.eq_zero_or_pos f with h0 | h0
        · subst h0; simp at hz; omega
        · exact h0
      rw [hm, ih (j + 1) _ (z / 128) r (by rw [Nat.pow_succ] at hz; omega) hf (fun _ => by omega) (by rw [hval]; exact hu), hval]
      simp only [List.length_cons]
      congr 2
      omega
theorem rdInt_enc (p r : List UInt8) (n : Int) (h1 : -wmax ≤ n) (h2 : n ≤ wmax) : rdInt (p ++ encInt n ++ r) p.length = some (n, p.length + (encInt n).length) := by
  unfold rdInt encInt
  rw [List.append_assoc, List.drop_left]
  have hz := zig_lt n h1 h2
  rw [vget_put 9 0 0 (zig n) r (by omega) (by omega) (by omega) (by simp [zig_unzig]; exact h1)]
  simp [zig_unzig]
theorem vget_canon (f : Nat) : ∀ (j y : Nat) (l : List UInt8) (n : Int) (k : Nat), y < 128 ^ j → vget f j y l = some (n, k) →
    ∃ z, z < 128 ^ f ∧ n = unzig (y + z * 128 ^ j) ∧ -wmax ≤ n ∧ k = j + (vput f z).length ∧ (0 < j → 0 < z) ∧ (vput f z).map UInt8.ofNat ++ l.drop (k - j) = l ∧ k - j ≤ l.length := by
  induction f with
  | zero => intro j y l n k _ h; cases l <;> cases h
  | succ f ih =>
    intro j y l n k hy h
    cases l with
    | nil => cases h
    | cons b r =>
      simp only [vget] at h
      have hb := b.toNat_lt
      by_cases h1 : 128 ≤ b.toNat
      · rw [if_pos h1] at h
        obtain ⟨z, hz, hn, hw, hk, hp, hl, hkl⟩ := ih (j + 1) _ r n k (by
          rw [Nat.pow_succ]
          have : b.toNat % 128 * 128 ^ j ≤ 127 * 128 ^ j := Nat.mul_le_mul_right _ (by omega)
          omega) h
        have hz0 := hp (by omega)
        refine ⟨b.toNat % 128 + z * 128, by rw [Nat.pow_succ]; omega, ?_, hw, ?_, fun _ => by omega, ?_, by simp; omega⟩
        · rw [hn]
          congr 1
          rw [Nat.add_mul, Nat.pow_succ, Nat.mul_assoc z 128, Nat.mul_comm 128 (128 ^ j)]
          omega
        · rw [vput, if_neg (by omega), List.length_cons, show (b.toNat % 128 + z * 128) / 128 = z by omega]
          omega
        · rw [vput, if_neg (by omega), show (b.toNat % 128 + z * 128) / 128 = z by omega, show (b.toNat % 128 + z * 128) % 128 + 128 = b.toNat by omega]
          have e : k - j = (k - (j + 1)) + 1 := by omega
          rw [e, List.drop_succ_cons, List.map_cons, List.cons_append, hl]
          congr 1
          exact UInt8.toNat_inj.1 (ofNat_toNat hb)
      · rw [if_neg h1] at h
        by_cases h2 : b.toNat = 0 ∧ 0 < j
        · rw [if_pos h2] at h; cases h
        · rw [if_neg h2] at h
          by_cases h3 : unzig (y + b.toNat % 128 * 128 ^ j) < -wmax
          · rw [if_pos h3] at h; cases h
          · rw [if_neg h3] at h
            cases h
            rw [Nat.mod_eq_of_lt (by omega)] at h3 ⊢
            refine ⟨b.toNat, by rw [Nat.pow_succ]; have := Nat.one_le_pow f 128 (by omega); omega, rfl, by omega, ?_, fun hj => by omega, ?_, by simp⟩
            · rw [vput, if_pos (by omega)]; rfl
            · rw [vput, if_pos (by omega), show j + 1 - j = 1 by omega]
              simp only [List.map_cons, List.map_nil, List.cons_append, List.nil_append, List.drop_succ_cons, List.drop_zero]
              congr 1
              exact UInt8.toNat_inj.1 (ofNat_toNat hb)
theorem unzig_le (z : Nat) (h : z < 9223372036854775808) : unzig z ≤ wmax := by
  unfold wmax unzig
  split <;> omega
theorem rdInt_canon {l : List UInt8} {k e : Nat} {n : Int} (hk : k ≤ l.length) (h : rdInt l k = some (n, e)) :
    -wmax ≤ n ∧ n ≤ wmax ∧ e = k + (encInt n).length ∧ e ≤ l.length ∧ l.drop k = encInt n ++ l.drop e := by
  unfold rdInt at h
  cases hv : vget 9 0 0 (l.drop k) with
  | none => rw [hv] at h; cases h
  | some p =>
    obtain ⟨n', c⟩ := p
    rw [hv] at h
    simp only [Option.map_some, Option.some.injEq, Prod.mk.injEq] at h
    obtain ⟨rfl, rfl⟩ := h
    obtain ⟨z, hz, hn, hw, hk', _, hl, hkl⟩ := vget_canon 9 0 0 _ _ _ (by decide) hv
    simp only [Nat.pow_zero, Nat.mul_one, Nat.zero_add, Nat.sub_zero] at hn hk' hl hkl
    have hz2 : z < 9223372036854775808 := by omega
    have he : encInt n' = (vput 9 z).map UInt8.ofNat := by unfold encInt; rw [hn, unzig_zig]
    refine ⟨hw, by rw [hn]; exact unzig_le z hz2, by rw [he, List.length_map, hk'], by rw [List.length_drop] at hkl; omega, ?_⟩
    rw [List.drop_drop] at hl
    rw [he, hl]
theorem vput_len (f z : Nat) (hf : 0 < f) : 1 ≤ (vput f z).length ∧ (vput f z).length ≤ f := by
  induction f generalizing z with
  | zero => omega
  | succ f ih =>
    unfold vput
    split
    · simp
    · simp only [List.length_cons]
      rcases Nat.eq_zero_or_pos f with h0 | h0
      · subst h0; simp [vput]
      · have := ih (z / 128) h0; omega
theorem encInt_len (n : Int) : 1 ≤ (encInt n).length ∧ (encInt n).length ≤ 9 := by
  unfold encInt; rw [List.length_map]; exact vput_len 9 _ (by omega)
end Go.Proofs.YteeillphhiaopaaGreatDoor
