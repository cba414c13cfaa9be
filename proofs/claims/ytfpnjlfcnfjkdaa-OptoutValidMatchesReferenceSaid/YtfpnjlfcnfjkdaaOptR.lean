/- The walk of OptoutValidMatchesReference. -/
import Derived.Test.YtfpnjlfcnfjkdaaOptS
import Derived.Deep.RegionHeld3
namespace Go.Proofs.Ytfpnjlfcnfjkdaa
open Go.ChangeShapes Go.WideShapes Go.ChangeAt Go.RowKit
set_option linter.unusedVariables false
namespace optoutValidMatchesReference

set_option maxRecDepth 100000 in
set_option maxHeartbeats 16000000 in
theorem walk (a0 a1 : OptA) (r : Int) (w : World) (h0 : opOpt.ok w a0) (h1 : opOpt.ok w a1) (h2 : (Lit.int .i64 r).wf = true) :
    Calls Try.prog 3 #[.agg (opOpt.cells a0).toArray, .agg (opOpt.cells a1).toArray, .int .i64 r] w fun e w' => e = .returned (.bool true) ∧ Below w.heap.size w w' := by
  obtain ⟨s, f, A, c, al⟩ := a0
  obtain ⟨t, g, B, d, bl⟩ := a1
  obtain ⟨i0, l0, m0, _⟩ := h0
  obtain ⟨i1, l1, m1, _⟩ := h1
  simp only at i0 l0 m0 i1 l1 m1
  have n0 : al.length ≤ maxLen := Nat.le_trans l0 m0
  have n1 : bl.length ≤ maxLen := Nat.le_trans l1 m1
  show Calls Try.prog 3 #[optV s f A al.length c, optV t g B bl.length d, .int .i64 r] w _
  have b0 := balloc w (.cells (optC s f A al.length c) 24)
  have b1 := b0.alloc b0.size (.cells (optC t g B bl.length d) 24)
  have x0 := (Box.new w 24 (optC s f A al.length c)).next (balloc _ (.cells (optC t g B bl.length d) 24))
  have x1 := Box.new (w.alloc (.cells (optC s f A al.length c) 24)) 24 (optC t g B bl.length d)
  rw [World.size_alloc] at x1
  have I0 := Lib.hid i0
  have I1 := Lib.hid i1
  have BW := Lib.hid b1
  have X0 := Lib.hid x0
  have X1 := Lib.hid x1
  clear i0 i1 b0 b1 x0 x1 h2
  go_enter Try.func3, Try.ntmps3
  go_wp2_with fail
  refine (sane_any _).mono ?_
  rintro e w1 ⟨rfl, bb⟩
  have X0 := Lib.hid (X0.out.next bb)
  have X1 := Lib.hid (X1.out.next bb)
  have BW := Lib.hid (bnext BW.out bb)
  have k0 := X0.out.cell (i := 0) rfl
  have k1 := X0.out.cell (i := 1) rfl
  have k2 := X0.out.cell (i := 2) rfl
  clear bb
  go_wp2_with fail
  refine (item_any s f A al.length c al r _ (I0.out.below BW.out) n0).mono ?_
  rintro e w2 ⟨rfl, bb⟩
  clear k0 k1 k2
  have X0 := Lib.hid (X0.out.next bb)
  have X1 := Lib.hid (X1.out.next bb)
  have BW := Lib.hid (bnext BW.out bb)
  have k0 := X0.out.cell (i := 0) rfl
  have k1 := X0.out.cell (i := 1) rfl
  have k2 := X0.out.cell (i := 2) rfl
  clear bb
  go_wp2_with fail
  refine (ritem_any s f A al.length c al r _ (I0.out.below BW.out) n0).mono ?_
  rintro e w3 ⟨rfl, bb⟩
  clear k0 k1 k2
  have X0 := Lib.hid (X0.out.next bb)
  have X1 := Lib.hid (X1.out.next bb)
  have BW3 := Lib.hid (bnext BW.out bb)
  have k0 := X0.out.cell (i := 0) rfl
  have k1 := X0.out.cell (i := 1) rfl
  have k2 := X0.out.cell (i := 2) rfl
  have j0 := X1.out.cell (i := 0) rfl
  have j1 := X1.out.cell (i := 1) rfl
  have j2 := X1.out.cell (i := 2) rfl
  clear bb
  go_upto_region 4 with (fail)
  generalize (itemP r al).getD 0 = iv at *
  generalize (itemP r al).isSome = ib at *
  go_region_held3 (fun w' => w'.cell? ⟨w.heap.size, 0, none⟩ = some (.int .i64 s) ∧ w'.cell? ⟨w.heap.size, 1, none⟩ = some (.int .i64 f) ∧ w'.cell? ⟨w.heap.size, 2, none⟩ = some (.slice A al.length c) ∧
      w'.cell? ⟨w.heap.size + 1, 0, none⟩ = some (.int .i64 t) ∧ w'.cell? ⟨w.heap.size + 1, 1, none⟩ = some (.int .i64 g) ∧ w'.cell? ⟨w.heap.size + 1, 2, none⟩ = some (.slice B bl.length d) ∧ Below w.heap.size w w')
    (first
      | (go_split_ands; exact ⟨below_cell bb (by assumption), below_cell bb (by assumption), below_cell bb (by assumption), below_cell bb (by assumption), below_cell bb (by assumption), below_cell bb (by assumption), bnext (by assumption) bb⟩)
      | (refine ⟨k0, k1, k2, j0, j1, j2, BW3.out.drew⟩)
      | (go_split_ands; refine ⟨?_, ?_, ?_, ?_, ?_, ?_, ?_⟩ <;> assumption))
    (first
      | (go_at_call 13; go_split_ands; refine (valid_any s f A al.length c al _ (I0.out.below (by assumption))).mono ?_; rintro e w5 ⟨rfl, bb⟩)
      | (go_at_call 14; go_split_ands; refine (rvalid_any s f A al.length c al _ (I0.out.below (by assumption)) n0).mono ?_; rintro e w5 ⟨rfl, bb⟩)
      | (go_at_call 16; go_split_ands; refine (rsame_any s f A al.length c al t g B bl.length d bl _ (I0.out.below (by assumption)) (I1.out.below (by assumption)) n0).mono ?_; rintro e w5 ⟨rfl, bb⟩)
      | (go_at_call 15; go_split_ands; ((with_reducible refine (same_any s f A al.length c al t g B bl.length d bl _ (I0.out.below (by assumption)) (I1.out.below (by assumption)) n0).mono ?_); rintro e w5 ⟨rfl, bb⟩))
      | (go_at_call 15; go_split_ands; refine (same_any s f A al.length c al s f A al.length c al _ (I0.out.below (by assumption)) (I0.out.below (by assumption)) n0).mono ?_; rintro e w5 ⟨rfl, bb⟩; rw [sameP_refl]))
  go_split_ands
  go_wp2_with fail
  go_ret
  exact ⟨rfl, by assumption⟩
end optoutValidMatchesReference
end Go.Proofs.Ytfpnjlfcnfjkdaa
