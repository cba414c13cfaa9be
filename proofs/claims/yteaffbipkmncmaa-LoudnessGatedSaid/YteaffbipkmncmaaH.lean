/- The walks of the statements on chapter 14 that take numbers. -/
import Derived.Test.YteaffbipkmncmaaG
namespace Go.Proofs.Yteaffbipkmncmaa
open Go.ChangeShapes Go.WideShapes Go.ChangeAt Go.RowKit
set_option linter.unusedVariables false

theorem wf_bd {n : Int} (h : (Lit.int .i64 n).wf = true) : -9223372036854775808 ≤ n ∧ n ≤ 9223372036854775807 := by
  have := bounds_i64 h; omega

theorem isInts_of_row {w : World} {x : Addr} {l c : Nat} {zs : List Int} (hl : l ≤ c) (hz : zs.length = c) (hcell : ∀ i, i < zs.length → w.cell? (x.add i) = some (.int .i64 (zs.getD i 0))) : IsInts w (some x) l (zs.take l) := by
  refine ⟨by rw [List.length_take]; omega, ?_⟩
  by_cases h0 : l = 0
  · exact .inl h0
  · have h1 := hcell 0 (by omega)
    have h2 : x.spot = none := by
      simp only [Addr.add, if_true] at h1
      unfold World.cell? at h1
      split at h1
      · by_cases hs : x.spot.isSome = true
        · simp [hs] at h1
        · simpa using hs
      · simp at h1
    obtain ⟨b, off, sp⟩ := x
    simp only at h2
    subst h2
    refine .inr ⟨b, off, rfl, ?_, fun i hi => ?_⟩
    · simp only [Addr.add, if_true] at h1
      exact World.block_lt_of_cell? w _ h1
    · have := hcell i (by omega)
      unfold Addr.add at this
      rw [show (zs.take l).getD i 0 = zs.getD i 0 by simp only [List.getD, List.getElem?_take]; rw [if_pos hi]]
      split at this
      · subst i; simpa using this
      · exact this

namespace loudnessRampMatchesReference
set_option maxHeartbeats 400000 in
theorem walk (a0 a1 a2 : Int) (w : World) (w0 : (Lit.int .i64 a0).wf = true) (w1 : (Lit.int .i64 a1).wf = true) (w2 : (Lit.int .i64 a2).wf = true) :
    Calls Try.prog 4 #[.int .i64 a0, .int .i64 a1, .int .i64 a2] w fun e w' => e = .returned (.bool true) ∧ Below w.heap.size w w' := by
  have b2 := (wf_bd w2).2
  clear w0 w1 w2
  go_enter Try.func4, Try.ntmps4
  go_wp2_with fail
  refine (sane_any _).mono ?_
  rintro e w1 ⟨rfl, b1⟩
  go_wp2_with fail
  refine (Next_any _ _ _).mono ?_
  rintro e w2 ⟨rfl, b2⟩
  go_wp2_with fail
  refine (refNext_any _ _ _).mono ?_
  rintro e w3 ⟨rfl, rfl⟩
  go_wp2_with fail
  refine (Ramp_any _ _ _ _ (by omega)).mono ?_
  rintro e w4 ⟨rfl, b4⟩
  go_wp2_with fail
  refine (refRamp_any _ _ _ _).mono ?_
  rintro e w5 ⟨rfl, rfl⟩
  go_wp2_with fail
  go_ret
  exact ⟨rfl, bnext (bnext b1 b2) b4⟩
end loudnessRampMatchesReference

namespace loudnessRampSplit
theorem split_law (g t : Int) (a b : Int) (ha : 0 ≤ a) (hb : 0 ≤ b) : rampOf g t (a + b) = rampOf (rampOf g t a) t b := by
  unfold rampOf
  have h1 := iter_bd (lim g) (lim t) (lim_bd g) (lim_bd t) a.toNat
  rw [show (a + b).toNat = a.toNat + b.toNat by omega, iter_add]
  rw [show lim (iter (lim g) (lim t) a.toNat) = iter (lim g) (lim t) a.toNat by generalize iter _ _ _ = x at *; unfold lim; omega]
theorem one_law (g t : Int) : rampOf g t 1 = nxt (lim g) (lim t) := rfl
set_option maxHeartbeats 1000000 in
theorem walk (g t a b : Int) (w : World) (w0 : (Lit.int .i64 g).wf = true) (w1 : (Lit.int .i64 t).wf = true) (w2 : (Lit.int .i64 a).wf = true) (w3 : (Lit.int .i64 b).wf = true) :
    Calls Try.prog 8 #[.int .i64 g, .int .i64 t, .int .i64 a, .int .i64 b] w fun e w' => e = .returned (.bool true) ∧ Below w.heap.size w w' := by
  clear w0 w1 w2 w3
  go_enter Try.func8, Try.ntmps8
  go_wp2_with fail
  refine (sane_any _).mono ?_
  rintro e w1 ⟨rfl, b1⟩
  go_wp2_with fail
  all_goals
    refine (Ramp_any _ _ _ _ (by omega)).mono ?_
    rintro e w2 ⟨rfl, b2⟩
    go_wp2_with fail
    refine (Ramp_any _ _ _ _ (by omega)).mono ?_
    rintro e w3 ⟨rfl, b3⟩
    go_wp2_with fail
    refine (Ramp_any _ _ _ _ (by omega)).mono ?_
    rintro e w4 ⟨rfl, b4⟩
    rw [← split_law _ _ _ _ (by omega) (by omega)]
    go_wp2_with fail
    refine (Ramp_any _ _ _ _ (by omega)).mono ?_
    rintro e w5 ⟨rfl, b5⟩
    go_wp2_with fail
    refine (Next_any _ _ _).mono ?_
    rintro e w6 ⟨rfl, b6⟩
    rw [← one_law]
    go_wp2_with fail
    go_ret
    exact ⟨rfl, bnext (bnext (bnext (bnext (bnext b1 b2) b3) b4) b5) b6⟩
end loudnessRampSplit
end Go.Proofs.Yteaffbipkmncmaa
