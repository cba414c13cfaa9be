/- Contract of sane, chapter 13. -/
import Derived.Test.YtbiniebonjcekaaVlawH
namespace Go.Proofs.Ytbiniebonjcekaa
open Go.ChangeShapes Go.WideShapes Go.ChangeAt Go.RowKit
set_option linter.unusedVariables false

set_option maxRecDepth 100000 in
set_option maxHeartbeats 2000000 in
theorem vsane_any (w : World) : Calls Try.prog 9 #[] w fun e w' => e = .returned (.bool true) ∧ Below w.heap.size w w' := by
  have E1 : Hid (runOf 500 [300, 300, 100] = some 100) := Lib.hid (by decide +kernel)
  have E2 : Hid (runOf 500 [300, 300, 100, 201] = none) := Lib.hid (by decide +kernel)
  have E3 : Hid (needOf [300, 300, 100] = some 400) := Lib.hid (by decide +kernel)
  have E4 : Hid (needOf [1001] = none) := Lib.hid (by decide +kernel)
  have E5 : Hid (exitsOf [200, 0, 0, 600] = [0, 2, 3]) := Lib.hid (by decide +kernel)
  have E6 : Hid (vstep 500 600 = some 0) := Lib.hid (by decide +kernel)
  have E7 : Hid (confOf [600, 0, 0, 0, 0, 0] = true) := Lib.hid (by decide +kernel)
  have E8 : Hid (confOf [600, 0, 0, 0, 0] = false) := Lib.hid (by decide +kernel)
  have N : ∀ (w : World) (zs : List Int), zs.length ≤ 6 → Hid (IsInts (w.alloc (.cells (ints zs).toArray 3)) (some ⟨w.heap.size, 0, none⟩) zs.length zs) := fun w zs h => Lib.hid (isInts_new w 3 zs (by unfold maxLen; omega))
  go_enter Try.func9, Try.ntmps9
  go_wp2_with fail
  refine (vbvRun_any _ _ _ _ [300, 300, 100] _ (N _ [300, 300, 100] (by simp)).out (by simp)).mono ?_
  rintro e w1 ⟨rfl, b1⟩
  rw [E1.out]; unfold pairV
  go_wp2_with fail
  refine (vbvRun_any _ _ _ _ [300, 300, 100, 201] _ (N _ [300, 300, 100, 201] (by simp)).out (by simp)).mono ?_
  rintro e w2 ⟨rfl, b2⟩
  rw [E2.out]; unfold pairV
  go_wp2_with fail
  refine (vbvNeed_any _ _ _ [300, 300, 100] _ (N _ [300, 300, 100] (by simp)).out (by simp)).mono ?_
  rintro e w3 ⟨rfl, b3⟩
  rw [E3.out]; unfold pairV
  go_wp2_with fail
  refine (vbvNeed_any _ _ _ [1001] _ (N _ [1001] (by simp)).out (by simp)).mono ?_
  rintro e w4 ⟨rfl, b4⟩
  rw [E4.out]; unfold pairV
  go_wp2_with fail
  refine (vbvExits_any _ _ _ [200, 0, 0, 600] _ (N _ [200, 0, 0, 600] (by simp)).out (by simp)).mono ?_
  rintro e w5 ⟨B, c, rfl, hI, hc1, hc2, hc3, b5⟩
  rw [E5.out] at hI hc1 ⊢
  obtain ⟨b, off, rfl, hb, hcell⟩ := hI.2.resolve_left (by simp)
  have g0 := hcell 0 (by simp)
  have g1 := hcell 1 (by simp)
  have g2 := hcell 2 (by simp)
  simp only [List.getD_cons_zero, List.getD_cons_succ, Nat.add_zero] at g0 g1 g2
  clear hI hcell hc1 hc2 hc3
  go_wp2_with fail
  refine (vbvStep_any _ _ _).mono ?_
  rintro e w6 ⟨rfl, rfl⟩
  rw [E6.out]; unfold pairV
  go_wp2_with fail
  refine (vbvConf_any _ _ _ [600, 0, 0, 0, 0, 0] _ (N _ [600, 0, 0, 0, 0, 0] (by simp)).out (by simp)).mono ?_
  rintro e w7 ⟨rfl, b7⟩
  rw [E7.out]
  go_wp2_with fail
  refine (vbvConf_any _ _ _ [600, 0, 0, 0, 0] _ (N _ [600, 0, 0, 0, 0] (by simp)).out (by simp)).mono ?_
  rintro e w8 ⟨rfl, b8⟩
  rw [E8.out]
  go_wp2_with fail
  go_ret
  exact ⟨rfl, bnew (bnew (bnew (bnew (bnew (bnew (bnew (Below.refl _ w) b1) b2) b3) b4) b5) b7) b8⟩
end Go.Proofs.Ytbiniebonjcekaa
