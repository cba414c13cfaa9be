/- Contracts of Gain, few and sane. -/
import Derived.Test.YteaffbipkmncmaaF
namespace Go.Proofs.Yteaffbipkmncmaa
open Go.ChangeShapes Go.WideShapes Go.ChangeAt Go.RowKit

theorem measure_bd (zs : List Int) : 0 ≤ measure zs ∧ measure zs ≤ 1000000 := gmean_bd zs _

theorem Gain_any (a : Option Addr) (len cap : Nat) (zs : List Int) (w : World) (h : IsInts w a len zs) (hlen : len ≤ 1000) :
    Calls Try.prog 14 #[.slice a len cap] w fun e w' => e = .returned (.int .i64 (gainOf (measure zs))) ∧ Below w.heap.size w w' := by
  have H := Lib.hid h
  clear h
  have hm := measure_bd zs
  obtain ⟨M, hM⟩ : ∃ M, measure zs = M := ⟨_, rfl⟩
  have HM := Lib.hid hM
  rw [hM] at hm
  clear hM
  by_cases h0 : M = 0
  · subst h0
    go_enter Try.func14, Try.ntmps14
    go_wp2_with (go_at_call 12; refine (Measure_any _ _ _ zs _ H.out hlen).mono ?_; rintro e w' ⟨rfl, hb⟩; rw [HM.out])
    go_ret
    exact ⟨ret_int (by rw [HM.out]; rfl), hb⟩
  · have h1 : (M == 0) = false := by simpa using h0
    have h2 : 1 ≤ M := by omega
    go_enter Try.func14, Try.ntmps14
    go_wp2_with (first | (go_at_call 12; refine (Measure_any _ _ _ zs _ H.out hlen).mono ?_; rintro e w' ⟨rfl, hb⟩; rw [HM.out]) | (go_at_call 22; refine (limit_any _ _).mono ?_; rintro e w' ⟨rfl, rfl⟩))
    go_ret
    exact ⟨ret_int (by rw [HM.out]; unfold gainOf; rw [if_neg h0]), hb⟩

theorem bnext {w v v' : World} (h : Below w.heap.size w v) (hb : Below v.heap.size v v') : Below w.heap.size w v' := h.trans (hb.mono h.size)
theorem bnew {w v v' : World} {o : Obj} (h : Below w.heap.size w v) (hb : Below (v.alloc o).heap.size (v.alloc o) v') : Below w.heap.size w v' :=
  bnext (h.alloc h.size o) hb

/-- 'few' cuts a slice to 300 elements. -/
theorem few_any (a : Option Addr) (len cap : Nat) (zs : List Int) (w : World) (h : IsInts w a len zs) (hm : len ≤ cap) (hc : cap ≤ maxLen) :
    Calls Try.prog 11 #[.slice a len cap] w fun e w' => e = .returned (.slice a (min len 300) cap) ∧ w = w' := by
  unfold maxLen at hc
  have H := Lib.hid h
  clear h
  by_cases hl : len ≤ 300
  · rw [Nat.min_eq_left hl]
    go_enter Try.func11, Try.ntmps11
    go_wp2
    go_ret
    exact ⟨rfl, rfl⟩
  · rw [Nat.min_eq_right (by omega)]
    go_enter Try.func11, Try.ntmps11
    go_wp2
    go_ret
    exact ⟨rfl, rfl⟩

theorem IsInts.few {a : Option Addr} {len : Nat} {zs : List Int} {w : World} (h : IsInts w a len zs) : IsInts w a (min len 300) (zs.take 300) := by
  obtain ⟨h1, h2⟩ := h
  refine ⟨by rw [List.length_take]; omega, ?_⟩
  rcases h2 with h2 | ⟨b, off, rfl, hb, hc⟩
  · exact .inl (by omega)
  · refine .inr ⟨b, off, rfl, hb, fun i hi => ?_⟩
    rw [hc i (by omega)]
    simp only [List.getD, List.getElem?_take]
    rw [if_pos (by omega)]

theorem isInts_three (w : World) (x y z : Int) : IsInts (w.alloc (.cells #[.int .i64 x, .int .i64 y, .int .i64 z] 3)) (some ⟨w.heap.size, 0, none⟩) 3 [x, y, z] := by
  refine ⟨rfl, .inr ⟨_, _, rfl, by simp, fun i hi => ?_⟩⟩
  match i, hi with
  | 0, _ => simp
  | 1, _ => simp
  | 2, _ => simp
theorem isInts_one (w : World) (x : Int) : IsInts (w.alloc (.cells #[.int .i64 x] 3)) (some ⟨w.heap.size, 0, none⟩) 1 [x] := by
  refine ⟨rfl, .inr ⟨_, _, rfl, by simp, fun i hi => ?_⟩⟩
  match i, hi with
  | 0, _ => simp

set_option maxHeartbeats 1000000 in
theorem sane_any (w : World) : Calls Try.prog 10 #[] w fun e w' => e = .returned (.bool true) ∧ Below w.heap.size w w' := by
  have m1 : measure [1000, 3000, 50] = 2000 := by decide
  have m2 : measure [100000, 100000, 1000] = 100000 := by decide
  have m3 : measure [199] = 0 := by decide
  have g1 : gainOf (measure [10000]) = 2000 := by decide
  have g2 : gainOf (measure []) = 1000 := by decide
  have g3 : gainOf (measure [300]) = 4000 := by decide
  have n1 : nxt (lim 1000) (lim 1015) = 1015 := by decide
  have n2 : nxt (lim 1000) (lim 500) = 980 := by decide
  have r1 : rampOf 1000 2000 10 = 1200 := by decide
  have r2 : rampOf 1000 2000 60 = 2000 := by decide +kernel
  have M1 := Lib.hid m1
  have M2 := Lib.hid m2
  have M3 := Lib.hid m3
  have G1 := Lib.hid g1
  have G2 := Lib.hid g2
  have G3 := Lib.hid g3
  have N1 := Lib.hid n1
  have N2 := Lib.hid n2
  have R1 := Lib.hid r1
  have R2 := Lib.hid r2
  clear m1 m2 m3 g1 g2 g3 n1 n2 r1 r2
  go_enter Try.func10, Try.ntmps10
  go_wp2_with fail
  refine (Measure_any _ _ _ [1000, 3000, 50] _ (isInts_three _ _ _ _) (by omega)).mono ?_
  rintro e w1 ⟨rfl, b1⟩
  rw [M1.out]
  go_wp2_with fail
  refine (Measure_any _ _ _ [100000, 100000, 1000] _ (isInts_three _ _ _ _) (by omega)).mono ?_
  rintro e w2 ⟨rfl, b2⟩
  rw [M2.out]
  go_wp2_with fail
  refine (Measure_any _ _ _ [199] _ (isInts_one _ _) (by omega)).mono ?_
  rintro e w3 ⟨rfl, b3⟩
  rw [M3.out]
  go_wp2_with fail
  refine (Gain_any _ _ _ [10000] _ (isInts_one _ _) (by omega)).mono ?_
  rintro e w4 ⟨rfl, b4⟩
  rw [G1.out]
  go_wp2_with fail
  refine (Gain_any _ _ _ [] _ ⟨rfl, .inl rfl⟩ (by simp)).mono ?_
  rintro e w5 ⟨rfl, b5⟩
  rw [G2.out]
  go_wp2_with fail
  refine (Gain_any _ _ _ [300] _ (isInts_one _ _) (by omega)).mono ?_
  rintro e w6 ⟨rfl, b6⟩
  rw [G3.out]
  go_wp2_with fail
  refine (Next_any _ _ _).mono ?_
  rintro e w7 ⟨rfl, b7⟩
  rw [N1.out]
  go_wp2_with fail
  refine (Next_any _ _ _).mono ?_
  rintro e w8 ⟨rfl, b8⟩
  rw [N2.out]
  go_wp2_with fail
  refine (Ramp_any _ _ _ _ (by omega)).mono ?_
  rintro e w9 ⟨rfl, b9⟩
  rw [R1.out]
  go_wp2_with fail
  refine (Ramp_any _ _ _ _ (by omega)).mono ?_
  rintro e w10 ⟨rfl, b10⟩
  rw [R2.out]
  go_wp2_with fail
  go_ret
  exact ⟨rfl, bnext (bnext (bnext (bnext (bnew (bnext (bnew (bnew (bnew (bnew (Below.refl _ w) b1) b2) b3) b4) b5) b6) b7) b8) b9) b10⟩
end Go.Proofs.Yteaffbipkmncmaa
