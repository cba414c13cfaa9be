/- Contracts of media's functions. -/
import Derived.Test.YtpaepefpfaoacaaSpA
namespace Go.Proofs.Ytpaepefpfaoacaa
open Go.ChangeShapes Go.WideShapes Go.ChangeAt Go.RowKit
set_option linter.unusedVariables false

def picBad (p : PicA) : Bool := decide ((400 : Int) < p.data.size) || (decide (p.power < 0) || decide (1000000 < p.power))
def validA (it : Int) (l : List PicA) : Bool :=
  !(decide (it < 1) || decide (4611686018427387903 < it)) && (!(decide (l.length < 1) || decide (2000 < l.length)) && ((l.getD 0 picZ).key && l.all (fun p => !picBad p)))

set_option maxRecDepth 100000 in
set_option maxHeartbeats 2000000 in
theorem rvalidA_any (it : Int) (A : Option Addr) (n c : Nat) (l : List PicA) (w : World) (h : IsPics w A n l) (hm : n ≤ maxLen) :
    Calls Try.prog 22 #[.agg #[.int .i64 it, .slice A n c]] w fun e w' => e = .returned (.bool (validA it l)) ∧ Below w.heap.size w w' := by
  have b0 := Lib.hid (balloc w (.cells #[.int .i64 it, .slice A n c] 49))
  have H := Lib.hid (IsRow.below h b0.out)
  have H0 := Lib.hid h
  have hl := h.1
  have hm' : n ≤ 9223372036854775807 := hm
  clear h
  go_enter Try.func22, Try.ntmps22
  by_cases h1 : it < 1
  · go_wp2_with fail
    go_ret
    exact ⟨by simp [validA, hl, h1], b0.out⟩
  by_cases h2 : 4611686018427387903 < it
  · go_wp2_with fail
    go_ret
    exact ⟨by simp [validA, hl, h2], b0.out⟩
  by_cases h3 : n < 1
  · go_wp2_with fail
    go_ret
    exact ⟨by simp [validA, hl, h3], b0.out⟩
  by_cases h4 : 2000 < n
  · go_wp2_with fail
    go_ret
    exact ⟨by simp [validA, hl, h4], b0.out⟩
  obtain ⟨b, off, rfl, hbl, p0, p1, p2⟩ := IsPics.get H0.out (i := 0) (by omega)
  simp only [Nat.zero_mul, Nat.add_zero] at p0 p1 p2
  cases h5 : (l.getD 0 picZ).key with
  | false =>
    have H5 := Lib.hid h5
    rw [h5] at p0
    clear h5
    go_wp2_with fail
    go_ret
    exact ⟨by simp [validA, H5.out, -List.getD_eq_getElem?_getD], b0.out⟩
  | true =>
    have HV : Hid (validA it l = l.all (fun p => !picBad p)) := Lib.hid (by simp [validA, h5, hl, h1, h2, h3, h4, -List.getD_eq_getElem?_getD])
    rw [h5] at p0
    clear h5
    go_wp2_with fail
    go_loopw [3] (fun i wr => ∃ (k : Nat), k ≤ n ∧ i = .int .i64 k ∧ l.all (fun p => !picBad p) = (l.drop k).all (fun p => !picBad p) ∧ Below w.heap.size w wr ∧ Below (w.heap.size + 1) (w.alloc (.cells #[.int .i64 it, .slice (some ⟨b, off, none⟩) n c] 49)) wr) (fun i _ => n - (intOf i).toNat)
    case atStart => exact ⟨0, Nat.zero_le _, rfl, rfl, b0.out, Below.refl _ _⟩
    case round =>
      obtain ⟨k, hk, rfl, hst, hB, hB1⟩ := hrel
      have hB1' := hB1
      rw [← World.size_alloc w (.cells #[.int .i64 it, .slice (some ⟨b, off, none⟩) n c] 49)] at hB1'
      have c0 := ((Box.new w 49 #[.int .i64 it, .slice (some ⟨b, off, none⟩) n c]).next hB1').cell (i := 1) rfl
      have hlx := hB1.size
      rw [World.size_alloc] at hlx
      have HST := Lib.hid hst
      clear hst
      by_cases hlt : k < n
      · obtain ⟨b', off', hbo, hbl', q0, q1, q2⟩ := IsPics.get (IsRow.below H.out hB1') hlt
        cases hbo
        rw [drop_at (d := picZ) (by omega)] at HST
        generalize l.getD k picZ = p at *
        obtain ⟨ky, S, pw⟩ := p
        simp only at q0 q1 q2
        by_cases j1 : (400 : Int) < S.size
        · go_wp2_with fail
          go_ret
          exact ⟨by rw [HV.out, HST.out]; simp [picBad, j1], (hB.alloc hB.size _)⟩
        by_cases j2 : pw < 0
        · go_wp2_with fail
          go_ret
          exact ⟨by rw [HV.out, HST.out]; simp [picBad, j2], (hB.alloc hB.size _)⟩
        by_cases j3 : 1000000 < pw
        · go_wp2_with fail
          go_ret
          exact ⟨by rw [HV.out, HST.out]; simp [picBad, j3], (hB.alloc hB.size _)⟩
        go_wp2_with fail
        go_roundw
        case rel => exact ⟨k + 1, by omega, by go_num, by rw [HST.out]; simp [picBad, j1, j2, j3], (hB.alloc hB.size _), (hB1.alloc hlx _)⟩
        case measure => simp [intOf]; omega
      · go_wp2_with fail
        go_ret
        exact ⟨by rw [HV.out, HST.out, List.drop_of_length_le (by omega)]; rfl, hB⟩
set_option maxRecDepth 100000 in
set_option maxHeartbeats 2000000 in
theorem mvalid_any (it : Int) (A : Option Addr) (n c : Nat) (l : List PicA) (w : World) (h : IsPics w A n l) (hm : n ≤ maxLen) :
    Calls Try.prog 24 #[.agg #[.int .i64 it, .slice A n c]] w fun e w' => e = .returned (.bool (validA it l)) ∧ Below w.heap.size w w' := by
  have b0 := Lib.hid (balloc w (.cells #[.int .i64 it, .slice A n c] 49))
  have H := Lib.hid (IsRow.below h b0.out)
  have H0 := Lib.hid h
  have hl := h.1
  have hm' : n ≤ 9223372036854775807 := hm
  clear h
  go_enter Try.func24, Try.ntmps24
  by_cases h1 : it < 1
  · go_wp2_with fail
    go_ret
    exact ⟨by simp [validA, hl, h1], b0.out⟩
  by_cases h2 : 4611686018427387903 < it
  · go_wp2_with fail
    go_ret
    exact ⟨by simp [validA, hl, h2], b0.out⟩
  by_cases h3 : n < 1
  · go_wp2_with fail
    go_ret
    exact ⟨by simp [validA, hl, h3], b0.out⟩
  by_cases h4 : 2000 < n
  · go_wp2_with fail
    go_ret
    exact ⟨by simp [validA, hl, h4], b0.out⟩
  obtain ⟨b, off, rfl, hbl, p0, p1, p2⟩ := IsPics.get H0.out (i := 0) (by omega)
  simp only [Nat.zero_mul, Nat.add_zero] at p0 p1 p2
  cases h5 : (l.getD 0 picZ).key with
  | false =>
    have H5 := Lib.hid h5
    rw [h5] at p0
    clear h5
    go_wp2_with fail
    go_ret
    exact ⟨by simp [validA, H5.out, -List.getD_eq_getElem?_getD], b0.out⟩
  | true =>
    have HV : Hid (validA it l = l.all (fun p => !picBad p)) := Lib.hid (by simp [validA, h5, hl, h1, h2, h3, h4, -List.getD_eq_getElem?_getD])
    rw [h5] at p0
    clear h5
    go_wp2_with fail
    go_loopw [34] (fun i wr => ∃ (k : Nat), k ≤ n ∧ i = .int .i64 k ∧ l.all (fun p => !picBad p) = (l.drop k).all (fun p => !picBad p) ∧ Below w.heap.size w wr ∧ Below (w.heap.size + 1) (w.alloc (.cells #[.int .i64 it, .slice (some ⟨b, off, none⟩) n c] 49)) wr) (fun i _ => n - (intOf i).toNat)
    case atStart => exact ⟨0, Nat.zero_le _, rfl, rfl, b0.out, Below.refl _ _⟩
    case round =>
      obtain ⟨k, hk, rfl, hst, hB, hB1⟩ := hrel
      have hB1' := hB1
      rw [← World.size_alloc w (.cells #[.int .i64 it, .slice (some ⟨b, off, none⟩) n c] 49)] at hB1'
      have c0 := ((Box.new w 49 #[.int .i64 it, .slice (some ⟨b, off, none⟩) n c]).next hB1').cell (i := 1) rfl
      have hlx := hB1.size
      rw [World.size_alloc] at hlx
      have HST := Lib.hid hst
      clear hst
      by_cases hlt : k < n
      · obtain ⟨b', off', hbo, hbl', q0, q1, q2⟩ := IsPics.get (IsRow.below H.out hB1') hlt
        cases hbo
        rw [drop_at (d := picZ) (by omega)] at HST
        generalize l.getD k picZ = p at *
        obtain ⟨ky, S, pw⟩ := p
        simp only at q0 q1 q2
        by_cases j1 : (400 : Int) < S.size
        · go_wp2_with fail
          go_ret
          exact ⟨by rw [HV.out, HST.out]; simp [picBad, j1], (hB.alloc hB.size _)⟩
        by_cases j2 : pw < 0
        · go_wp2_with fail
          go_ret
          exact ⟨by rw [HV.out, HST.out]; simp [picBad, j2], (hB.alloc hB.size _)⟩
        by_cases j3 : 1000000 < pw
        · go_wp2_with fail
          go_ret
          exact ⟨by rw [HV.out, HST.out]; simp [picBad, j3], (hB.alloc hB.size _)⟩
        go_wp2_with fail
        go_roundw
        case rel => exact ⟨k + 1, by omega, by go_num, by rw [HST.out]; simp [picBad, j1, j2, j3], (hB.alloc hB.size _), (hB1.alloc hlx _)⟩
        case measure => simp [intOf]; omega
      · go_wp2_with fail
        go_ret
        exact ⟨by rw [HV.out, HST.out, List.drop_of_length_le (by omega)]; rfl, hB⟩
end Go.Proofs.Ytpaepefpfaoacaa
