/- Contracts of the reference of chapter 17: Item, Valid, Same, placed, of. -/
import Derived.Test.YtgdjpaeclicdfaaDoorOptC
namespace Go.Proofs.YtgdjpaeclicdfaaDoor
open Go.ChangeShapes Go.WideShapes Go.ChangeAt Go.RowKit
set_option linter.unusedVariables false

theorem altsOk_len {al : Alts} : ∀ {last : Int}, 0 ≤ last → altsOk last al = true → al = [] ∨ (al.length : Int) + last ≤ 7 := by
  induction al with
  | nil => intro last _ _; exact .inl rfl
  | cons a al ih =>
    intro last hl h
    simp only [altsOk, altBad, Bool.and_eq_true, Bool.not_eq_true', Bool.or_eq_false_iff, decide_eq_false_iff_not] at h
    obtain ⟨⟨h1, h2, h3, h4⟩, h5⟩ := h
    refine .inr ?_
    rcases ih (by omega) h5 with rfl | h
    · simp; omega
    · simp only [List.length_cons]; omega
theorem valid_ref (s f : Int) (al : Alts) : validP s f al = (noneP s f al || (!spanBad s f && (!decide (al.length < 1) && altsOk 0 al))) := by
  unfold validP
  by_cases h : altsOk 0 al = true
  · have h7 : ¬ 7 < al.length := by
      rcases altsOk_len (Int.le_refl _) h with rfl | h
      · simp
      · omega
    simp [h, h7]
  · have h' : altsOk 0 al = false := by simpa using h
    simp [h']
set_option maxRecDepth 100000 in
set_option maxHeartbeats 2000000 in
theorem rvalid_any (s f : Int) (A : Option Addr) (n c : Nat) (al : Alts) (w : World) (h : IsAlts w A n al) (hm : n ≤ maxLen) :
    Calls Tryd.prog 37 #[optV s f A n c] w fun e w' => e = .returned (.bool (validP s f al)) ∧ Below w.heap.size w w' := by
  have b0 := Lib.hid (balloc w (.cells #[.int .i64 s, .int .i64 f, .slice A n c] 26))
  have H := Lib.hid h
  have hl := h.1
  have hm' : n ≤ 9223372036854775807 := hm
  have HV := Lib.hid (valid_ref s f al)
  clear h
  go_enter Tryd.func37, Tryd.ntmps37
  by_cases hn : noneP s f al = true
  · have hn2 := hn
    simp only [noneP, Bool.and_eq_true, beq_iff_eq] at hn2
    obtain ⟨rfl, rfl, h0⟩ := hn2
    obtain rfl : n = 0 := by omega
    go_wp2_with fail
    go_ret
    exact ⟨by simp [validP, hn], b0.out⟩
  have hn' : noneP s f al = false := by simpa using hn
  have HN := Lib.hid hn'
  have hcase : (s == 0) = false ∨ (s = 0 ∧ ((f == 0) = false ∨ (f = 0 ∧ ((n : Int) == 0) = false))) := by
    simp only [noneP, hl] at hn'
    by_cases e1 : s = 0
    · by_cases e2 : f = 0
      · subst e1; subst e2; right; refine ⟨rfl, .inr ⟨rfl, by simpa using hn'⟩⟩
      · exact .inr ⟨e1, .inl (by simpa using e2)⟩
    · exact .inl (by simpa using e1)
  clear hn hn'
  rcases hcase with hc1 | ⟨rfl, hc2 | ⟨rfl, hc3⟩⟩
  · by_cases h1 : s < 0
    · go_wp2_with fail
      go_ret
      exact ⟨by rw [HV.out]; simp [HN.out, spanBad, hl, h1], b0.out⟩
    by_cases h2 : 100000000 < s
    · go_wp2_with fail
      go_ret
      exact ⟨by rw [HV.out]; simp [HN.out, spanBad, hl, h2], b0.out⟩
    by_cases h3 : f < 1
    · go_wp2_with fail
      go_ret
      exact ⟨by rw [HV.out]; simp [HN.out, spanBad, hl, h3], b0.out⟩
    by_cases h4 : 100000000 < f
    · go_wp2_with fail
      go_ret
      exact ⟨by rw [HV.out]; simp [HN.out, spanBad, hl, h4], b0.out⟩
    by_cases h5 : n < 1
    · go_wp2_with fail
      go_ret
      exact ⟨by rw [HV.out]; simp [HN.out, spanBad, hl, h5], b0.out⟩
    have HW := Lib.hid (show validP s f al = altsOk 0 al by rw [HV.out]; simp [HN.out, spanBad, hl, h1, h2, h3, h4, h5])
    go_wp2_with fail
    go_loopw [3, 4] (fun l i wr => ∃ (k : Nat) (last : Int), k ≤ n ∧ i = .int .i64 k ∧ l = .int .i64 last ∧ altsOk 0 al = altsOk last (al.drop k) ∧ Below w.heap.size w wr ∧ Box wr w.heap.size 26 #[.int .i64 s, .int .i64 f, .slice A n c]) (fun _ i _ => n - (intOf i).toNat)
    case atStart => exact ⟨0, 0, Nat.zero_le _, rfl, rfl, rfl, b0.out, Box.new _ _ _⟩
    case round =>
      obtain ⟨k, last, hk, rfl, rfl, hst, hB, hx⟩ := hrel
      have HST := Lib.hid hst
      have HX := Lib.hid hx
      have c0 := hx.cell (i := 2) rfl
      have hlx := hx.lt
      clear hst hx
      by_cases hlt : k < n
      · obtain ⟨b, off, rfl, hbl, ca, cb⟩ := (H.out.below hB).at_ hlt
        rw [drop_pair (by omega)] at HST
        generalize al.getD k (0, 0) = a at *
        obtain ⟨r, i⟩ := a
        simp only at ca cb
        by_cases j1 : r ≤ last
        · go_wp2_with fail
          go_ret
          exact ⟨by rw [HW.out, HST.out]; simp [altsOk, altBad, j1], (hB.alloc hB.size _)⟩
        by_cases j2 : 7 < r
        · go_wp2_with fail
          go_ret
          exact ⟨by rw [HW.out, HST.out]; simp [altsOk, altBad, j2], (hB.alloc hB.size _)⟩
        by_cases j3 : i < 1
        · go_wp2_with fail
          go_ret
          exact ⟨by rw [HW.out, HST.out]; simp [altsOk, altBad, j3], (hB.alloc hB.size _)⟩
        by_cases j4 : 1000000 < i
        · go_wp2_with fail
          go_ret
          exact ⟨by rw [HW.out, HST.out]; simp [altsOk, altBad, j4], (hB.alloc hB.size _)⟩
        go_wp2_with fail
        go_roundw
        case rel => exact ⟨k + 1, r, by omega, by go_num, rfl, by rw [HST.out]; simp [altsOk, altBad, j1, j2, j3, j4], (hB.alloc hB.size _), HX.out.next (balloc _ _)⟩
        case measure => simp [intOf]; omega
      · go_wp2_with fail
        go_ret
        exact ⟨by rw [HW.out, HST.out, List.drop_of_length_le (by omega)]; rfl, hB⟩
  · have h1 : ¬ (0 : Int) < 0 := by omega
    have h2 : ¬ (100000000 : Int) < 0 := by omega
    by_cases h3 : f < 1
    · go_wp2_with fail
      go_ret
      exact ⟨by rw [HV.out]; simp [HN.out, spanBad, hl, h3], b0.out⟩
    by_cases h4 : 100000000 < f
    · go_wp2_with fail
      go_ret
      exact ⟨by rw [HV.out]; simp [HN.out, spanBad, hl, h4], b0.out⟩
    by_cases h5 : n < 1
    · go_wp2_with fail
      go_ret
      exact ⟨by rw [HV.out]; simp [HN.out, spanBad, hl, h5], b0.out⟩
    have HW := Lib.hid (show validP 0 f al = altsOk 0 al by rw [HV.out]; simp [HN.out, spanBad, hl, h1, h2, h3, h4, h5])
    go_wp2_with fail
    go_loopw [3, 4] (fun l i wr => ∃ (k : Nat) (last : Int), k ≤ n ∧ i = .int .i64 k ∧ l = .int .i64 last ∧ altsOk 0 al = altsOk last (al.drop k) ∧ Below w.heap.size w wr ∧ Box wr w.heap.size 26 #[.int .i64 0, .int .i64 f, .slice A n c]) (fun _ i _ => n - (intOf i).toNat)
    case atStart => exact ⟨0, 0, Nat.zero_le _, rfl, rfl, rfl, b0.out, Box.new _ _ _⟩
    case round =>
      obtain ⟨k, last, hk, rfl, rfl, hst, hB, hx⟩ := hrel
      have HST := Lib.hid hst
      have HX := Lib.hid hx
      have c0 := hx.cell (i := 2) rfl
      have hlx := hx.lt
      clear hst hx
      by_cases hlt : k < n
      · obtain ⟨b, off, rfl, hbl, ca, cb⟩ := (H.out.below hB).at_ hlt
        rw [drop_pair (by omega)] at HST
        generalize al.getD k (0, 0) = a at *
        obtain ⟨r, i⟩ := a
        simp only at ca cb
        by_cases j1 : r ≤ last
        · go_wp2_with fail
          go_ret
          exact ⟨by rw [HW.out, HST.out]; simp [altsOk, altBad, j1], (hB.alloc hB.size _)⟩
        by_cases j2 : 7 < r
        · go_wp2_with fail
          go_ret
          exact ⟨by rw [HW.out, HST.out]; simp [altsOk, altBad, j2], (hB.alloc hB.size _)⟩
        by_cases j3 : i < 1
        · go_wp2_with fail
          go_ret
          exact ⟨by rw [HW.out, HST.out]; simp [altsOk, altBad, j3], (hB.alloc hB.size _)⟩
        by_cases j4 : 1000000 < i
        · go_wp2_with fail
          go_ret
          exact ⟨by rw [HW.out, HST.out]; simp [altsOk, altBad, j4], (hB.alloc hB.size _)⟩
        go_wp2_with fail
        go_roundw
        case rel => exact ⟨k + 1, r, by omega, by go_num, rfl, by rw [HST.out]; simp [altsOk, altBad, j1, j2, j3, j4], (hB.alloc hB.size _), HX.out.next (balloc _ _)⟩
        case measure => simp [intOf]; omega
      · go_wp2_with fail
        go_ret
        exact ⟨by rw [HW.out, HST.out, List.drop_of_length_le (by omega)]; rfl, hB⟩
  · go_wp2_with fail
    go_ret
    exact ⟨by rw [HV.out]; simp [HN.out, spanBad], b0.out⟩

set_option maxRecDepth 100000 in
set_option maxHeartbeats 2000000 in
theorem rsameAlts_any (A B : Option Addr) (n m c d : Nat) (al bl : Alts) (w : World) (ha : IsAlts w A n al) (hb : IsAlts w B m bl) (hm : n ≤ maxLen) :
    Calls Tryd.prog 63 #[.slice A n c, .slice B m d] w fun e w' => e = .returned (.bool (decide (al = bl))) ∧ Below w.heap.size w w' := by
  have HA := Lib.hid ha
  have HB := Lib.hid hb
  have hl := ha.1
  have hl' := hb.1
  have hm' : n ≤ 9223372036854775807 := hm
  clear ha hb
  go_enter Tryd.func63, Tryd.ntmps63
  by_cases hnm : n = m
  · subst hnm
    go_wp2_with fail
    go_loopw [5] (fun i wr => ∃ (k : Nat), k ≤ n ∧ i = .int .i64 k ∧ decide (al = bl) = decide (al.drop k = bl.drop k) ∧ Below w.heap.size w wr) (fun i _ => n - (intOf i).toNat)
    case atStart => exact ⟨0, Nat.zero_le _, rfl, rfl, Below.refl _ _⟩
    case round =>
      obtain ⟨k, hk, rfl, hst, hB⟩ := hrel
      have HST := Lib.hid hst
      clear hst
      by_cases hlt : k < n
      · obtain ⟨b, off, rfl, hbl, ca, cb⟩ := (HA.out.below hB).at_ hlt
        obtain ⟨b', off', rfl, hbl', ca', cb'⟩ := (HB.out.below hB).at_ hlt
        rw [dropEq_cons (by omega) (by omega)] at HST
        generalize al.getD k (0, 0) = x at *
        generalize bl.getD k (0, 0) = y at *
        obtain ⟨x1, x2⟩ := x
        obtain ⟨y1, y2⟩ := y
        simp only at ca cb ca' cb'
        by_cases h1 : x1 = y1
        · subst h1
          by_cases h2 : x2 = y2
          · subst h2
            go_upto_region 6 with (fail)
            go_quiet (fail)
            go_wp2_with fail
            go_roundw
            case rel => exact ⟨k + 1, by omega, by go_num, by rw [HST.out]; simp, below_drewN hB _⟩
            case measure => simp [intOf]; omega
          · have h2' : (x2 == y2) = false := by simpa using h2
            go_upto_region 6 with (fail)
            go_quiet (fail)
            go_wp2_with fail
            go_ret
            exact ⟨by rw [HST.out]; simp [h2], below_drewN hB _⟩
        · have h1' : (x1 == y1) = false := by simpa using h1
          go_upto_region 6 with (fail)
          go_quiet (fail)
          go_wp2_with fail
          go_ret
          exact ⟨by rw [HST.out]; simp [h1], below_drewN hB _⟩
      · go_wp2_with fail
        go_ret
        exact ⟨by rw [HST.out, List.drop_of_length_le (by omega), List.drop_of_length_le (by omega)]; rfl, hB⟩
  · have h' : ((n : Int) == (m : Int)) = false := by simp; omega
    have h'' : ((n : Int) != (m : Int)) = true := by simp; omega
    go_wp2_with fail
    go_ret
    refine ⟨?_, Below.refl _ _⟩
    have : al ≠ bl := fun e => hnm (by rw [← hl, ← hl', e])
    simp [this]
set_option maxRecDepth 100000 in
set_option maxHeartbeats 2000000 in
theorem rsame_any (s f : Int) (A : Option Addr) (n c : Nat) (al : Alts) (t g : Int) (B : Option Addr) (m d : Nat) (bl : Alts) (w : World) (ha : IsAlts w A n al) (hb : IsAlts w B m bl) (hm : n ≤ maxLen) :
    Calls Tryd.prog 39 #[optV s f A n c, optV t g B m d] w fun e w' => e = .returned (.bool (sameP s f al t g bl)) ∧ Below w.heap.size w w' := by
  have HA := Lib.hid ha
  have HB := Lib.hid hb
  have b0 := balloc w (.cells #[.int .i64 s, .int .i64 f, .slice A n c] 26)
  have b1 := Lib.hid (b0.alloc b0.size (.cells #[.int .i64 t, .int .i64 g, .slice B m d] 26))
  have x1 := Lib.hid ((Box.new w 26 #[.int .i64 s, .int .i64 f, .slice A n c]).next (balloc _ (.cells #[.int .i64 t, .int .i64 g, .slice B m d] 26)))
  have x2 := Lib.hid (Box.new (w.alloc (.cells #[.int .i64 s, .int .i64 f, .slice A n c] 26)) 26 #[.int .i64 t, .int .i64 g, .slice B m d])
  rw [World.size_alloc] at x2
  clear ha hb b0
  go_enter Tryd.func39, Tryd.ntmps39
  go_wp2_with fail
  refine (rsameAlts_any A B n m c d al bl _ (HA.out.below b1.out) (HB.out.below b1.out) hm).mono ?_
  rintro e w1 ⟨rfl, b2⟩
  have u1 := x1.out.next b2
  have u2 := x2.out.next b2
  have c0 := u1.cell (i := 0) rfl
  have c1 := u1.cell (i := 1) rfl
  have d0 := u2.cell (i := 0) rfl
  have d1 := u2.cell (i := 1) rfl
  have B2 := Lib.hid (bnext b1.out b2)
  clear u1 u2
  by_cases h0 : al = bl
  · have e0 : decide (al = bl) = true := by simp [h0]
    rw [e0]
    by_cases h1 : s = t
    · subst h1
      by_cases h2 : f = g
      · subst h2
        go_wp2_with fail
        go_ret
        exact ⟨by simp [sameP, h0], B2.out⟩
      · have h2' : (f == g) = false := by simpa using h2
        go_wp2_with fail
        go_ret
        exact ⟨by simp [sameP, h2], B2.out⟩
    · have h1' : (s == t) = false := by simpa using h1
      go_wp2_with fail
      go_ret
      exact ⟨by simp [sameP, h1], B2.out⟩
  · have e0 : decide (al = bl) = false := by simp [h0]
    rw [e0]
    go_wp2_with fail
    go_ret
    exact ⟨by simp [sameP, h0], B2.out⟩
end Go.Proofs.YtgdjpaeclicdfaaDoor
