/- The walks of VbvMonotone, VbvNeed, VbvSplit and VbvIdle. -/
import Derived.Test.YtbiniebonjcekaaVsane
import Derived.Deep.OwnRows
namespace Go.Proofs.Ytbiniebonjcekaa
open Go.ChangeShapes Go.WideShapes Go.ChangeAt Go.RowKit
set_option linter.unusedVariables false

theorem runOf_in {f : Int} (l : List Int) (h0 : 0 ≤ f) (h1 : f ≤ 1000) : runOf f l = vrun f l := by unfold runOf; rw [if_neg (by omega)]

namespace vbvMonotone
set_option maxHeartbeats 1000000 in
theorem walk (a0 a1 : Int) (a2 : Option Addr) (len2 cap2 : Nat) (z2 : List Int) (w : World) (w0 : (Lit.int .i64 a0).wf = true) (w1 : (Lit.int .i64 a1).wf = true)
    (w2 : IsInts w a2 len2 z2 ∧ len2 ≤ cap2 ∧ cap2 ≤ maxLen ∧ ∀ n ∈ z2, (Lit.int .i64 n).wf = true) :
    Calls Try.prog 4 #[.int .i64 a0, .int .i64 a1, .slice a2 len2 cap2] w fun e w' => e = .returned (.bool true) ∧ Below w.heap.size w w' := by
  obtain ⟨hi, hl, hc, hwf⟩ := w2
  unfold maxLen at hc
  have b0 := wf_bd w0
  have b1 := wf_bd w1
  have HI := Lib.hid hi
  have HWF := Lib.hid hwf
  clear hi hwf w0 w1
  go_enter Try.func4, Try.ntmps4
  go_wp2_with fail
  refine (vsane_any _).mono ?_
  rintro e w1 ⟨rfl, c1⟩
  have HI1 := Lib.hid (HI.out.below c1)
  go_wp2_with fail
  refine (some_any _ _ _ _ _ _ HI1.out (by omega) HWF.out).mono ?_
  rintro e w2 ⟨B, c, rfl, hI, hc1, hc2, hc3, c2⟩
  have hL := someOf_len z2 false
  generalize someOf z2 false = L at *
  have HL := Lib.hid hI
  clear hI hc3 HI1 HI HWF
  go_wp2_with fail
  refine (pick_any _ _ _ b0.1 b0.2 (by omega) (by omega)).mono ?_
  rintro e w3 ⟨rfl, rfl⟩
  have p0 := pick_bd a0 1001 (by omega)
  generalize pickOf a0 1001 = low at *
  go_wp2_with fail
  refine (pick_any _ _ _ b1.1 b1.2 (by omega) (by omega)).mono ?_
  rintro e w4 ⟨rfl, rfl⟩
  have p1 := pick_bd a1 1001 (by omega)
  generalize pickOf a1 1001 = add at *
  obtain ⟨high, hh⟩ : ∃ h, min 1000 (low + add) = h := ⟨_, rfl⟩
  have key : (vrun low L = none ∨ ∃ a c, vrun low L = some a ∧ vrun high L = some c ∧ a ≤ c ∧ 0 ≤ a ∧ c ≤ 1000) ∧ (0 ≤ (vrun high L).getD 0 ∧ (vrun high L).getD 0 ≤ 1000) := by
    constructor
    · cases hv : vrun low L with
      | none => exact .inl rfl
      | some x =>
        obtain ⟨y, hy, hxy⟩ := vrun_mono L low high (by omega) (by omega) (by omega) x hv
        have bx := vrun_bd (by omega) hv
        have by' := vrun_bd (by omega) hy
        exact .inr ⟨x, y, rfl, hy, hxy, by omega, by omega⟩
    · cases hv : vrun high L with
      | none => simp
      | some x => have bx := vrun_bd (by omega) hv; simpa using bx
  have KEY := Lib.hid key
  have R1 := Lib.hid (runOf_in (f := low) L (by omega) (by omega))
  have R2 := Lib.hid (runOf_in (f := high) L (by omega) (by omega))
  clear key
  have hcase : (low + add < 1000 ∧ high = low + add) ∨ (1000 ≤ low + add ∧ high = 1000) := by omega
  clear hh
  rcases hcase with ⟨q1, rfl⟩ | ⟨q1, rfl⟩
  all_goals
    go_wp2_with fail
    refine (vbvRun_any _ _ _ _ _ _ HL.out (by omega)).mono ?_
    rintro e w5 ⟨rfl, c5⟩
    rw [R1.out]
    have HL5 := Lib.hid (HL.out.below c5)
    have hk := KEY.out.1
    have hk2 := KEY.out.2
    unfold pairV
    rcases hk with hk | ⟨x, y, h1, h2, h3, h4, h5⟩
    · rw [hk]
      clear hk
      go_wp2_with fail
      refine (vbvRun_any _ _ _ _ _ _ HL5.out (by omega)).mono ?_
      rintro e w6 ⟨rfl, c6⟩
      rw [R2.out]
      unfold pairV
      generalize (vrun _ L).getD 0 = cc at *
      generalize (vrun _ L).isSome = dd at *
      go_wp2_with fail
      go_ret
      exact ⟨rfl, bnext (bnext (bnext c1 c2) c5) c6⟩
    · rw [h1]
      have H2 := Lib.hid h2
      clear h1 h2 hk2
      go_wp2_with fail
      refine (vbvRun_any _ _ _ _ _ _ HL5.out (by omega)).mono ?_
      rintro e w6 ⟨rfl, c6⟩
      rw [R2.out, H2.out]
      unfold pairV
      go_wp2_with fail
      go_ret
      exact ⟨rfl, bnext (bnext (bnext c1 c2) c5) c6⟩
end vbvMonotone

namespace vbvSplit
set_option maxHeartbeats 2000000 in
theorem walk (a0 : Int) (a1 : Option Addr) (len1 cap1 : Nat) (z1 : List Int) (a2 : Int) (w : World) (w0 : (Lit.int .i64 a0).wf = true)
    (w1 : IsInts w a1 len1 z1 ∧ len1 ≤ cap1 ∧ cap1 ≤ maxLen ∧ ∀ n ∈ z1, (Lit.int .i64 n).wf = true) (w2 : (Lit.int .i64 a2).wf = true) :
    Calls Try.prog 6 #[.int .i64 a0, .slice a1 len1 cap1, .int .i64 a2] w fun e w' => e = .returned (.bool true) ∧ Below w.heap.size w w' := by
  obtain ⟨hi, hl, hc, hwf⟩ := w1
  unfold maxLen at hc
  have b0 := wf_bd w0
  have b2 := wf_bd w2
  have HI := Lib.hid hi
  have HWF := Lib.hid hwf
  clear hi hwf w0 w2
  go_enter Try.func6, Try.ntmps6
  go_wp2_with fail
  refine (vsane_any _).mono ?_
  rintro e w1 ⟨rfl, c1⟩
  have HI1 := Lib.hid (HI.out.below c1)
  go_wp2_with fail
  refine (some_any _ _ _ _ _ _ HI1.out (by omega) HWF.out).mono ?_
  rintro e w2 ⟨B, c, rfl, hI, hc1, hc2, hc3, c2⟩
  have hL := someOf_len z1 false
  generalize someOf z1 false = L at *
  have HL := Lib.hid hI
  unfold maxLen at hc2
  clear hI hc3 HI1 HI HWF
  go_wp2_with fail
  refine (pick_any _ _ _ b0.1 b0.2 (by omega) (by omega)).mono ?_
  rintro e w3 ⟨rfl, rfl⟩
  have p0 := pick_bd a0 1001 (by omega)
  generalize pickOf a0 1001 = f at *
  go_wp2_with fail
  refine (pick_any _ _ _ b2.1 b2.2 (by omega) (by omega)).mono ?_
  rintro e w4 ⟨rfl, rfl⟩
  have p1 := pick_bd a2 ((L.length : Int) + 1) (by omega)
  obtain ⟨k, hk⟩ : ∃ k : Nat, pickOf a2 ((L.length : Int) + 1) = k := ⟨_, (Int.toNat_of_nonneg p1.1).symm⟩
  rw [hk] at p1 ⊢
  clear hk
  have hkL : k ≤ L.length := by omega
  have hkc : k ≤ c := by omega
  have R1 := Lib.hid (runOf_in (f := f) L (by omega) (by omega))
  have R2 := Lib.hid (runOf_in (f := f) (L.take k) (by omega) (by omega))
  have key : vrun f L = (vrun f (L.take k)).bind (fun g => vrun g (L.drop k)) := by
    have := vrun_append f (L.take k) (L.drop k)
    rwa [List.take_append_drop] at this
  have KEY := Lib.hid key
  clear key
  go_wp2_with fail
  refine (vbvRun_any _ _ _ _ _ _ HL.out (by omega)).mono ?_
  rintro e w5 ⟨rfl, c5⟩
  rw [R1.out]
  have HT := Lib.hid (toInts (take1 (ofInts (HL.out.below c5)) hkL))
  unfold pairV
  cases hv : vrun f (L.take k) with
  | none =>
    have HV := Lib.hid hv
    have hn : vrun f L = none := by rw [KEY.out, hv]; rfl
    rw [hn]
    clear hv hn
    go_wp2_with fail
    refine (vbvRun_any _ _ _ _ _ _ HT.out (by omega)).mono ?_
    rintro e w6 ⟨rfl, c6⟩
    rw [R2.out, HV.out]
    have HD := Lib.hid (toInts (cut1 (ofInts ((HL.out.below c5).below c6)) hkL hc1))
    unfold pairV
    clear HL HT R1 R2 KEY HV
    rcases Nat.lt_or_ge k c with hck | hck
    · have hck' : ¬ c = k := by omega
      rw [if_neg hck'] at HD
      go_wp2_with fail
      refine (vbvRun_any _ _ _ _ _ _ HD.out (by omega)).mono ?_
      rintro e w7 ⟨rfl, c7⟩
      unfold pairV
      generalize (runOf _ _).getD 0 = cc at *
      generalize (runOf _ _).isSome = dd at *
      go_wp2_with fail
      go_ret
      exact ⟨rfl, bnext (bnext (bnext (bnext c1 c2) c5) c6) c7⟩
    · obtain rfl : c = k := by omega
      clear HD
      go_wp2_with fail
      refine (vbvRun_any _ _ _ _ [] _ (IsInts.nil _ _) (by omega)).mono ?_
      rintro e w7 ⟨rfl, c7⟩
      unfold pairV
      generalize (runOf _ _).getD 0 = cc at *
      generalize (runOf _ _).isSome = dd at *
      go_wp2_with fail
      go_ret
      exact ⟨rfl, bnext (bnext (bnext (bnext c1 c2) c5) c6) c7⟩
  | some g =>
    have HV := Lib.hid hv
    have hg := vrun_bd (by omega) hv
    have hn : vrun f L = vrun g (L.drop k) := by rw [KEY.out, hv]; rfl
    rw [hn]
    have R3 := Lib.hid (runOf_in (f := g) (L.drop k) (by omega) (by omega))
    clear hv hn
    go_wp2_with fail
    refine (vbvRun_any _ _ _ _ _ _ HT.out (by omega)).mono ?_
    rintro e w6 ⟨rfl, c6⟩
    rw [R2.out, HV.out]
    have HD := Lib.hid (toInts (cut1 (ofInts ((HL.out.below c5).below c6)) hkL hc1))
    unfold pairV
    clear HL HT R1 R2 KEY HV
    rcases Nat.lt_or_ge k c with hck | hck
    · have hck' : ¬ c = k := by omega
      rw [if_neg hck'] at HD
      go_wp2_with fail
      refine (vbvRun_any _ _ _ _ _ _ HD.out (by omega)).mono ?_
      rintro e w7 ⟨rfl, c7⟩
      rw [R3.out]
      unfold pairV
      generalize vrun g (L.drop _) = r at *
      cases r with
      | none =>
        go_wp2_with fail
        go_ret
        exact ⟨rfl, bnext (bnext (bnext (bnext c1 c2) c5) c6) c7⟩
      | some y =>
        go_wp2_with fail
        go_ret
        exact ⟨rfl, bnext (bnext (bnext (bnext c1 c2) c5) c6) c7⟩
    · obtain rfl : c = k := by omega
      have hd : L.drop c = [] := List.drop_eq_nil_of_le (by omega)
      rw [hd] at R3 ⊢
      clear HD hd
      go_wp2_with fail
      refine (vbvRun_any _ _ _ _ [] _ (IsInts.nil _ _) (by omega)).mono ?_
      rintro e w7 ⟨rfl, c7⟩
      rw [R3.out]
      unfold pairV
      generalize vrun g [] = r at *
      cases r with
      | none =>
        go_wp2_with fail
        go_ret
        exact ⟨rfl, bnext (bnext (bnext (bnext c1 c2) c5) c6) c7⟩
      | some y =>
        go_wp2_with fail
        go_ret
        exact ⟨rfl, bnext (bnext (bnext (bnext c1 c2) c5) c6) c7⟩
end vbvSplit

namespace vbvNeed
theorem law_none (L : List Int) (f : Int) (h : needOf L = none) (hf : f ≤ 1000) : (runOf f L).isSome = false := by
  by_cases h0 : 0 ≤ f
  · rw [runOf_in L h0 hf]
    have := need_law L f h0 hf
    rw [h] at this
    cases hx : (vrun f L).isSome with
    | false => rfl
    | true => obtain ⟨n, hn, _⟩ := this.1 hx; cases hn
  · have : runOf f L = none := by unfold runOf; rw [if_pos (by omega)]
    rw [this]; rfl
theorem law_some (L : List Int) (f n : Int) (h : needOf L = some n) (hf : f ≤ 1000) : (runOf f L).isSome = decide (n ≤ f) := by
  have hb := needOf_bd h
  by_cases h0 : 0 ≤ f
  · rw [runOf_in L h0 hf]
    have := need_law L f h0 hf
    rw [h] at this
    by_cases hle : n ≤ f
    · rw [decide_eq_true hle]; exact this.2 ⟨n, rfl, hle⟩
    · rw [decide_eq_false hle]
      cases hx : (vrun f L).isSome with
      | false => rfl
      | true => obtain ⟨m, hm, hm2⟩ := this.1 hx; cases hm; exact absurd hm2 hle
  · have : runOf f L = none := by unfold runOf; rw [if_pos (by omega)]
    rw [this, decide_eq_false (by omega)]; rfl

set_option maxRecDepth 100000 in
set_option maxHeartbeats 2000000 in
theorem walk (a0 : Int) (a1 : Option Addr) (len1 cap1 : Nat) (z1 : List Int) (w : World) (w0 : (Lit.int .i64 a0).wf = true)
    (w1 : IsInts w a1 len1 z1 ∧ len1 ≤ cap1 ∧ cap1 ≤ maxLen ∧ ∀ n ∈ z1, (Lit.int .i64 n).wf = true) :
    Calls Try.prog 5 #[.int .i64 a0, .slice a1 len1 cap1] w fun e w' => e = .returned (.bool true) ∧ Below w.heap.size w w' := by
  obtain ⟨hi, hl, hc, hwf⟩ := w1
  unfold maxLen at hc
  have b0 := wf_bd w0
  have HI := Lib.hid hi
  have HWF := Lib.hid hwf
  clear hi hwf w0
  go_enter Try.func5, Try.ntmps5
  go_wp2_with fail
  refine (vsane_any _).mono ?_
  rintro e w1 ⟨rfl, c1⟩
  have HI1 := Lib.hid (HI.out.below c1)
  go_wp2_with fail
  refine (some_any _ _ _ _ _ _ HI1.out (by omega) HWF.out).mono ?_
  rintro e w2 ⟨B, c, rfl, hI, hc1, hc2, hc3, c2⟩
  have hL := someOf_len z1 false
  generalize someOf z1 false = L at *
  have HL := Lib.hid hI
  clear hI hc3 HI1 HI HWF hc2
  go_wp2_with fail
  refine (vbvNeed_any _ _ _ _ _ HL.out (by omega)).mono ?_
  rintro e w3 ⟨rfl, c3⟩
  have HL3 := Lib.hid (HL.out.below c3)
  have C3 := Lib.hid (bnext (bnext c1 c2) c3)
  unfold pairV
  have p0 := pick_bd a0 1001 (by omega)
  generalize hp : pickOf a0 1001 = p at *
  have HP := Lib.hid hp
  clear hp
  have key : ∃ (n : Int) (has : Bool), (needOf L).getD 0 = n ∧ (needOf L).isSome = has ∧ 0 ≤ n ∧ n ≤ 1000 ∧ (∀ f : Int, f ≤ 1000 → (runOf f L).isSome = (has && decide (n ≤ f))) := by
    cases hn : needOf L with
    | none => exact ⟨0, false, rfl, rfl, by omega, by omega, fun f hf => by rw [law_none L f hn hf]; rfl⟩
    | some n =>
      have hb := needOf_bd hn
      exact ⟨n, true, rfl, rfl, hb.1, hb.2, fun f hf => by rw [law_some L f n hn hf]; rfl⟩
  obtain ⟨n, has, hk1, hk2, hn0, hn1, hk3⟩ := key
  rw [hk1, hk2]
  have HK3 := Lib.hid hk3
  clear hk1 hk2 hk3 HL c1 c2 c3
  go_wp2_with (go_at_call 11; refine (pick_any _ _ _ b0.1 b0.2 (by omega) (by omega)).mono ?_; rintro e w' ⟨rfl, rfl⟩; rw [HP.out])
  have HF := Lib.hid (isInts_new w3 3 [p, n, n - 1, 1000] (by simp [maxLen]))
  have hball : ∀ k : Nat, k < 4 → [p, n, n - 1, 1000].getD k 0 ≤ 1000 := by
    intro k hk
    match k, hk with
    | 0, _ => simp; omega
    | 1, _ => simp; omega
    | 2, _ => simp; omega
    | 3, _ => simp
  have HBA := Lib.hid hball
  clear hball
  go_loopw [28] (fun i wr => ∃ k : Nat, k ≤ 4 ∧ i = .int .i64 k ∧ Below (w3.alloc (Obj.cells #[.int .i64 p, .int .i64 n, .int .i64 (n - 1), .int .i64 1000] 3)).heap.size (w3.alloc (Obj.cells #[.int .i64 p, .int .i64 n, .int .i64 (n - 1), .int .i64 1000] 3)) wr) (fun i _ => 4 - (intOf i).toNat)
  case atStart => exact ⟨0, by omega, rfl, Below.refl _ _⟩
  case round =>
    obtain ⟨k, hk, rfl, hB⟩ := hrel
    have HB := Lib.hid hB
    clear hB
    by_cases hlt : k < 4
    · have hcell : wr.cell? ⟨w3.heap.size, k, none⟩ = some (.int .i64 ([p, n, n - 1, 1000].getD k 0)) := by
        obtain ⟨b, off, e, hb, hcl⟩ := HF.out.2.resolve_left (by simp)
        cases e
        have := hcl k (by simpa using hlt)
        rw [Nat.zero_add] at this
        exact (HB.out.cell (p := ⟨w3.heap.size, k, none⟩) (by simp)).trans this
      have hf := HBA.out k hlt
      have hk3 := HK3.out _ hf
      generalize [p, n, n - 1, 1000].getD k 0 = f at *
      have HI4 := Lib.hid (HL3.out.below (bnew (Below.refl _ _) HB.out))
      have HK := Lib.hid hk3
      clear hk3
      have hcase : (has = false) ∨ (has = true ∧ n ≤ f) ∨ (has = true ∧ f < n) := by
        cases has with
        | false => exact .inl rfl
        | true => by_cases h : n ≤ f
                  · exact .inr (.inl ⟨rfl, h⟩)
                  · exact .inr (.inr ⟨rfl, by omega⟩)
      rcases hcase with rfl | ⟨rfl, hle⟩ | ⟨rfl, hle⟩
      · have hr : (runOf f L).isSome = false := by rw [HK.out]; rfl
        have HR := Lib.hid hr
        clear hr HK
        go_wp2_with (go_at_call 12; refine (vbvRun_any _ _ _ _ _ _ HI4.out (by omega)).mono ?_; rintro e w6 ⟨rfl, c6⟩; unfold pairV; rw [HR.out])
        go_roundw
        case rel => exact ⟨k + 1, by omega, by go_num, HB.out.trans (c6.mono HB.out.size)⟩
        case measure => simp [intOf]; omega
      · have hr : (runOf f L).isSome = true := by rw [HK.out, decide_eq_true hle]; rfl
        have HR := Lib.hid hr
        clear hr HK
        have h0 : 0 ≤ f := by omega
        go_wp2_with (go_at_call 12; refine (vbvRun_any _ _ _ _ _ _ HI4.out (by omega)).mono ?_; rintro e w6 ⟨rfl, c6⟩; unfold pairV; rw [HR.out])
        go_roundw
        case rel => exact ⟨k + 1, by omega, by go_num, HB.out.trans (c6.mono HB.out.size)⟩
        case measure => simp [intOf]; omega
      · have hr : (runOf f L).isSome = false := by rw [HK.out, decide_eq_false (by omega)]; rfl
        have HR := Lib.hid hr
        have hd : decide (n ≤ f) = false := by simp; omega
        clear hr HK
        go_wp2_with (go_at_call 12; refine (vbvRun_any _ _ _ _ _ _ HI4.out (by omega)).mono ?_; rintro e w6 ⟨rfl, c6⟩; unfold pairV; rw [HR.out])
        go_roundw
        case rel => exact ⟨k + 1, by omega, by go_num, HB.out.trans (c6.mono HB.out.size)⟩
        case measure => simp [intOf]; omega
    · go_wp2_with fail
      go_ret
      exact ⟨rfl, bnext C3.out (bnew (Below.refl _ _) HB.out)⟩
end vbvNeed

namespace vbvIdle
theorem made_ints (w : World) (n : Nat) (t : TypeId) : IsInts (w.alloc (.cells (madeCells #[.int .i64 0] n) t)) (some ⟨w.heap.size, 0, none⟩) n (List.replicate n 0) := by
  refine ⟨by simp, .inr ⟨_, _, rfl, by simp, fun i hi => ?_⟩⟩
  obtain ⟨c, hb, hn, hc⟩ := World.rowIs_made w (.int .i64 0) n t
  rw [cell_of_row _ _ _ _ _ _ hb, Nat.zero_add, hc i hi]
  simp [List.getD, hi]
theorem law (n : Nat) (f : Int) (h0 : 0 ≤ f) (h1 : f ≤ 1000) : vrun f (List.replicate n 0) = some (min 1000 (f + n * 100)) := by
  induction n generalizing f with
  | zero => simp [vrun]; omega
  | succ n ih =>
    rw [List.replicate_succ]
    have : vstep f 0 = some (min 1000 (f + 100)) := by unfold vstep; rw [if_neg (by omega), if_neg (by omega)]; congr 1; omega
    simp only [vrun, this, Option.bind_some]
    rw [ih _ (by omega) (by omega)]
    congr 1
    push_cast
    omega
set_option maxHeartbeats 1000000 in
theorem walk (a0 a1 : Int) (w : World) (w0 : (Lit.int .i64 a0).wf = true) (w1 : (Lit.int .i64 a1).wf = true) :
    Calls Try.prog 8 #[.int .i64 a0, .int .i64 a1] w fun e w' => e = .returned (.bool true) ∧ Below w.heap.size w w' := by
  have b0 := wf_bd w0
  have b1 := wf_bd w1
  clear w0 w1
  go_enter Try.func8, Try.ntmps8
  go_wp2_with fail
  refine (vsane_any _).mono ?_
  rintro e w1 ⟨rfl, c1⟩
  go_wp2_with fail
  refine (pick_any _ _ _ b0.1 b0.2 (by omega) (by omega)).mono ?_
  rintro e w3 ⟨rfl, rfl⟩
  have p0 := pick_bd a0 1001 (by omega)
  generalize pickOf a0 1001 = f at *
  go_wp2_with fail
  refine (pick_any _ _ _ b1.1 b1.2 (by omega) (by omega)).mono ?_
  rintro e w4 ⟨rfl, rfl⟩
  have p1 := pick_bd a1 41 (by omega)
  obtain ⟨n, hn⟩ : ∃ n : Nat, pickOf a1 41 = n := ⟨_, (Int.toNat_of_nonneg p1.1).symm⟩
  rw [hn] at p1 ⊢
  clear hn
  have hn41 : n ≤ 40 := by omega
  have hmk := fun w => run_make_row' (P := Try.prog) 22 3 (.int .i64 0) 8 Try.underlying22 infoInt rfl .i64 .i64 n (by omega) (by omega) w
  have HN := Lib.hid (made_ints w1 n 3)
  have R := Lib.hid ((runOf_in (f := f) (List.replicate n 0) (by omega) (by omega)).trans (law n f (by omega) (by omega)))
  go_wp2_with fail
  refine (vbvRun_any _ _ _ _ _ _ HN.out (by omega)).mono ?_
  rintro e w5 ⟨rfl, c5⟩
  rw [R.out]
  unfold pairV
  clear hmk R HN
  by_cases hle : f + n * 100 < 1000
  · rw [show min 1000 (f + (n : Int) * 100) = f + n * 100 by omega]
    go_wp2_with fail
    go_ret
    exact ⟨rfl, bnext c1 (bnew (Below.refl _ _) c5)⟩
  · rw [show min 1000 (f + (n : Int) * 100) = 1000 by omega]
    go_wp2_with fail
    go_ret
    exact ⟨rfl, bnext c1 (bnew (Below.refl _ _) c5)⟩
end vbvIdle
end Go.Proofs.Ytbiniebonjcekaa
