/- The walk of VbvMatchesReference. -/
import Derived.Test.YtbiniebonjcekaaVlawA
import Derived.Deep.QuietTactic
import Derived.BigQuiet
namespace Go.Proofs.Ytbiniebonjcekaa.vbvMatchesReference
open Go.ChangeShapes Go.WideShapes Go.ChangeAt Go.RowKit
set_option linter.unusedVariables false

set_option maxRecDepth 100000 in
set_option maxHeartbeats 4000000 in
theorem walk (a0 : Int) (a1 : Option Addr) (len1 cap1 : Nat) (z1 : List Int) (w : World) (w0 : (Lit.int .i64 a0).wf = true)
    (w1 : IsInts w a1 len1 z1 ∧ len1 ≤ cap1 ∧ cap1 ≤ maxLen ∧ ∀ n ∈ z1, (Lit.int .i64 n).wf = true) :
    Calls Try.prog 3 #[.int .i64 a0, .slice a1 len1 cap1] w fun e w' => e = .returned (.bool true) ∧ Below w.heap.size w w' := by
  obtain ⟨hi, hl, hc, hwf⟩ := w1
  unfold maxLen at hc
  have b0 := wf_bd w0
  have HI := Lib.hid hi
  have HWF := Lib.hid hwf
  clear hi hwf w0
  go_enter Try.func3, Try.ntmps3
  go_wp2_with fail
  refine (vsane_any _).mono ?_
  rintro e w1 ⟨rfl, c1⟩
  have HI1 := Lib.hid (HI.out.below c1)
  go_wp2_with fail
  refine (some_any _ _ _ _ _ _ HI1.out (by omega) HWF.out).mono ?_
  rintro e w2 ⟨B, c, rfl, hI, hc1, hc2, hc3, c2⟩
  have hL := someOf_len z1 true
  generalize someOf z1 true = L at *
  have HI2 := Lib.hid (HI1.out.below c2)
  clear hc2 hc3
  go_wp2_with fail
  refine (some_any _ _ _ _ _ _ HI2.out (by omega) HWF.out).mono ?_
  rintro e w3 ⟨B', c', rfl, hI', hc1', hc2', hc3', c3⟩
  have hL' := someOf_len z1 false
  generalize someOf z1 false = L' at *
  have C3 := Lib.hid (bnext (bnext c1 c2) c3)
  have HL := Lib.hid (hI.below c3)
  have HL' := Lib.hid hI'
  clear hc2' hc3' hI hI' c1 c2 c3 HI HI1 HI2 HWF
  go_wp2_with fail
  obtain ⟨W0, hW0⟩ : ∃ W0, w3.alloc (Obj.cells #[Value.slice B L.length c, Value.slice B' L'.length c'] 22) = W0 := ⟨_, rfl⟩
  have hB0 : Below w3.heap.size w3 W0 := by rw [← hW0]; exact balloc _ _
  have key : ∀ k : Nat, k < 2 → ∃ (A : Option Addr) (d : Nat) (M : List Int), W0.cell? ⟨w3.heap.size, k, none⟩ = some (.slice A M.length d) ∧ IsInts W0 A M.length M ∧ M.length ≤ 60 ∧ M.length ≤ d := by
    intro k hk
    have h0 : W0.cell? ⟨w3.heap.size, 0, none⟩ = some (.slice B L.length c) := by rw [← hW0]; simp
    have h1 : W0.cell? ⟨w3.heap.size, 1, none⟩ = some (.slice B' L'.length c') := by rw [← hW0]; simp
    match k, hk with
    | 0, _ => exact ⟨B, c, L, h0, HL.out.below hB0, hL, hc1⟩
    | 1, _ => exact ⟨B', c', L', h1, HL'.out.below hB0, hL', hc1'⟩
  have hlt0 : w3.heap.size < W0.heap.size := by rw [← hW0]; simp
  have KEY := Lib.hid key
  have C0 := Lib.hid (bnext C3.out hB0)
  rw [hW0]
  clear hW0 key HL HL' hB0 C3
  go_loopw [33] (fun i wr => ∃ k : Nat, k ≤ 2 ∧ i = .int .i64 k ∧ Below W0.heap.size W0 wr) (fun i _ => 2 - (intOf i).toNat)
  case atStart => exact ⟨0, by omega, rfl, Below.refl _ _⟩
  case round =>
    obtain ⟨k, hk, rfl, hB⟩ := hrel
    have HB := Lib.hid hB
    clear hB
    by_cases hlt : k < 2
    · obtain ⟨A, d, M, hcell, hM, hM60, hMd⟩ := KEY.out k hlt
      have hcw : wr.cell? ⟨w3.heap.size, k, none⟩ = some (.slice A M.length d) := (HB.out.cell (p := ⟨w3.heap.size, k, none⟩) hlt0).trans hcell
      have HM := Lib.hid (hM.below HB.out)
      clear hcell hM KEY
      obtain ⟨wo, rfl⟩ : ∃ wo : World, wo = wr := ⟨_, rfl⟩
      have p0 := pick_bd a0 1001 (by omega)
      go_wp2_with (go_at_call 11; refine (pick_any _ _ _ b0.1 b0.2 (by omega) (by omega)).mono ?_; rintro e w' ⟨rfl, rfl⟩; generalize pickOf a0 1001 = p at *)
      obtain ⟨W1, hW1⟩ : ∃ W1, wo.alloc (Obj.cells #[Value.int IntKind.i64 a0, Value.int IntKind.i64 p] 3) = W1 := ⟨_, rfl⟩
      have hB1 : Below wo.heap.size wo W1 := by rw [← hW1]; exact balloc _ _
      have hlt1 : wo.heap.size < W1.heap.size := by rw [← hW1]; simp
      have key1 : ∀ j : Nat, j < 2 → ∃ f : Int, W1.cell? ⟨wo.heap.size, j, none⟩ = some (.int .i64 f) := by
        intro j hj
        match j, hj with
        | 0, _ => exact ⟨a0, by rw [← hW1]; simp⟩
        | 1, _ => exact ⟨p, by rw [← hW1]; simp⟩
      have KEY1 := Lib.hid key1
      have HM1 := Lib.hid (HM.out.below hB1)
      have HB1 := Lib.hid (bnext HB.out hB1)
      rw [hW1]
      clear hW1 key1 hcw HM HB hB1 p0
      go_loopw [42] (fun i wr => ∃ j : Nat, j ≤ 2 ∧ i = .int .i64 j ∧ Below W1.heap.size W1 wr) (fun i _ => 2 - (intOf i).toNat)
      case atStart => exact ⟨0, by omega, rfl, Below.refl _ _⟩
      case round =>
        obtain ⟨j, hj, rfl, hB⟩ := hrel
        have HB := Lib.hid hB
        clear hB
        by_cases hlt2 : j < 2
        · obtain ⟨f, hcell⟩ := KEY1.out j hlt2
          have hcw : wr.cell? ⟨wo.heap.size, j, none⟩ = some (.int .i64 f) := (HB.out.cell (p := ⟨wo.heap.size, j, none⟩) hlt1).trans hcell
          have HM := Lib.hid (HM1.out.below HB.out)
          clear hcell KEY1
          obtain ⟨wp, rfl⟩ : ∃ wp : World, wp = wr := ⟨_, rfl⟩
          go_wp2_with (first
            | (go_at_call 12; refine (vbvRun_any _ _ _ _ _ _ HM.out (by omega)).mono ?_; rintro e w5 ⟨rfl, c5⟩; have HM5 := Lib.hid (HM.out.below c5); have C5 := Lib.hid c5; clear c5; unfold pairV)
            | (go_at_call 13; refine (refRun_any _ _ _ _ _ _ HM5.out (by omega)).mono ?_; rintro e w6 ⟨rfl, rfl⟩; unfold pairV; generalize (runOf f M).getD 0 = r1; generalize (runOf f M).isSome = r2))
          go_loopw [14] (fun i wr => ∃ l : Nat, l ≤ M.length ∧ l ≤ 3 ∧ i = .int .i64 l ∧ w5 = wr) (fun i _ => 3 - (intOf i).toNat)
          case atStart => exact ⟨0, by omega, by omega, rfl, rfl⟩
          case round =>
            obtain ⟨l, hl1, hl2, rfl, rfl⟩ := hrel
            by_cases h3 : l < M.length
            · by_cases h4 : l < 3
              · obtain ⟨b, off, rfl, hbl, hcl⟩ := HM5.out.2.resolve_left (by omega)
                have hc := hcl l h3
                clear hcl
                generalize M.getD l 0 = x at *
                go_wp2_with (first
                  | (go_at_call 14; refine (vbvStep_any _ _ _).mono ?_; rintro e w7 ⟨rfl, rfl⟩; unfold pairV)
                  | (go_at_call 15; refine (refStep_any _ _ _).mono ?_; rintro e w8 ⟨rfl, rfl⟩; unfold pairV; generalize (vstep f x).getD 0 = r3; generalize (vstep f x).isSome = r4))
                go_roundw
                case rel => exact ⟨l + 1, by omega, by omega, by go_num, trivial⟩
                case measure => simp [intOf]; omega
              · go_wp2_with fail
                go_roundw
                case rel => exact ⟨j + 1, by omega, by go_num, HB.out.trans (C5.out.mono HB.out.size)⟩
                case measure => simp [intOf]; omega
            · have hd : decide (l < M.length) = false := by simpa using h3
              go_wp2_with fail
              go_roundw
              case rel => exact ⟨j + 1, by omega, by go_num, HB.out.trans (C5.out.mono HB.out.size)⟩
              case measure => simp [intOf]; omega
        · have HM := Lib.hid (HM1.out.below HB.out)
          have HB2 := Lib.hid (bnext HB1.out HB.out)
          clear KEY1
          obtain ⟨wq, rfl⟩ : ∃ wq : World, wq = wr := ⟨_, rfl⟩
          go_wp2_with (first
            | (go_at_call 16; refine (vbvNeed_any _ _ _ _ _ HM.out (by omega)).mono ?_; rintro e w5 ⟨rfl, c5⟩; have HM5 := Lib.hid (HM.out.below c5); have C5 := Lib.hid (bnext HB2.out c5); clear c5; unfold pairV)
            | (go_at_call 17; refine (refNeed_any _ _ _ _ _ HM5.out (by omega)).mono ?_; rintro e w6 ⟨rfl, rfl⟩; unfold pairV; generalize (needOf M).getD 0 = r1; generalize (needOf M).isSome = r2)
            | fail)
          refine (vbvExits_any _ _ _ _ _ HM5.out (by omega)).mono ?_
          rintro e w7 ⟨E, ec, rfl, hE, e1, e2, e3, c7⟩
          have HM7 := Lib.hid (HM5.out.below c7)
          have C7 := Lib.hid (bnext C5.out c7)
          clear e1 e2 e3
          go_wp2_with fail
          refine (refExits_any _ _ _ _ _ HM7.out (by omega) hMd).mono ?_
          rintro e w8 ⟨E', ec', rfl, hE', e1, e2, e3, c8⟩
          have HM8 := Lib.hid (HM7.out.below c8)
          have C8 := Lib.hid (bnext C7.out c8)
          have HE := Lib.hid (hE.below c8)
          have HE' := Lib.hid hE'
          have hEl : (exitsOf M).length ≤ M.length + 1 := exitsTo_len M _
          generalize exitsOf M = X at *
          clear e1 e2 e3 hE hE' c7 c8
          go_wp2_with (first
            | (go_at_call 20; refine (vbvConf_any _ _ _ _ _ HM8.out (by omega)).mono ?_; rintro e w9 ⟨rfl, c9⟩; have HM9 := Lib.hid (HM8.out.below c9); have C9 := Lib.hid (bnext C8.out c9); have HE9 := Lib.hid (HE.out.below c9); have HE9' := Lib.hid (HE'.out.below c9); clear c9)
            | (go_at_call 21; refine (refConf_any _ _ _ _ _ HM9.out (by omega)).mono ?_; rintro e w10 ⟨rfl, rfl⟩; generalize confOf M = r3))
          go_loopw [25] (fun i wr => ∃ l : Nat, l ≤ X.length ∧ i = .int .i64 l ∧ Below w9.heap.size w9 wr) (fun i _ => X.length - (intOf i).toNat)
          case atStart => exact ⟨0, by omega, rfl, Below.refl _ _⟩
          case round =>
            obtain ⟨l, hl1, rfl, hB⟩ := hrel
            have HB9 := Lib.hid hB
            by_cases h3 : l < X.length
            · obtain ⟨b, off, rfl, hbl, hcl⟩ := HE9.out.2.resolve_left (by omega)
              obtain ⟨b', off', rfl, hbl', hcl'⟩ := HE9'.out.2.resolve_left (by omega)
              have hc := (hB.cell (p := ⟨b, off + l, none⟩) hbl).trans (hcl l h3)
              have hc' := (hB.cell (p := ⟨b', off' + l, none⟩) hbl').trans (hcl' l h3)
              have h3i : (l : Int) < (X.length : Int) := by omega
              clear hcl hcl' hB
              generalize X.getD l 0 = x at *
              go_wp2_with fail
              go_quiet (fail)
              go_wp2_with fail
              go_roundw
              case rel => exact ⟨l + 1, by omega, by go_num, ⟨HB9.out.os, HB9.out.tape, HB9.out.output, HB9.out.size, HB9.out.block⟩⟩
              case measure => simp [intOf]; omega
            · clear hB
              go_wp2_with fail
              go_roundw
              case rel => exact ⟨k + 1, by omega, by go_num, bnext C9.out HB9.out⟩
              case measure => simp [intOf]; omega
    · go_wp2_with fail
      go_ret
      exact ⟨rfl, bnext C0.out HB.out⟩
end Go.Proofs.Ytbiniebonjcekaa.vbvMatchesReference
