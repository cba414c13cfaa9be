/- The walk of LoudnessRampReaches. -/
import Derived.Test.YteaffbipkmncmaaH
import Derived.Deep.DeepCutAuto
namespace Go.Proofs.Yteaffbipkmncmaa.loudnessRampReaches
open Go.ChangeShapes Go.WideShapes Go.ChangeAt Go.RowKit
set_option linter.unusedVariables false

theorem lim_id (x : Int) (h : 250 ≤ x ∧ x ≤ 4000) : lim x = x := by unfold lim; omega
theorem step_law (g t : Int) (h1 : 250 ≤ g ∧ g ≤ 4000) (h2 : 250 ≤ t ∧ t ≤ 4000) (k : Nat) :
    iter g t (k + 1) = nxt (iter g t k) t ∧ iter g t (k + 1) - iter g t k ≤ 20 ∧ iter g t k - iter g t (k + 1) ≤ 20 ∧
    (g ≤ t → iter g t k ≤ iter g t (k + 1) ∧ iter g t (k + 1) ≤ t) ∧ (t ≤ g → iter g t (k + 1) ≤ iter g t k ∧ t ≤ iter g t (k + 1)) ∧
    (iter g t (k + 1) = iter g t k → iter g t (k + 1) = t) := by
  have hn := iter_near g t k
  have he : iter g t (k + 1) = nxt (iter g t k) t := rfl
  refine ⟨rfl, ?_⟩
  rw [he]
  generalize iter g t k = x at *
  unfold nxt
  split <;> (try split) <;> omega

set_option maxRecDepth 100000 in
set_option maxHeartbeats 4000000 in
theorem walk (a0 a1 : Int) (w : World) (w0 : (Lit.int .i64 a0).wf = true) (w1 : (Lit.int .i64 a1).wf = true) :
    Calls Try.prog 9 #[.int .i64 a0, .int .i64 a1] w fun e w' => e = .returned (.bool true) ∧ Below w.heap.size w w' := by
  clear w0 w1
  go_enter Try.func9, Try.ntmps9
  go_wp2_with fail
  refine (sane_any _).mono ?_
  rintro e w1 ⟨rfl, b1⟩
  go_upto_region 2 with (fail)
  go_cut [0] (fun g wx => ∃ G : Int, g = .int .i64 G ∧ 250 ≤ G ∧ G ≤ 4000 ∧ w1 = wx)
  case first =>
    go_wp2_with fail
    all_goals
      go_meet
      exact ⟨_, rfl, by omega, by omega, rfl⟩
  case rest =>
    obtain ⟨G, rfl, hG1, hG2, rfl⟩ := hcut
    go_upto_region 3 with (fail)
    go_cut [1] (fun g wx => ∃ T : Int, g = .int .i64 T ∧ 250 ≤ T ∧ T ≤ 4000 ∧ w1 = wx)
    case first =>
      go_wp2_with fail
      all_goals
        go_meet
        exact ⟨_, rfl, by omega, by omega, rfl⟩
    case rest =>
      obtain ⟨T, rfl, hT1, hT2, rfl⟩ := hcut
      go_wp2_with fail
      go_loopw [6, 7] (fun g i wr => ∃ k : Nat, k ≤ 188 ∧ i = .int .i64 (k + 1) ∧ g = .int .i64 (iter G T k) ∧ Below w.heap.size w wr) (fun _ i _ => 189 - (intOf i).toNat)
      case atStart => exact ⟨0, by omega, rfl, rfl, b1⟩
      case round =>
        obtain ⟨k, hk, rfl, rfl, hb⟩ := hrel
        by_cases hlt : k < 188
        · obtain ⟨s0, s1, s2, s3, s4, s5⟩ := step_law G T ⟨hG1, hG2⟩ ⟨hT1, hT2⟩ k
          have hB := iter_bd G T ⟨hG1, hG2⟩ ⟨hT1, hT2⟩ k
          have hB2 := iter_bd G T ⟨hG1, hG2⟩ ⟨hT1, hT2⟩ (k + 1)
          have e1 : rampOf G T ((k : Int) + 1) = iter G T (k + 1) := by
            unfold rampOf; rw [lim_id G ⟨hG1, hG2⟩, lim_id T ⟨hT1, hT2⟩, show ((k : Int) + 1).toNat = k + 1 by omega]
          have e2 : nxt (lim (iter G T k)) (lim T) = iter G T (k + 1) := by
            rw [lim_id _ hB, lim_id T ⟨hT1, hT2⟩]; rfl
          have E1 := Lib.hid e1
          have E2 := Lib.hid e2
          clear e1 e2
          have hrel : ∀ u : Int, u = (k : Int) + 1 + 1 → ∃ j : Nat, j ≤ 188 ∧ Value.int .i64 u = .int .i64 (j + 1) ∧ Value.int .i64 (iter G T (k + 1)) = .int .i64 (iter G T j) := by
            rintro u rfl; exact ⟨k + 1, by omega, by go_num, rfl⟩
          have HR := Lib.hid hrel
          clear hrel s0
          obtain ⟨x, hx⟩ : ∃ x, iter G T k = x := ⟨_, rfl⟩
          obtain ⟨n, hn⟩ : ∃ n, iter G T (k + 1) = n := ⟨_, rfl⟩
          rw [hx] at s1 s2 s3 s4 s5 hB E2 ⊢
          rw [hn] at s1 s2 s3 s4 s5 hB2 E1 E2 HR
          clear hx hn
          have f1 : n - x ≤ 20 := s1
          have f2 : x - n ≤ 20 := s2
          have hnx : (n != n) = false := by simp
          clear s1 s2
          have key : (G ≤ T ∧ x ≤ n ∧ n ≤ T) ∨ (T ≤ G ∧ n ≤ x ∧ T ≤ n) := by
            by_cases h : G ≤ T
            · exact .inl ⟨h, s3 h⟩
            · exact .inr ⟨by omega, s4 (by omega)⟩
          have hc : (G < T ∧ x ≤ n ∧ n ≤ T) ∨ (T < G ∧ n ≤ x ∧ T ≤ n) ∨ (G = T ∧ x ≤ n ∧ n ≤ T ∧ n ≤ x ∧ T ≤ n) := by
            by_cases h : G = T
            · exact .inr (.inr ⟨h, (s3 (by omega)).1, (s3 (by omega)).2, (s4 (by omega)).1, (s4 (by omega)).2⟩)
            · omega
          have S5 := Lib.hid s5
          clear s3 s4 s5 key
          have hd : ((n == x) = false) ∨ ((n == x) = true ∧ (n != T) = false) := by
            by_cases h : n = x
            · right; have := S5.out h; subst this; simp [h]
            · left; simpa using h
          rcases hc with ⟨c1, c2, c3⟩ | ⟨c1, c2, c3⟩ | ⟨c1, c2, c3, c4, c5⟩
          · have d1 : decide (T ≤ G) = false := by simp; omega
            rcases hd with hd | ⟨hd, hd2⟩
            all_goals
              go_wp2_with (first | (go_at_call 18; refine (Ramp_any _ _ _ _ (by omega)).mono ?_; rintro e w2 ⟨rfl, b2⟩; rw [E1.out]) | (go_at_call 16; refine (Next_any _ _ _).mono ?_; rintro e w3 ⟨rfl, b3⟩; rw [E2.out]))
              go_roundw
              case rel => obtain ⟨j, j1, j2, j3⟩ := HR.out _ rfl; exact ⟨j, j1, j2, j3, bnext (bnext hb b2) b3⟩
              case measure => simp [intOf]; omega
          · have d1 : decide (G ≤ T) = false := by simp; omega
            rcases hd with hd | ⟨hd, hd2⟩
            all_goals
              go_wp2_with (first | (go_at_call 18; refine (Ramp_any _ _ _ _ (by omega)).mono ?_; rintro e w2 ⟨rfl, b2⟩; rw [E1.out]) | (go_at_call 16; refine (Next_any _ _ _).mono ?_; rintro e w3 ⟨rfl, b3⟩; rw [E2.out]))
              go_roundw
              case rel => obtain ⟨j, j1, j2, j3⟩ := HR.out _ rfl; exact ⟨j, j1, j2, j3, bnext (bnext hb b2) b3⟩
              case measure => simp [intOf]; omega
          · subst c1
            rcases hd with hd | ⟨hd, hd2⟩
            all_goals
              go_wp2_with (first | (go_at_call 18; refine (Ramp_any _ _ _ _ (by omega)).mono ?_; rintro e w2 ⟨rfl, b2⟩; rw [E1.out]) | (go_at_call 16; refine (Next_any _ _ _).mono ?_; rintro e w3 ⟨rfl, b3⟩; rw [E2.out]))
              go_roundw
              case rel => obtain ⟨j, j1, j2, j3⟩ := HR.out _ rfl; exact ⟨j, j1, j2, j3, bnext (bnext hb b2) b3⟩
              case measure => simp [intOf]; omega
        · obtain rfl : k = 188 := by omega
          have e1 := iter_done G T ⟨hG1, hG2⟩ ⟨hT1, hT2⟩ 188 (by omega)
          rw [e1]
          clear e1
          go_wp2_with fail
          go_ret
          exact ⟨rfl, hb⟩
end Go.Proofs.Yteaffbipkmncmaa.loudnessRampReaches
