/- Contract of wire's Int. -/
import Derived.Test.YtgdjpaeclicdfaaDoorWireP
import Derived.WalkLawsBesides
namespace Go.Proofs.YtgdjpaeclicdfaaDoor
open Go.ChangeShapes Go.WideShapes Go.ChangeAt Go.RowKit
set_option linter.unusedVariables false

/-- What Int hands back. -/
def int3 : Option (Int × Nat) → Value
  | none => .tuple #[.int .i64 0, .int .i64 0, .int .i64 10]
  | some (n, e) => .tuple #[.int .i64 n, .int .i64 e, .int .i64 0]

theorem pow128 (j : Nat) : (2 : Nat) ^ (7 * j) = 128 ^ j := by rw [Nat.pow_mul]
theorem pow128_lt {j : Nat} (h : j < 9) : 128 ^ j ≤ 72057594037927936 := by
  have : 128 ^ j ≤ 128 ^ 8 := Nat.pow_le_pow_right (by omega) (by omega)
  simpa using this
theorem u8_wrap64 (x : Nat) (h : x < 256) : IntKind.u64.wrap (x : Int) = x := by
  rw [IntKind.wrap_u64]; omega
/-- The new register. -/
theorem join_eq (y j b : Nat) (hy : y < 128 ^ j) (hj : j < 9) (hb : b < 256) :
    bits BinOp.or IntKind.u64 (y : Int) (IntKind.u64.wrap (IntKind.u64.wrap (bits BinOp.and IntKind.u8 (b : Int) 127) * 2 ^ (7 * j))) = ((y + b % 128 * 128 ^ j : Nat) : Int) := by
  have hp := pow128_lt hj
  have h1 : bits BinOp.and IntKind.u8 (b : Int) 127 = ((b % 128 : Nat) : Int) := by
    rw [show (127 : Int) = ((127 : Nat) : Int) from rfl, u8_and_nat b 127 hb (by omega)]
    congr 1
    exact Nat.and_two_pow_sub_one_eq_mod b 7
  rw [h1, u8_wrap64 _ (by omega)]
  have h2 : ((b % 128 : Nat) : Int) * 2 ^ (7 * j) = ((b % 128 * 128 ^ j : Nat) : Int) := by
    rw [← pow128]; push_cast; rfl
  have h3 : b % 128 * 128 ^ j ≤ 127 * 128 ^ j := Nat.mul_le_mul_right _ (by omega)
  rw [h2, IntKind.wrap_u64, show ((b % 128 * 128 ^ j : Nat) : Int) % 18446744073709551616 = ((b % 128 * 128 ^ j : Nat) : Int) by omega]
  rw [u64_or_nat _ _ (by omega) (by omega), Nat.or_comm, nat_join (7 * j) _ _ (by rw [pow128]; exact Nat.mul_mod_left _ _) (by rw [pow128]; exact hy)]
  congr 1
  omega

set_option maxRecDepth 100000 in
set_option maxHeartbeats 4000000 in
theorem wint_any (s : ByteArray) (k : Nat) (w : World) (hs : s.size ≤ 9000000000000000000) (hk : k ≤ s.size) :
    Calls Tryd.prog 65 #[.string s, .int .i64 k] w fun e w' => e = .returned (int3 (rdInt s.data.toList k)) ∧ w = w' := by
  have d0 : decide ((k : Int) < 0) = false := by simp
  have d1 : decide (s.size < k) = false := by simp; omega
  go_enter Tryd.func65, Tryd.ntmps65
  go_wp2_with fail
  go_loop [7, 8] (fun z i => ∃ (j y : Nat), j ≤ 9 ∧ k + j ≤ s.size ∧ i = .int .i64 j ∧ z = .int .u64 y ∧ y < 128 ^ j ∧ vget 9 0 0 (s.data.toList.drop k) = vget (9 - j) j y (s.data.toList.drop (k + j))) (fun _ i => 9 - (intOf i).toNat)
  case atStart => exact ⟨0, 0, by omega, by omega, rfl, rfl, by decide, rfl⟩
  case round =>
    obtain ⟨j, y, hj, hkj, rfl, rfl, hy, hv⟩ := hrel
    have HY := Lib.hid hy
    have HV := Lib.hid hv
    clear hy hv
    have dk : 0 ≤ (k : Int) + j := by omega
    by_cases h9 : j < 9
    · by_cases hl : k + j < s.size
      · have hl1 : (k : Int) + j < s.size := by omega
        have hb := (s[k + j]'hl).toNat_lt
        have hdrop : s.data.toList.drop (k + j) = s[k + j] :: s.data.toList.drop (k + (j + 1)) := by
          have hl' : k + j < s.data.toList.length := by simpa using hl
          rw [List.drop_eq_getElem_cons hl']
          rfl
        have HJ := Lib.hid (join_eq y j (s[k + j]'hl).toNat HY.out h9 hb)
        have HP := Lib.hid (pow128_lt h9)
        have hst : vget (9 - j) j y (s.data.toList.drop (k + j)) = (if 128 ≤ (s[k + j]'hl).toNat then vget (9 - (j + 1)) (j + 1) (y + (s[k + j]'hl).toNat % 128 * 128 ^ j) (s.data.toList.drop (k + (j + 1)))
            else if (s[k + j]'hl).toNat = 0 ∧ 0 < j then none
            else if unzig (y + (s[k + j]'hl).toNat % 128 * 128 ^ j) < -wmax then none
            else some (unzig (y + (s[k + j]'hl).toNat % 128 * 128 ^ j), j + 1)) := by
          rw [hdrop, show 9 - j = (9 - (j + 1)) + 1 by omega, vget]
        have HS := Lib.hid hst
        have hz : y + (s[k + j]'hl).toNat % 128 * 128 ^ j < 128 ^ (j + 1) := by
          rw [Nat.pow_succ]
          have h3 : (s[k + j]'hl).toNat % 128 * 128 ^ j ≤ 127 * 128 ^ j := Nat.mul_le_mul_right _ (by omega)
          have := HY.out
          omega
        have HZ := Lib.hid hz
        clear hst hz hdrop
        go_upto_region 8 with (fail)
        go_cut [7] (fun z wx => z = .int .u64 ((y + (s[k + j]'hl).toNat % 128 * 128 ^ j : Nat) : Int) ∧ w = wx)
        case first =>
          go_wp2_with fail
          go_meet
          exact ⟨congrArg _ HJ.out, rfl⟩
        case rest =>
          obtain ⟨rfl, rfl⟩ := hcut
          generalize y + (s[k + j]'hl).toNat % 128 * 128 ^ j = Z at *
          have hZb : Z < 9223372036854775808 := by
            have h1 := HZ.out
            have h2 : 128 ^ (j + 1) ≤ 128 ^ 9 := Nat.pow_le_pow_right (by omega) (by omega)
            have h3 : (128 : Nat) ^ 9 = 9223372036854775808 := by decide
            omega
          generalize hbb : (s[k + j]'hl).toNat = b at *
          clear hbb
          have fin : ∀ r, vget (9 - j) j y (s.data.toList.drop (k + j)) = r → rdInt s.data.toList k = r.map (fun p => (p.1, k + p.2)) := by
            intro r hr; unfold rdInt; rw [HV.out, hr]
          have FIN := Lib.hid fin
          clear fin
          by_cases h1 : 128 ≤ b
          · have hs1 := HS.out
            rw [if_pos h1] at hs1
            have HS1 := Lib.hid hs1
            have h1i : (128 : Int) ≤ b := by omega
            clear hs1 HS
            go_wp2_with fail
            go_round
            case rel => exact ⟨j + 1, Z, by omega, by omega, by go_num, rfl, HZ.out, HV.out.trans HS1.out⟩
            case measure => simp [intOf]; omega
          · have hs1 := HS.out
            rw [if_neg h1] at hs1
            have h1i : (b : Int) < 128 := by omega
            by_cases h2 : b = 0 ∧ 0 < j
            · rw [if_pos h2] at hs1
              have HF := Lib.hid (FIN.out _ hs1)
              obtain ⟨rfl, h2j⟩ := h2
              have h2i : (0 : Int) < j := by omega
              clear hs1 HS
              go_wp2_with fail
              go_ret3
              exact ⟨by rw [HF.out]; rfl, rfl⟩
            · rw [if_neg h2] at hs1
              have hodd : Z % 2 = 1 → unzig Z = -((Z : Int) / 2) - 1 := by intro ho; unfold unzig; rw [if_pos ho]; omega
              have heven : Z % 2 ≠ 1 → unzig Z = (Z : Int) / 2 := by intro ho; unfold unzig; rw [if_neg ho]; omega
              have F1 : unzig Z < -4611686018427387903 → Hid (rdInt s.data.toList k = none) := fun h3 => Lib.hid (by
                have h3' : unzig Z < -wmax := h3
                have := FIN.out _ hs1; rw [if_pos h3'] at this; exact this)
              have F2 : ¬ unzig Z < -4611686018427387903 → Hid (rdInt s.data.toList k = some (unzig Z, k + (j + 1))) := fun h3 => Lib.hid (by
                have h3' : ¬ unzig Z < -wmax := h3
                have := FIN.out _ hs1; rw [if_neg h3'] at this; exact this)
              have hbj : (((b : Int) == 0) = false) ∨ (b = 0 ∧ j = 0) := by
                by_cases h : b = 0
                · right; omega
                · left; simp; exact h
              have hz2 : (Z % 2 = 1 ∧ ((Z : Int) % 2 == 1) = true ∧ (Z % 2 == 1) = true) ∨ (Z % 2 ≠ 1 ∧ ((Z : Int) % 2 == 1) = false ∧ (Z % 2 == 1) = false) := by
                by_cases h : Z % 2 = 1
                · left; refine ⟨h, ?_, ?_⟩ <;> simp <;> omega
                · right; refine ⟨h, ?_, ?_⟩ <;> simp <;> omega
              clear hs1 HS h2 FIN
              rcases hz2 with ⟨ho, ho1, ho2⟩ | ⟨ho, ho1, ho2⟩
              · have hu := hodd ho
                rw [hu] at F1 F2
                have HU := Lib.hid hu
                clear hodd heven hu ho
                by_cases h3 : -((Z : Int) / 2) - 1 < -4611686018427387903
                · have HF := F1 h3
                  clear F1 F2
                  rcases hbj with hb1 | ⟨rfl, rfl⟩
                  all_goals
                    go_wp2_with fail
                    go_ret3
                    exact ⟨by rw [HF.out]; rfl, rfl⟩
                · have HF := F2 h3
                  clear F1 F2
                  rcases hbj with hb1 | ⟨rfl, rfl⟩
                  all_goals
                    go_wp2_with fail
                    go_ret3
                    exact ⟨by rw [HF.out]; unfold int3; push_cast; simp [Int.add_assoc], rfl⟩
              · have hu := heven ho
                rw [hu] at F1 F2
                have h3 : ¬ (Z : Int) / 2 < -4611686018427387903 := by omega
                have HF := F2 h3
                clear hodd heven hu ho F1 F2
                rcases hbj with hb1 | ⟨rfl, rfl⟩
                all_goals
                  go_wp2_with fail
                  go_ret3
                  exact ⟨by rw [HF.out]; unfold int3; push_cast; simp [Int.add_assoc], rfl⟩
      · have hr : rdInt s.data.toList k = none := by
          unfold rdInt
          rw [HV.out, List.drop_eq_nil_of_le (by simp; omega), show 9 - j = (9 - (j + 1)) + 1 by omega, vget]
          rfl
        have HR := Lib.hid hr
        have hl1 : ¬ (k : Int) + j < s.size := by omega
        clear hr
        go_wp2_with fail
        go_ret3
        exact ⟨by rw [HR.out]; rfl, rfl⟩
    · have hr : rdInt s.data.toList k = none := by
        unfold rdInt
        rw [HV.out, show 9 - j = 0 by omega, vget]
        rfl
      have HR := Lib.hid hr
      have h9d : decide ((j : Int) < 9) = false := by simp; omega
      clear hr
      go_wp2_with fail
      go_ret3
      exact ⟨by rw [HR.out]; rfl, rfl⟩
end Go.Proofs.YtgdjpaeclicdfaaDoor
