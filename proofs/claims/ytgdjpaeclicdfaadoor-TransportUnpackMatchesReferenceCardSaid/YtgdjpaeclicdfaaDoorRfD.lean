/- Contracts of the reference: reading an integer, a string. -/
import Derived.Test.YtgdjpaeclicdfaaDoorRfC
import Derived.Test.YtgdjpaeclicdfaaDoorTrL
namespace Go.Proofs.YtgdjpaeclicdfaaDoor
open Go.ChangeShapes Go.WideShapes Go.ChangeAt Go.RowKit
set_option linter.unusedVariables false
set_option linter.unusedSimpArgs false

def intV : Option (Int × Nat) → Value
 | none => .tuple #[.int .i64 0, .int .i64 0, .int .i64 10]
 | some (n, e) => .tuple #[.int .i64 n, .int .i64 ((e : Nat) : Int), .int .i64 0]
theorem drop_cons {s : List UInt8} {i : Nat} (h : i < s.length) : s.drop i = s.getD i 0 :: s.drop (i + 1) := by
 rw [List.drop_eq_getElem_cons h]
 simp [List.getD, List.getElem?_eq_getElem h]
theorem ex_shl {P : Program} {ρ : Operand → Value} {w : World} {x y : Operand} {dst : Option Tmp} {t ty : TypeId} {t' : TypeId} {pos : String} {af : Array Edge} {g : Option (Nat × Bool)} {a : Int} {c : Nat} (hx : ρ x = .int .u64 a) (hy : ρ y = .int .i64 ((c : Nat) : Int)) (hc : c ≤ 64) :
  (execOp ρ ⟨dst, .binOp .shl t x y t', ty, pos, af, g⟩).run P w = .ok (.value (.int .u64 (IntKind.u64.wrap (a * 2 ^ c)))) w := by
 simp [execOp, hx, hy, binOp, eqGuard, shift_shl_u64 (h₀ := (by omega : (0 : Int) ≤ ((c : Nat) : Int))) (h₁ := (by omega : ((c : Nat) : Int) ≤ 64))]
theorem shl_val {b i M : Nat} (h : b * 128 ^ i = M) (hM : M < 18446744073709551616) : IntKind.u64.wrap (((b : Nat) : Int) * 2 ^ (7 * i)) = ((M : Nat) : Int) := by
 have e : ((b : Nat) : Int) * 2 ^ (7 * i) = ((M : Nat) : Int) := by rw [← h, ← pow128]; push_cast; rfl
 rw [e, wrap_inu64 _ (by omega)]
theorem int_last {s r : List UInt8} {k i z zz : Nat} {b : UInt8} (hR : vget (9 - i) i z (s.drop (k + i)) = vget 9 0 0 (s.drop k)) (hd : s.drop (k + i) = b :: r) (hi : i < 9) (hb : b.toNat < 128) (hz : z + b.toNat % 128 * 128 ^ i = zz) :
  rdInt s k = none ∨ (rdInt s k = some (unzig zz, k + (i + 1)) ∧ -wmax ≤ unzig zz) := by
 unfold rdInt
 rw [← hR, hd, show 9 - i = (9 - (i + 1)) + 1 by omega, vget, if_neg (by omega), hz]
 split
 ·exact .inl rfl
 ·split
  ·exact .inl rfl
  ·exact .inr ⟨rfl, by omega⟩
theorem int_yes {s : List UInt8} {k k2 : Nat} {n : Int} (hk : k ≤ s.length) (hk2 : k2 ≤ s.length) (h0 : (if -wmax ≤ n then 0 else 10 : Int) = 0) (he : (if -wmax ≤ n then encInt n else []) = (s.drop k).take (k2 - k)) (hn : n ≤ wmax) : rdInt s k = some (n, k2) := by
 by_cases h : -wmax ≤ n
 ·rw [if_pos h] at he
  have hl := congrArg List.length he
  rw [List.length_take, List.length_drop] at hl
  have h1 := (encInt_len n).1
  have e : s.take k ++ encInt n ++ s.drop k2 = s := by
   rw [he, List.append_assoc, show s.drop k2 = (s.drop k).drop (k2 - k) by rw [List.drop_drop]; congr 1; omega, List.take_append_drop, List.take_append_drop]
  have := rdInt_enc (s.take k) (s.drop k2) n h hn
  rw [e, List.length_take, Nat.min_eq_left hk] at this
  rw [this]
  congr 2
  omega
 ·rw [if_neg h] at h0; cases h0
theorem int_no {s : List UInt8} {k i zz : Nat} (hk : k ≤ s.length) (hl : rdInt s k = none ∨ (rdInt s k = some (unzig zz, k + (i + 1)) ∧ -wmax ≤ unzig zz)) (h : (if -wmax ≤ unzig zz then 0 else 10 : Int) ≠ 0 ∨ (if -wmax ≤ unzig zz then encInt (unzig zz) else []) ≠ (s.drop k).take (k + i + 1 - k)) : rdInt s k = none := by
 rcases hl with hl | ⟨hl, hw⟩
 ·exact hl
 ·exfalso
  rw [if_pos hw, if_pos hw] at h
  rcases h with h | h
  ·exact h rfl
  ·obtain ⟨_, _, h3, h4, h5⟩ := rdInt_canon hk hl
   apply h
   rw [h5, List.take_left' (by omega)]
theorem int_out {s : List UInt8} {k i z : Nat} (hR : vget (9 - i) i z (s.drop (k + i)) = vget 9 0 0 (s.drop k)) (h : 9 ≤ i ∨ s.length ≤ k + i) : rdInt s k = none := by
 unfold rdInt
 rw [← hR]
 by_cases h9 : 9 ≤ i
 ·rw [show 9 - i = 0 by omega]; rfl
 ·rw [List.drop_of_length_le (by omega), show 9 - i = (9 - (i + 1)) + 1 by omega]; rfl
set_option maxRecDepth 100000 in
set_option maxHeartbeats 4000000 in
theorem rputInt_out (n : Int) (w : World) (h : n < -wmax) :
  Calls Tryd.prog 80 #[.int .i64 n] w fun e w' => e = .returned (.tuple #[.string (bstr []), .int .i64 10]) ∧ Below w.heap.size w w' := by
 have HP := Hp.start w
 unfold wmax at h
 refine w_enter 31 [(0, (.int .i64 n))] Tryd.func80 rfl Tryd.ntmps80 (by kernel_rfl) (by kernel_rfl) fun a H => ?_
 refine wp_seq (w_region ?_)
 refine H.v 2 (.string (bstr ([]))) fun a H => ?_
 refine H.v 3 (.int .i64 0) fun a H => ?_
 refine wpList_nil (then_normal (wp_seq (wp_seq (w_region ?_))))
 refine H.v 6 (.int .i64 n) fun a H => ?_
 refine H.valE 7 (.bool (decide (n < -4611686018427387903))) (.bool true) (by kernel_rfl) (by kernel_rfl) ((congrArg Value.bool (decide_eq_true (by omega)))) fun a H => ?_
 refine H.v 8 (.bool true) fun a H => ?_
 refine H.s 9 fun a H => ?_
 refine H.s 10 fun a H => ?_
 refine H.v 11 (.bool true) fun a H => ?_
 refine wpList_nil (then_normal ?_)
 refine w_ift H rfl ?_
 refine wp_seq (w_region ?_)
 refine H.v 2 (.string (bstr ([]))) fun a H => ?_
 refine H.v 3 (.int .i64 10) fun a H => ?_
 refine wpList_nil (then_normal (wp_ret (then_ret ?_)))
 refine H.ret2 (fn := Tryd.f80) Tryd.results80 (RV.tmp_ (v := (.string (bstr ([])))) (by kernel_rfl)) (RV.tmp_ (v := (.int .i64 10)) (by kernel_rfl)) ?_
 exact ⟨rfl, (HP.below (by kernel_rfl))⟩
theorem rputInt_all (n : Int) (w : World) (h : n ≤ wmax) :
  Calls Tryd.prog 80 #[.int .i64 n] w fun e w' => e = .returned (.tuple #[.string (bstr (if -wmax ≤ n then encInt n else [])), .int .i64 (if -wmax ≤ n then 0 else 10)]) ∧ Below w.heap.size w w' := by
 by_cases h1 : -wmax ≤ n
 ·rw [if_pos h1, if_pos h1]; exact rputInt_any n w h1 h
 ·rw [if_neg h1, if_neg h1]; exact rputInt_out n w (by omega)

set_option maxRecDepth 100000 in
set_option maxHeartbeats 4000000 in
theorem rint_any (s : List UInt8) (k : Nat) (w : World) (hs : s.length ≤ 1000000) (hk : k ≤ s.length) :
  Calls Tryd.prog 68 #[.string (bstr s), .int .i64 ((k : Nat) : Int)] w fun e w' => e = .returned (intV (rdInt s k)) ∧ Below w.heap.size w w' := by
 have HP := Hp.start w
 refine w_enter 80 [(0, (.string (bstr s))), (1, (.int .i64 ((k : Nat) : Int)))] Tryd.func68 rfl Tryd.ntmps68 (by kernel_rfl) (by kernel_rfl) fun a H => ?_
 refine wp_seq (w_region ?_)
 refine H.v 4 (.int .i64 0) fun a H => ?_
 refine H.v 5 (.int .i64 0) fun a H => ?_
 refine H.v 6 (.int .i64 0) fun a H => ?_
 refine wpList_nil (then_normal (wp_seq (wp_seq (w_region ?_))))
 refine H.v 13 (.int .i64 ((k : Nat) : Int)) fun a H => ?_
 refine H.valE 14 (.bool (decide (((k : Nat) : Int) < 0))) (.bool false) (by kernel_rfl) (by kernel_rfl) ((congrArg Value.bool (decide_eq_false (by omega)))) fun a H => ?_
 refine H.v 15 (.bool false) fun a H => ?_
 refine H.v 16 (.int .i64 ((k : Nat) : Int)) fun a H => ?_
 refine H.v 17 (.string (bstr s)) fun a H => ?_
 refine H.v 18 (.int .i64 ((s.length : Nat) : Int)) fun a H => ?_
 refine H.valE 19 (.bool (decide (((k : Nat) : Int) > ((s.length : Nat) : Int)))) (.bool false) (by kernel_rfl) (by kernel_rfl) ((congrArg Value.bool (decide_eq_false (by omega)))) fun a H => ?_
 refine H.v 20 (.bool false) fun a H => ?_
 refine wpList_nil (then_normal ?_)
 refine w_iff H rfl ?_
 refine wp_skip (then_normal (wp_seq (w_region ?_)))
 refine H.v 7 (.int .u64 0) fun a H => ?_
 refine wpList_nil (then_normal (wp_seq (wp_seq (w_region ?_))))
 refine H.v 8 (.int .i64 0) fun a H => ?_
 refine wpList_nil (then_normal (wp_block ?_))
 refine w_loop (fun mm a wv => ∃ (i : Nat), ∃ (z : Nat), 9 - i = mm ∧ Sl 80 [(8, (.int .i64 ((i : Nat) : Int))), (7, (.int .u64 ((z : Nat) : Int))), (0, (.string (bstr s))), (1, (.int .i64 ((k : Nat) : Int)))] a ∧ Hp w wv [] [] ∧ (i ≤ 9) ∧ (z < 128 ^ i) ∧ (vget (9 - i) i z (s.drop (k + i)) = vget 9 0 0 (s.drop k))) (9 - 0) ?_ ?_
 ·exact ⟨0, 0, (by omega), H.keep (by kernel_rfl), HP, by omega, (by decide), rfl⟩
 rintro mm a w_1 ⟨i, z, hmeas, H, HP, hi, hz, hR⟩
 refine wp_seq (wp_seq (w_region ?_))
 refine H.v 21 (.int .i64 ((i : Nat) : Int)) fun a H => ?_
 refine H.v 22 (.bool (decide (((i : Nat) : Int) < 9))) fun a H => ?_
 refine H.v 23 (.bool (decide (((i : Nat) : Int) < 9))) fun a H => ?_
 refine H.split 23 rfl (fun g23 H => ?_) (fun g23 H => ?_)
 ·have g23p := of_decide_eq_true g23
  refine H.v 24 (.int .i64 ((k : Nat) : Int)) fun a H => ?_
  refine H.v 25 (.int .i64 ((i : Nat) : Int)) fun a H => ?_
  refine H.valE 26 (.int .i64 (IntKind.i64.wrap (((k : Nat) : Int) + ((i : Nat) : Int)))) (.int .i64 ((k + i : Nat) : Int)) (by kernel_rfl) (by kernel_rfl) ((by rw [wrap_ini64 _ (by omega)]; first | done | exact congrArg (Value.int .i64) (by omega))) fun a H => ?_
  refine H.v 27 (.string (bstr s)) fun a H => ?_
  refine H.v 28 (.int .i64 ((s.length : Nat) : Int)) fun a H => ?_
  refine H.v 29 (.bool (decide (((k + i : Nat) : Int) < ((s.length : Nat) : Int)))) fun a H => ?_
  refine H.v 30 (.bool (decide (((k + i : Nat) : Int) < ((s.length : Nat) : Int)))) fun a H => ?_
  refine wpList_nil (then_normal ?_)
  refine w_if H rfl (fun g30 => ?_) (fun g30 => ?_)
  ·have g30p := of_decide_eq_true g30
   refine wp_skip (then_normal (wp_seq (wp_block (wp_seq ?_))))
   obtain ⟨b, hb0⟩ : ∃ b, s.getD (k + i) 0 = b := ⟨_, rfl⟩
   have hdr : s.drop (k + i) = b :: s.drop (k + i + 1) := by rw [← hb0]; exact drop_cons (by omega)
   have hbl := byte_lt b
   have hp128 := pow128_lt (j := i) (by omega)
   obtain ⟨P, hP⟩ : ∃ P, 128 ^ i = P := ⟨_, rfl⟩
   rw [hP] at hz hp128
   obtain ⟨M, hM⟩ : ∃ M, b.toNat % 128 * P = M := ⟨_, rfl⟩
   have hMe : b.toNat % 128 * 128 ^ i = M := by rw [hP]; exact hM
   have hMP : M ≤ 127 * P := by rw [← hM]; exact Nat.mul_le_mul (by omega) (Nat.le_refl _)
   refine w_region ?_
   refine H.v 33 (.string (bstr s)) fun a H => ?_
   refine H.v 34 (.int .i64 ((k : Nat) : Int)) fun a H => ?_
   refine H.v 35 (.int .i64 ((i : Nat) : Int)) fun a H => ?_
   refine H.valE 36 (.int .i64 (IntKind.i64.wrap (((k : Nat) : Int) + ((i : Nat) : Int)))) (.int .i64 ((k + i : Nat) : Int)) (by kernel_rfl) (by kernel_rfl) ((by rw [wrap_ini64 _ (by omega)]; first | done | exact congrArg (Value.int .i64) (by omega))) fun a H => ?_
   refine H.valE 37 (.int .u8 (((s.getD (k + i) 0).toNat : Nat) : Int)) (.int .u8 ((b.toNat : Nat) : Int)) (by kernel_rfl) (ex_sindex (k := .i64) (l := s) (i := ((k + i : Nat) : Int)) (m := k + i) (by kernel_rfl) (by kernel_rfl) (by kernel_rfl) (by omega) (by omega)) ((congrArg (Value.int .u8) (by rw [hb0]))) fun a H => ?_
   refine H.valE 38 (.int .u64 (IntKind.u64.wrap ((b.toNat : Nat) : Int))) (.int .u64 ((b.toNat : Nat) : Int)) (by kernel_rfl) (by kernel_rfl) ((by rw [wrap_inu64 _ (by omega)])) fun a H => ?_
   refine H.v 9 (.int .u64 ((b.toNat : Nat) : Int)) fun a H => ?_
   refine wpList_nil (then_normal (wp_seq (w_region ?_)))
   refine H.v 39 (.int .u64 ((z : Nat) : Int)) fun a H => ?_
   refine H.v 40 (.int .u64 ((b.toNat : Nat) : Int)) fun a H => ?_
   refine H.valE 41 (.int .u64 (((b.toNat : Nat) : Int).tmod 128)) (.int .u64 ((b.toNat % 128 : Nat) : Int)) (by kernel_rfl) (by kernel_rfl) ((by rw [tmod_nn _ _ (by omega)]; exact congrArg (Value.int .u64) (by omega))) fun a H => ?_
   refine H.v 42 (.int .i64 ((i : Nat) : Int)) fun a H => ?_
   refine H.valE 43 (.int .i64 (IntKind.i64.wrap (7 * ((i : Nat) : Int)))) (.int .i64 ((7 * i : Nat) : Int)) (by kernel_rfl) (by kernel_rfl) ((by rw [wrap_ini64 _ (by omega)]; first | done | exact congrArg (Value.int .i64) (by omega))) fun a H => ?_
   refine H.valE 44 (.int .u64 (IntKind.u64.wrap (((b.toNat % 128 : Nat) : Int) * 2 ^ (7 * i)))) (.int .u64 ((M : Nat) : Int)) (by kernel_rfl) (ex_shl (by kernel_rfl) (by kernel_rfl) (by omega)) ((congrArg (Value.int .u64) (shl_val hMe (by omega)))) fun a H => ?_
   refine H.valE 45 (.int .u64 (IntKind.u64.wrap (((z : Nat) : Int) + ((M : Nat) : Int)))) (.int .u64 ((z + M : Nat) : Int)) (by kernel_rfl) (by kernel_rfl) ((by rw [wrap_inu64 _ (by omega)]; exact congrArg (Value.int .u64) (by omega))) fun a H => ?_
   refine H.v 7 (.int .u64 ((z + M : Nat) : Int)) fun a H => ?_
   refine wpList_nil (then_normal (wp_seq (wp_seq (w_region ?_))))
   refine H.v 46 (.int .u64 ((b.toNat : Nat) : Int)) fun a H => ?_
   refine H.v 47 (.bool (decide (((b.toNat : Nat) : Int) ≥ 128))) fun a H => ?_
   refine wpList_nil (then_normal ?_)
   refine w_if H rfl (fun g47 => ?_) (fun g47 => ?_)
   ·have g47p := of_decide_eq_true g47
    refine wp_exit (then_exit ?_)
    refine w_exit_here ?_
    refine then_normal (w_region ?_)
    refine H.v 31 (.int .i64 ((i : Nat) : Int)) fun a H => ?_
    refine H.valE 32 (.int .i64 (IntKind.i64.wrap (((i : Nat) : Int) + 1))) (.int .i64 (((i : Nat) : Int) + 1)) (by kernel_rfl) (by kernel_rfl) ((by rw [wrap_ini64 _ (by omega)])) fun a H => ?_
    refine H.v 8 (.int .i64 (((i : Nat) : Int) + 1)) fun a H => ?_
    refine wpList_nil (then_normal ?_)
    have H := H.as 8 (.int .i64 ((i + 1 : Nat) : Int)) rfl rfl
    refine ⟨_, ?_, i + 1, z + M, rfl, H.keep (by kernel_rfl), HP, by omega, (by rw [Nat.pow_succ, hP]; omega), (by rw [← hR, hdr, show 9 - i = (9 - (i + 1)) + 1 by omega, vget, if_pos (by omega), hMe, Nat.add_assoc])⟩
    omega
   ·have g47p := of_decide_eq_false g47
    refine wp_skip (then_normal (wp_seq ?_))
    obtain ⟨zz, hzz⟩ : ∃ y, z + M = y := ⟨_, rfl⟩
    have hzb : zz < 9223372036854775808 := by omega
    rw [hzz] at H
    have hlast := int_last hR hdr (by omega) (by omega) (show z + b.toNat % 128 * 128 ^ i = zz by rw [hMe]; exact hzz)
    have H := H.keep (L' := [(7, (.int .u64 ((zz : Nat) : Int))), (8, (.int .i64 ((i : Nat) : Int))), (0, (.string (bstr s))), (1, (.int .i64 ((k : Nat) : Int)))]) (by kernel_rfl)
    refine w_region ?_
    refine H.v 48 (.int .u64 ((zz : Nat) : Int)) fun a H => ?_
    refine H.valE 49 (.int .u64 (IntKind.u64.wrap (((zz : Nat) : Int).tdiv 2))) (.int .u64 ((zz / 2 : Nat) : Int)) (by kernel_rfl) (by kernel_rfl) ((by rw [tdiv_nn _ _ (by omega), wrap_inu64 _ (by omega)]; exact congrArg (Value.int .u64) (by omega))) fun a H => ?_
    refine H.valE 50 (.int .i64 (IntKind.i64.wrap ((zz / 2 : Nat) : Int))) (.int .i64 ((zz / 2 : Nat) : Int)) (by kernel_rfl) (by kernel_rfl) ((by rw [wrap_ini64 _ (by omega)])) fun a H => ?_
    refine H.v 10 (.int .i64 ((zz / 2 : Nat) : Int)) fun a H => ?_
    refine wpList_nil (then_normal ?_)
    refine w_cut (fun a wv => Sl 80 [(10, (.int .i64 (unzig zz))), (8, (.int .i64 ((i : Nat) : Int))), (0, (.string (bstr s))), (1, (.int .i64 ((k : Nat) : Int)))] a ∧ Hp w wv [] []) ?_ ?_
    ·
     refine wp_seq (w_region ?_)
     refine H.v 51 (.int .u64 ((zz : Nat) : Int)) fun a H => ?_
     refine H.valE 52 (.int .u64 (((zz : Nat) : Int).tmod 2)) (.int .u64 ((zz % 2 : Nat) : Int)) (by kernel_rfl) (by kernel_rfl) ((by rw [tmod_nn _ _ (by omega)]; exact congrArg (Value.int .u64) (by omega))) fun a H => ?_
     refine H.v 53 (.bool (((zz % 2 : Nat) : Int) == 1)) fun a H => ?_
     refine wpList_nil (then_normal ?_)
     refine w_if H rfl (fun g53 => ?_) (fun g53 => ?_)
     ·have g53p := eq_of_beq g53
      refine w_region ?_
      refine H.v 54 (.int .i64 ((zz / 2 : Nat) : Int)) fun a H => ?_
      refine H.valE 55 (.int .i64 (IntKind.i64.wrap (0 - ((zz / 2 : Nat) : Int)))) (.int .i64 (-((zz / 2 : Nat) : Int))) (by kernel_rfl) (by kernel_rfl) ((by rw [Int.zero_sub, wrap_ini64 _ (by omega)])) fun a H => ?_
      refine H.valE 56 (.int .i64 (IntKind.i64.wrap ((-((zz / 2 : Nat) : Int)) - 1))) (.int .i64 ((-((zz / 2 : Nat) : Int)) - 1)) (by kernel_rfl) (by kernel_rfl) ((by rw [wrap_ini64 _ (by omega)])) fun a H => ?_
      refine H.v 10 (.int .i64 ((-((zz / 2 : Nat) : Int)) - 1)) fun a H => ?_
      refine wpList_nil (then_normal ?_)
      have H := H.as 10 (.int .i64 (unzig zz)) rfl (congrArg (Value.int .i64) (by unfold unzig; rw [if_pos (by omega)]))
      exact ⟨H.keep (by kernel_rfl), HP⟩
     ·have g53p := ne_of_beq_false g53
      refine wp_skip (then_normal ?_)
      have H := H.as 10 (.int .i64 (unzig zz)) rfl (congrArg (Value.int .i64) (by unfold unzig; rw [if_neg (by omega)]))
      exact ⟨H.keep (by kernel_rfl), HP⟩
    ·
     rintro a w_2 ⟨H, HP⟩
     refine wp_seq ?_
     have hule := unzig_le zz hzb
     refine w_region ?_
     refine H.v 58 (.int .i64 (unzig zz)) fun a H => ?_
     refine H.call 59 (by kernel_rfl) (Eq.trans (by kernel_rfl : _ = (callFunc 80 #[(.int .i64 (unzig zz))]).run Tryd.prog w_2) (Tryd.call80 _ _)) (rputInt_all (unzig zz) w_2 hule) ?_
     rintro e w_3 ⟨rfl, hb⟩
     refine ⟨_, rfl, ?_⟩
     intro a H
     have HP := HP.next hb
     refine H.v 57 (.tuple #[(.string (bstr (if -wmax ≤ unzig zz then encInt (unzig zz) else []))), (.int .i64 (if -wmax ≤ unzig zz then 0 else 10 : Int))]) fun a H => ?_
     refine H.v 60 (.string (bstr (if -wmax ≤ unzig zz then encInt (unzig zz) else []))) fun a H => ?_
     refine H.v 61 (.int .i64 (if -wmax ≤ unzig zz then 0 else 10 : Int)) fun a H => ?_
     refine H.v 11 (.string (bstr (if -wmax ≤ unzig zz then encInt (unzig zz) else []))) fun a H => ?_
     refine H.v 12 (.int .i64 (if -wmax ≤ unzig zz then 0 else 10 : Int)) fun a H => ?_
     refine wpList_nil (then_normal (wp_seq (wp_seq (w_region ?_))))
     refine H.v 62 (.int .i64 (if -wmax ≤ unzig zz then 0 else 10 : Int)) fun a H => ?_
     refine H.v 63 (.bool ((if -wmax ≤ unzig zz then 0 else 10 : Int) != 0)) fun a H => ?_
     refine H.v 64 (.bool ((if -wmax ≤ unzig zz then 0 else 10 : Int) != 0)) fun a H => ?_
     refine H.split 64 rfl (fun g64 H => ?_) (fun g64 H => ?_)
     ·have g64p := bne_iff_ne.1 g64
      refine H.s 65 fun a H => ?_
      refine H.s 66 fun a H => ?_
      refine H.s 67 fun a H => ?_
      refine H.s 68 fun a H => ?_
      refine H.s 69 fun a H => ?_
      refine H.s 70 fun a H => ?_
      refine H.s 71 fun a H => ?_
      refine H.s 72 fun a H => ?_
      refine H.s 73 fun a H => ?_
      refine H.v 74 (.bool true) fun a H => ?_
      refine wpList_nil (then_normal ?_)
      refine w_ift H rfl ?_
      refine wp_seq (w_region ?_)
      refine H.v 4 (.int .i64 0) fun a H => ?_
      refine H.v 5 (.int .i64 0) fun a H => ?_
      refine H.v 6 (.int .i64 10) fun a H => ?_
      refine wpList_nil (then_normal (wp_ret (then_ret (inb_ret (then_ret (then_ret (inb_ret (then_ret ?_))))))))
      refine H.ret3 (fn := Tryd.f68) Tryd.results68 (RV.tmp_ (v := (.int .i64 0)) (by kernel_rfl)) (RV.tmp_ (v := (.int .i64 0)) (by kernel_rfl)) (RV.tmp_ (v := (.int .i64 10)) (by kernel_rfl)) ?_
      exact ⟨by rw [int_no hk hlast (.inl g64p)]; rfl, (HP.below (by kernel_rfl))⟩
     ·have g64p := eq_of_bne_false g64
      refine H.v 65 (.string (bstr (if -wmax ≤ unzig zz then encInt (unzig zz) else []))) fun a H => ?_
      refine H.v 66 (.string (bstr s)) fun a H => ?_
      refine H.v 67 (.int .i64 ((k : Nat) : Int)) fun a H => ?_
      refine H.v 68 (.int .i64 ((k : Nat) : Int)) fun a H => ?_
      refine H.v 69 (.int .i64 ((i : Nat) : Int)) fun a H => ?_
      refine H.valE 70 (.int .i64 (IntKind.i64.wrap (((k : Nat) : Int) + ((i : Nat) : Int)))) (.int .i64 ((k + i : Nat) : Int)) (by kernel_rfl) (by kernel_rfl) ((by rw [wrap_ini64 _ (by omega)]; first | done | exact congrArg (Value.int .i64) (by omega))) fun a H => ?_
      refine H.valE 71 (.int .i64 (IntKind.i64.wrap (((k + i : Nat) : Int) + 1))) (.int .i64 ((k + i + 1 : Nat) : Int)) (by kernel_rfl) (by kernel_rfl) ((by rw [wrap_ini64 _ (by omega)]; first | done | exact congrArg (Value.int .i64) (by omega))) fun a H => ?_
      refine H.u 72 (.string (bstr ((s.drop k).take ((k + i + 1) - k)))) (ex_sslice (k := .i64) (kk := .i64) (l := s) (i := ((k : Nat) : Int)) (j := ((k + i + 1 : Nat) : Int)) (a := k) (b := (k + i + 1)) (by kernel_rfl) (by kernel_rfl) (by kernel_rfl) (by kernel_rfl) (by omega) (by omega) (by omega) (by omega)) fun a H => ?_
      refine H.valE 73 (.bool (!((bstr (if -wmax ≤ unzig zz then encInt (unzig zz) else [])).toList == (bstr ((s.drop k).take ((k + i + 1) - k))).toList))) (.bool (!((if -wmax ≤ unzig zz then encInt (unzig zz) else []) == ((s.drop k).take ((k + i + 1) - k))))) (by kernel_rfl) (by kernel_rfl) ((congrArg (fun b => Value.bool (!b)) (bstr_eq _ _))) fun a H => ?_
      refine H.v 74 (.bool (!((if -wmax ≤ unzig zz then encInt (unzig zz) else []) == ((s.drop k).take ((k + i + 1) - k))))) fun a H => ?_
      refine wpList_nil (then_normal ?_)
      refine w_if H rfl (fun g74 => ?_) (fun g74 => ?_)
      ·have g74p := not_is_true g74
       refine wp_seq (w_region ?_)
       refine H.v 4 (.int .i64 0) fun a H => ?_
       refine H.v 5 (.int .i64 0) fun a H => ?_
       refine H.v 6 (.int .i64 10) fun a H => ?_
       refine wpList_nil (then_normal (wp_ret (then_ret (inb_ret (then_ret (then_ret (inb_ret (then_ret ?_))))))))
       refine H.ret3 (fn := Tryd.f68) Tryd.results68 (RV.tmp_ (v := (.int .i64 0)) (by kernel_rfl)) (RV.tmp_ (v := (.int .i64 0)) (by kernel_rfl)) (RV.tmp_ (v := (.int .i64 10)) (by kernel_rfl)) ?_
       exact ⟨by rw [int_no hk hlast (.inr (ne_of_beq_false g74p))]; rfl, (HP.below (by kernel_rfl))⟩
      ·have g74p := not_is_false g74
       refine wp_skip (then_normal (wp_seq (w_region ?_)))
       refine H.v 75 (.int .i64 (unzig zz)) fun a H => ?_
       refine H.v 76 (.int .i64 ((k : Nat) : Int)) fun a H => ?_
       refine H.v 77 (.int .i64 ((i : Nat) : Int)) fun a H => ?_
       refine H.valE 78 (.int .i64 (IntKind.i64.wrap (((k : Nat) : Int) + ((i : Nat) : Int)))) (.int .i64 ((k + i : Nat) : Int)) (by kernel_rfl) (by kernel_rfl) ((by rw [wrap_ini64 _ (by omega)]; first | done | exact congrArg (Value.int .i64) (by omega))) fun a H => ?_
       refine H.valE 79 (.int .i64 (IntKind.i64.wrap (((k + i : Nat) : Int) + 1))) (.int .i64 ((k + i + 1 : Nat) : Int)) (by kernel_rfl) (by kernel_rfl) ((by rw [wrap_ini64 _ (by omega)]; first | done | exact congrArg (Value.int .i64) (by omega))) fun a H => ?_
       refine H.v 4 (.int .i64 (unzig zz)) fun a H => ?_
       refine H.v 5 (.int .i64 ((k + i + 1 : Nat) : Int)) fun a H => ?_
       refine H.v 6 (.int .i64 0) fun a H => ?_
       refine wpList_nil (then_normal (wp_ret (inb_ret (then_ret (then_ret (inb_ret (then_ret ?_)))))))
       refine H.ret3 (fn := Tryd.f68) Tryd.results68 (RV.tmp_ (v := (.int .i64 (unzig zz))) (by kernel_rfl)) (RV.tmp_ (v := (.int .i64 ((k + i + 1 : Nat) : Int))) (by kernel_rfl)) (RV.tmp_ (v := (.int .i64 0)) (by kernel_rfl)) ?_
       exact ⟨by rw [int_yes hk (k2 := k + i + 1) (by omega) g64p (eq_of_beq g74p) hule]; rfl, (HP.below (by kernel_rfl))⟩
  ·have g30p := of_decide_eq_false g30
   refine wp_exit (then_exit (then_exit ?_))
   refine w_exit_here ?_
   refine then_normal (wp_seq (w_region ?_))
   refine H.v 4 (.int .i64 0) fun a H => ?_
   refine H.v 5 (.int .i64 0) fun a H => ?_
   refine H.v 6 (.int .i64 10) fun a H => ?_
   refine wpList_nil (then_normal (wp_ret ?_))
   refine H.ret3 (fn := Tryd.f68) Tryd.results68 (RV.tmp_ (v := (.int .i64 0)) (by kernel_rfl)) (RV.tmp_ (v := (.int .i64 0)) (by kernel_rfl)) (RV.tmp_ (v := (.int .i64 10)) (by kernel_rfl)) ?_
   exact ⟨by rw [int_out hR (by omega)]; rfl, (HP.below (by kernel_rfl))⟩
 ·have g23p := of_decide_eq_false g23
  refine H.s 24 fun a H => ?_
  refine H.s 25 fun a H => ?_
  refine H.s 26 fun a H => ?_
  refine H.s 27 fun a H => ?_
  refine H.s 28 fun a H => ?_
  refine H.s 29 fun a H => ?_
  refine H.v 30 (.bool false) fun a H => ?_
  refine wpList_nil (then_normal ?_)
  refine w_iff H rfl ?_
  refine wp_exit (then_exit (then_exit ?_))
  refine w_exit_here ?_
  refine then_normal (wp_seq (w_region ?_))
  refine H.v 4 (.int .i64 0) fun a H => ?_
  refine H.v 5 (.int .i64 0) fun a H => ?_
  refine H.v 6 (.int .i64 10) fun a H => ?_
  refine wpList_nil (then_normal (wp_ret ?_))
  refine H.ret3 (fn := Tryd.f68) Tryd.results68 (RV.tmp_ (v := (.int .i64 0)) (by kernel_rfl)) (RV.tmp_ (v := (.int .i64 0)) (by kernel_rfl)) (RV.tmp_ (v := (.int .i64 10)) (by kernel_rfl)) ?_
  exact ⟨by rw [int_out hR (by omega)]; rfl, (HP.below (by kernel_rfl))⟩
set_option maxRecDepth 100000 in
set_option maxHeartbeats 4000000 in
theorem rstr_none (l : List UInt8) (k : Nat) (w : World) (hl : l.length ≤ 1000000) (hk : k ≤ l.length) (hR : rdInt l k = none) :
  Calls Tryd.prog 69 #[.string (bstr l), .int .i64 ((k : Nat) : Int)] w fun e w' => e = .returned (str3 (rdStr l k)) ∧ Below w.heap.size w w' := by
 have HP := Hp.start w
 refine w_enter 43 [(0, (.string (bstr l))), (1, (.int .i64 ((k : Nat) : Int)))] Tryd.func69 rfl Tryd.ntmps69 (by kernel_rfl) (by kernel_rfl) fun a H => ?_
 refine wp_seq (w_region ?_)
 refine H.v 4 (.string (bstr ([]))) fun a H => ?_
 refine H.v 5 (.int .i64 0) fun a H => ?_
 refine H.v 6 (.int .i64 0) fun a H => ?_
 refine wpList_nil (then_normal (wp_seq (w_region ?_)))
 refine H.v 11 (.string (bstr l)) fun a H => ?_
 refine H.v 12 (.int .i64 ((k : Nat) : Int)) fun a H => ?_
 refine H.call 13 (by kernel_rfl) (Eq.trans (by kernel_rfl : _ = (callFunc 68 #[(.string (bstr l)), (.int .i64 ((k : Nat) : Int))]).run Tryd.prog w) (Tryd.call68 _ _)) ((by have hh := rint_any l k w hl hk; rw [hR] at hh; exact hh)) ?_
 rintro e w_1 ⟨rfl, hb⟩
 refine ⟨_, rfl, ?_⟩
 intro a H
 have HP := HP.next hb
 refine H.v 10 (.tuple #[(.int .i64 0), (.int .i64 0), (.int .i64 10)]) fun a H => ?_
 refine H.v 14 (.int .i64 0) fun a H => ?_
 refine H.v 15 (.int .i64 0) fun a H => ?_
 refine H.v 16 (.int .i64 10) fun a H => ?_
 refine H.v 7 (.int .i64 0) fun a H => ?_
 refine H.v 8 (.int .i64 0) fun a H => ?_
 refine H.v 9 (.int .i64 10) fun a H => ?_
 refine wpList_nil (then_normal (wp_seq (wp_seq (w_region ?_))))
 refine H.v 17 (.int .i64 10) fun a H => ?_
 refine H.v 18 (.bool true) fun a H => ?_
 refine wpList_nil (then_normal ?_)
 refine w_ift H rfl ?_
 refine wp_seq (w_region ?_)
 refine H.v 19 (.int .i64 10) fun a H => ?_
 refine H.v 4 (.string (bstr ([]))) fun a H => ?_
 refine H.v 5 (.int .i64 0) fun a H => ?_
 refine H.v 6 (.int .i64 10) fun a H => ?_
 refine wpList_nil (then_normal (wp_ret (then_ret ?_)))
 refine H.ret3 (fn := Tryd.f69) Tryd.results69 (RV.tmp_ (v := (.string (bstr ([])))) (by kernel_rfl)) (RV.tmp_ (v := (.int .i64 0)) (by kernel_rfl)) (RV.tmp_ (v := (.int .i64 10)) (by kernel_rfl)) ?_
 exact ⟨by unfold rdStr; rw [hR]; rfl, (HP.below (by kernel_rfl))⟩
set_option maxRecDepth 100000 in
set_option maxHeartbeats 4000000 in
theorem rstr_some (l : List UInt8) (k : Nat) (w : World) (hl : l.length ≤ 1000000) (hk : k ≤ l.length) (n : Int) (e : Nat) (hR : rdInt l k = some (n, e)) :
  Calls Tryd.prog 69 #[.string (bstr l), .int .i64 ((k : Nat) : Int)] w fun e w' => e = .returned (str3 (rdStr l k)) ∧ Below w.heap.size w w' := by
 have HP := Hp.start w
 have hcan := rdInt_le hk hR
 refine w_enter 43 [(0, (.string (bstr l))), (1, (.int .i64 ((k : Nat) : Int)))] Tryd.func69 rfl Tryd.ntmps69 (by kernel_rfl) (by kernel_rfl) fun a H => ?_
 refine wp_seq (w_region ?_)
 refine H.v 4 (.string (bstr ([]))) fun a H => ?_
 refine H.v 5 (.int .i64 0) fun a H => ?_
 refine H.v 6 (.int .i64 0) fun a H => ?_
 refine wpList_nil (then_normal (wp_seq (w_region ?_)))
 refine H.v 11 (.string (bstr l)) fun a H => ?_
 refine H.v 12 (.int .i64 ((k : Nat) : Int)) fun a H => ?_
 refine H.call 13 (by kernel_rfl) (Eq.trans (by kernel_rfl : _ = (callFunc 68 #[(.string (bstr l)), (.int .i64 ((k : Nat) : Int))]).run Tryd.prog w) (Tryd.call68 _ _)) ((by have hh := rint_any l k w hl hk; rw [hR] at hh; exact hh)) ?_
 rintro e w_1 ⟨rfl, hb⟩
 refine ⟨_, rfl, ?_⟩
 intro a H
 have HP := HP.next hb
 refine H.v 10 (.tuple #[(.int .i64 n), (.int .i64 ((e : Nat) : Int)), (.int .i64 0)]) fun a H => ?_
 refine H.v 14 (.int .i64 n) fun a H => ?_
 refine H.v 15 (.int .i64 ((e : Nat) : Int)) fun a H => ?_
 refine H.v 16 (.int .i64 0) fun a H => ?_
 refine H.v 7 (.int .i64 n) fun a H => ?_
 refine H.v 8 (.int .i64 ((e : Nat) : Int)) fun a H => ?_
 refine H.v 9 (.int .i64 0) fun a H => ?_
 refine wpList_nil (then_normal (wp_seq (wp_seq (w_region ?_))))
 refine H.v 17 (.int .i64 0) fun a H => ?_
 refine H.v 18 (.bool false) fun a H => ?_
 refine wpList_nil (then_normal ?_)
 refine w_iff H rfl ?_
 refine wp_skip (then_normal (wp_seq (wp_seq (w_region ?_))))
 refine H.v 20 (.int .i64 n) fun a H => ?_
 refine H.v 21 (.bool (decide (n < 0))) fun a H => ?_
 refine H.v 22 (.bool (decide (n < 0))) fun a H => ?_
 refine H.split 22 rfl (fun g22 H => ?_) (fun g22 H => ?_)
 ·have g22p := of_decide_eq_true g22
  refine H.s 23 fun a H => ?_
  refine H.s 24 fun a H => ?_
  refine H.v 25 (.bool true) fun a H => ?_
  refine H.v 26 (.bool true) fun a H => ?_
  refine H.s 27 fun a H => ?_
  refine H.s 28 fun a H => ?_
  refine H.s 29 fun a H => ?_
  refine H.s 30 fun a H => ?_
  refine H.s 31 fun a H => ?_
  refine H.s 32 fun a H => ?_
  refine H.v 33 (.bool true) fun a H => ?_
  refine wpList_nil ?_
  have H := H.keep (L' := [(33, (.bool true)), (18, (.bool false)), (17, (.int .i64 0)), (9, (.int .i64 0)), (8, (.int .i64 ((e : Nat) : Int))), (7, (.int .i64 n)), (16, (.int .i64 0)), (15, (.int .i64 ((e : Nat) : Int))), (14, (.int .i64 n)), (10, (.tuple #[(.int .i64 n), (.int .i64 ((e : Nat) : Int)), (.int .i64 0)])), (13, (.tuple #[(.int .i64 n), (.int .i64 ((e : Nat) : Int)), (.int .i64 0)])), (12, (.int .i64 ((k : Nat) : Int))), (11, (.string (bstr l))), (6, (.int .i64 0)), (5, (.int .i64 0)), (4, (.string (bstr ([])))), (0, (.string (bstr l))), (1, (.int .i64 ((k : Nat) : Int)))]) (by kernel_rfl)
  refine then_normal ?_
  refine w_ift H rfl ?_
  refine wp_seq (w_region ?_)
  refine H.v 4 (.string (bstr ([]))) fun a H => ?_
  refine H.v 5 (.int .i64 0) fun a H => ?_
  refine H.v 6 (.int .i64 10) fun a H => ?_
  refine wpList_nil (then_normal (wp_ret (then_ret ?_)))
  refine H.ret3 (fn := Tryd.f69) Tryd.results69 (RV.tmp_ (v := (.string (bstr ([])))) (by kernel_rfl)) (RV.tmp_ (v := (.int .i64 0)) (by kernel_rfl)) (RV.tmp_ (v := (.int .i64 10)) (by kernel_rfl)) ?_
  exact ⟨by unfold rdStr; rw [hR]; simp only; rw [if_pos (by omega)]; rfl, (HP.below (by kernel_rfl))⟩
 ·have g22p := of_decide_eq_false g22
  refine H.v 23 (.int .i64 n) fun a H => ?_
  refine H.v 24 (.bool (decide (n > 65536))) fun a H => ?_
  refine H.v 25 (.bool (decide (n > 65536))) fun a H => ?_
  refine H.v 26 (.bool (decide (n > 65536))) fun a H => ?_
  refine H.split 26 rfl (fun g26 H => ?_) (fun g26 H => ?_)
  ·have g26p := of_decide_eq_true g26
   refine H.s 27 fun a H => ?_
   refine H.s 28 fun a H => ?_
   refine H.s 29 fun a H => ?_
   refine H.s 30 fun a H => ?_
   refine H.s 31 fun a H => ?_
   refine H.s 32 fun a H => ?_
   refine H.v 33 (.bool true) fun a H => ?_
   refine wpList_nil ?_
   have H := H.keep (L' := [(33, (.bool true)), (18, (.bool false)), (17, (.int .i64 0)), (9, (.int .i64 0)), (8, (.int .i64 ((e : Nat) : Int))), (7, (.int .i64 n)), (16, (.int .i64 0)), (15, (.int .i64 ((e : Nat) : Int))), (14, (.int .i64 n)), (10, (.tuple #[(.int .i64 n), (.int .i64 ((e : Nat) : Int)), (.int .i64 0)])), (13, (.tuple #[(.int .i64 n), (.int .i64 ((e : Nat) : Int)), (.int .i64 0)])), (12, (.int .i64 ((k : Nat) : Int))), (11, (.string (bstr l))), (6, (.int .i64 0)), (5, (.int .i64 0)), (4, (.string (bstr ([])))), (0, (.string (bstr l))), (1, (.int .i64 ((k : Nat) : Int)))]) (by kernel_rfl)
   refine then_normal ?_
   refine w_ift H rfl ?_
   refine wp_seq (w_region ?_)
   refine H.v 4 (.string (bstr ([]))) fun a H => ?_
   refine H.v 5 (.int .i64 0) fun a H => ?_
   refine H.v 6 (.int .i64 10) fun a H => ?_
   refine wpList_nil (then_normal (wp_ret (then_ret ?_)))
   refine H.ret3 (fn := Tryd.f69) Tryd.results69 (RV.tmp_ (v := (.string (bstr ([])))) (by kernel_rfl)) (RV.tmp_ (v := (.int .i64 0)) (by kernel_rfl)) (RV.tmp_ (v := (.int .i64 10)) (by kernel_rfl)) ?_
   exact ⟨by unfold rdStr; rw [hR]; simp only; rw [if_pos (by omega)]; rfl, (HP.below (by kernel_rfl))⟩
  ·have g26p := of_decide_eq_false g26
   refine H.v 27 (.int .i64 n) fun a H => ?_
   refine H.v 28 (.string (bstr l)) fun a H => ?_
   refine H.v 29 (.int .i64 ((l.length : Nat) : Int)) fun a H => ?_
   refine H.v 30 (.int .i64 ((e : Nat) : Int)) fun a H => ?_
   refine H.valE 31 (.int .i64 (IntKind.i64.wrap (((l.length : Nat) : Int) - ((e : Nat) : Int)))) (.int .i64 (((l.length : Nat) : Int) - ((e : Nat) : Int))) (by kernel_rfl) (by kernel_rfl) ((by rw [wrap_ini64 _ (by omega)])) fun a H => ?_
   refine H.v 32 (.bool (decide (n > (((l.length : Nat) : Int) - ((e : Nat) : Int))))) fun a H => ?_
   refine H.v 33 (.bool (decide (n > (((l.length : Nat) : Int) - ((e : Nat) : Int))))) fun a H => ?_
   refine wpList_nil ?_
   have H := H.keep (L' := [(33, (.bool (decide (n > (((l.length : Nat) : Int) - ((e : Nat) : Int)))))), (18, (.bool false)), (17, (.int .i64 0)), (9, (.int .i64 0)), (8, (.int .i64 ((e : Nat) : Int))), (7, (.int .i64 n)), (16, (.int .i64 0)), (15, (.int .i64 ((e : Nat) : Int))), (14, (.int .i64 n)), (10, (.tuple #[(.int .i64 n), (.int .i64 ((e : Nat) : Int)), (.int .i64 0)])), (13, (.tuple #[(.int .i64 n), (.int .i64 ((e : Nat) : Int)), (.int .i64 0)])), (12, (.int .i64 ((k : Nat) : Int))), (11, (.string (bstr l))), (6, (.int .i64 0)), (5, (.int .i64 0)), (4, (.string (bstr ([])))), (0, (.string (bstr l))), (1, (.int .i64 ((k : Nat) : Int)))]) (by kernel_rfl)
   refine then_normal ?_
   refine w_if H rfl (fun g33 => ?_) (fun g33 => ?_)
   ·have g33p := of_decide_eq_true g33
    refine wp_seq (w_region ?_)
    refine H.v 4 (.string (bstr ([]))) fun a H => ?_
    refine H.v 5 (.int .i64 0) fun a H => ?_
    refine H.v 6 (.int .i64 10) fun a H => ?_
    refine wpList_nil (then_normal (wp_ret (then_ret ?_)))
    refine H.ret3 (fn := Tryd.f69) Tryd.results69 (RV.tmp_ (v := (.string (bstr ([])))) (by kernel_rfl)) (RV.tmp_ (v := (.int .i64 0)) (by kernel_rfl)) (RV.tmp_ (v := (.int .i64 10)) (by kernel_rfl)) ?_
    exact ⟨by unfold rdStr; rw [hR]; simp only; rw [if_pos (by omega)]; rfl, (HP.below (by kernel_rfl))⟩
   ·have g33p := of_decide_eq_false g33
    refine wp_skip (then_normal (wp_seq ?_))
    obtain ⟨m, rfl⟩ : ∃ m : Nat, n = m := ⟨n.toNat, by omega⟩
    refine w_region ?_
    refine H.v 34 (.string (bstr l)) fun a H => ?_
    refine H.v 35 (.int .i64 ((e : Nat) : Int)) fun a H => ?_
    refine H.v 36 (.int .i64 ((e : Nat) : Int)) fun a H => ?_
    refine H.v 37 (.int .i64 ((m : Nat) : Int)) fun a H => ?_
    refine H.valE 38 (.int .i64 (IntKind.i64.wrap (((e : Nat) : Int) + ((m : Nat) : Int)))) (.int .i64 ((e + m : Nat) : Int)) (by kernel_rfl) (by kernel_rfl) ((congrArg (Value.int .i64) (by rw [wrap_ini64 _ (by omega)]; omega))) fun a H => ?_
    refine H.u 39 (.string (bstr ((l.drop e).take ((e + m) - e)))) (ex_sslice (k := .i64) (kk := .i64) (l := l) (i := ((e : Nat) : Int)) (j := ((e + m : Nat) : Int)) (a := e) (b := (e + m)) (by kernel_rfl) (by kernel_rfl) (by kernel_rfl) (by kernel_rfl) (by omega) (by omega) (by omega) (by omega)) fun a H => ?_
    refine H.v 40 (.int .i64 ((e : Nat) : Int)) fun a H => ?_
    refine H.v 41 (.int .i64 ((m : Nat) : Int)) fun a H => ?_
    refine H.valE 42 (.int .i64 (IntKind.i64.wrap (((e : Nat) : Int) + ((m : Nat) : Int)))) (.int .i64 ((e + m : Nat) : Int)) (by kernel_rfl) (by kernel_rfl) ((congrArg (Value.int .i64) (by rw [wrap_ini64 _ (by omega)]; omega))) fun a H => ?_
    refine H.v 4 (.string (bstr ((l.drop e).take ((e + m) - e)))) fun a H => ?_
    refine H.v 5 (.int .i64 ((e + m : Nat) : Int)) fun a H => ?_
    refine H.v 6 (.int .i64 0) fun a H => ?_
    refine wpList_nil (then_normal (wp_ret ?_))
    refine H.ret3 (fn := Tryd.f69) Tryd.results69 (RV.tmp_ (v := (.string (bstr ((l.drop e).take ((e + m) - e))))) (by kernel_rfl)) (RV.tmp_ (v := (.int .i64 ((e + m : Nat) : Int))) (by kernel_rfl)) (RV.tmp_ (v := (.int .i64 0)) (by kernel_rfl)) ?_
    exact ⟨by unfold rdStr; rw [hR]; simp only; rw [if_neg (by omega)]; simp only [Int.toNat_natCast, Nat.add_sub_cancel_left, str3], (HP.below (by kernel_rfl))⟩
theorem rstr_any (l : List UInt8) (k : Nat) (w : World) (hl : l.length ≤ 1000000) (hk : k ≤ l.length) :
  Calls Tryd.prog 69 #[.string (bstr l), .int .i64 ((k : Nat) : Int)] w fun e w' => e = .returned (str3 (rdStr l k)) ∧ Below w.heap.size w w' := by
 cases hR : rdInt l k with
 | none => exact rstr_none l k w hl hk hR
 | some p => exact rstr_some l k w hl hk p.1 p.2 hR

end Go.Proofs.YtgdjpaeclicdfaaDoor
