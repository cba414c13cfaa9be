/- Contracts of the checksums. -/
import Derived.Test.YtgdjpaeclicdfaaDoorTrC
import Derived.Test.YtgdjpaeclicdfaaDoorSymS
namespace Go.Proofs.YtgdjpaeclicdfaaDoor
open Go.ChangeShapes Go.WideShapes Go.ChangeAt Go.RowKit
set_option linter.unusedVariables false
set_option linter.unusedSimpArgs false

def rateCells : List Int := [24000, 1001, 24, 0, 24, 1, 24, 0, 25, 1, 25, 0, 30000, 1001, 30, 2, 30, 1, 30, 0, 50, 1, 50, 0, 60000, 1001, 60, 4, 60, 1, 60, 0]
/-- The program's tables as they lie in memory. -/
structure Laid (w : World) : Prop where
 tab : ∀ i, i < 16 → w.cell? ⟨1, 0 + i * 1, none⟩ = some (.int .u32 ((crcTab.getD i 0 : Nat) : Int))
 rates : ∀ i, i < 32 → w.cell? ⟨0, i, none⟩ = some (.int .i64 (rateCells.getD i 0))
theorem Laid.below {w w' : World} (h : Laid w) (hb : Below w.heap.size w w') : Laid w' :=
 ⟨fun i hi => (hb.cell (p := ⟨1, 0 + i * 1, none⟩) (World.block_lt_of_cell? w _ (h.tab i hi))).trans (h.tab i hi), fun i hi => (hb.cell (p := ⟨0, i, none⟩) (World.block_lt_of_cell? w _ (h.rates i hi))).trans (h.rates i hi)⟩
theorem take_byte {l : List UInt8} {j : Nat} (h : j < l.length) : l.take (j + 1) = l.take j ++ [l.getD j 0] := by
 rw [List.take_add_one, List.getElem?_eq_getElem h]
 simp [List.getD, List.getElem?_eq_getElem h]
theorem crcTab_lt (i : Nat) : crcTab.getD i 0 < 4294967296 := by
 by_cases h : i < 16
 ·have : ∀ i, i < 16 → crcTab.getD i 0 < 4294967296 := by decide
  exact this i h
 ·rw [show crcTab.getD i 0 = 0 from by simp [List.getD, crcTab, List.getElem?_eq_none (show [0, 274646895, 549293790, 820201905, 1098587580, 1361435347, 1640403810, 1905808397, 2197175160, 2460548119, 2722870694, 2987750089, 3280807620, 3553878443, 3811616794, 4084100981].length ≤ i by simp; omega)]]
  omega
theorem crcBits_succ (i r : Nat) : crcBits (i + 1) r = crcBit (crcBits i r) := crcBits_add i 1 r
set_option maxRecDepth 100000 in
set_option maxHeartbeats 4000000 in
theorem sum_any (l : List UInt8) (w : World) (hL : Laid w) (hl : l.length ≤ 9000000000000000000) :
  Calls Tryd.prog 77 #[.string (bstr l)] w fun e w' => e = .returned (.int .i64 ((sumP l : Nat) : Int)) ∧ Below w.heap.size w w' := by
 have HP := Hp.start w
 refine w_enter 34 [(0, (.string (bstr l)))] Tryd.func77 rfl Tryd.ntmps77 (by kernel_rfl) (by kernel_rfl) fun a H => ?_
 refine wp_seq (w_region ?_)
 refine H.v 2 (.int .i64 0) fun a H => ?_
 refine wpList_nil (then_normal (wp_seq (w_region ?_)))
 refine H.v 3 (.int .u32 4294967295) fun a H => ?_
 refine wpList_nil (then_normal (wp_seq (wp_seq (w_region ?_))))
 refine H.v 4 (.int .i64 0) fun a H => ?_
 refine wpList_nil (then_normal (wp_block ?_))
 refine w_loop (fun mm a wv => ∃ (j : Nat), ∃ (r : Nat), l.length - j = mm ∧ Sl 34 [(4, (.int .i64 ((j : Nat) : Int))), (3, (.int .u32 ((r : Nat) : Int))), (0, (.string (bstr l))), (2, (.int .i64 0))] a ∧ Hp w wv [] [] ∧ (j ≤ l.length) ∧ (r < 4294967296) ∧ (r = crcRun 4294967295 (l.take j))) (l.length - 0) ?_ ?_
 ·exact ⟨0, 4294967295, (by omega), H.keep (by kernel_rfl), HP, by omega, by omega, rfl⟩
 rintro mm a w_1 ⟨j, r, hmeas, H, HP, hj, hr, hrun⟩
 refine wp_seq (wp_seq (w_region ?_))
 refine H.v 5 (.int .i64 ((j : Nat) : Int)) fun a H => ?_
 refine H.v 6 (.string (bstr l)) fun a H => ?_
 refine H.v 7 (.int .i64 ((l.length : Nat) : Int)) fun a H => ?_
 refine H.v 8 (.bool (decide (((j : Nat) : Int) < ((l.length : Nat) : Int)))) fun a H => ?_
 refine wpList_nil (then_normal ?_)
 refine w_if H rfl (fun g8 => ?_) (fun g8 => ?_)
 ·have g8p := of_decide_eq_true g8
  refine wp_skip (then_normal (wp_seq (wp_block (wp_seq ?_))))
  have hj2 : j < l.length := by omega
  have hb := byte_lt (l.getD j 0)
  refine w_region ?_
  refine H.v 11 (.int .u32 ((r : Nat) : Int)) fun a H => ?_
  refine H.v 12 (.string (bstr l)) fun a H => ?_
  refine H.v 13 (.int .i64 ((j : Nat) : Int)) fun a H => ?_
  refine H.u 14 (.int .u8 (((l.getD j 0).toNat : Nat) : Int)) (ex_sindex (k := .i64) (l := l) (i := ((j : Nat) : Int)) (m := j) (by kernel_rfl) (by kernel_rfl) (by kernel_rfl) (by omega) (by omega)) fun a H => ?_
  refine H.valE 15 (.int .u32 (IntKind.u32.wrap (((l.getD j 0).toNat : Nat) : Int))) (.int .u32 (((l.getD j 0).toNat : Nat) : Int)) (by kernel_rfl) (by kernel_rfl) ((by rw [wrap_inu32 _ (by omega)])) fun a H => ?_
  refine H.valE 16 (.int .u32 (bits .xor .u32 ((r : Nat) : Int) (((l.getD j 0).toNat : Nat) : Int))) (.int .u32 ((r ^^^ ((l.getD j 0).toNat) : Nat) : Int)) (by kernel_rfl) (by kernel_rfl) ((congrArg (Value.int .u32) (bits_xor_u32 (a := r) (b := ((l.getD j 0).toNat)) (by omega) (by omega)))) fun a H => ?_
  refine H.v 3 (.int .u32 ((r ^^^ ((l.getD j 0).toNat) : Nat) : Int)) fun a H => ?_
  refine wpList_nil ?_
  obtain ⟨r1, hr1⟩ : ∃ r1, r ^^^ (l.getD j 0).toNat = r1 := ⟨_, rfl⟩
  have hr1l : r1 < 4294967296 := by rw [← hr1]; exact Nat.xor_lt_two_pow (n := 32) (by omega) (by omega)
  rw [hr1] at H
  have H := H.keep (L' := [(3, (.int .u32 ((r1 : Nat) : Int))), (15, (.int .u32 (((l.getD j 0).toNat : Nat) : Int))), (14, (.int .u8 (((l.getD j 0).toNat : Nat) : Int))), (13, (.int .i64 ((j : Nat) : Int))), (12, (.string (bstr l))), (11, (.int .u32 ((r : Nat) : Int))), (8, (.bool (decide (((j : Nat) : Int) < ((l.length : Nat) : Int))))), (7, (.int .i64 ((l.length : Nat) : Int))), (6, (.string (bstr l))), (5, (.int .i64 ((j : Nat) : Int))), (4, (.int .i64 ((j : Nat) : Int))), (0, (.string (bstr l))), (2, (.int .i64 0))]) (by kernel_rfl)
  refine then_normal (wp_seq ?_)
  have hm6 : r1 % 16 < 16 := Nat.mod_lt _ (by omega)
  have hmask6 : r1 &&& 15 = r1 % 16 := Nat.and_two_pow_sub_one_eq_mod r1 4
  have htb6 := crcTab_lt (r1 % 16)
  refine w_region ?_
  refine H.v 17 (.int .u32 ((r1 : Nat) : Int)) fun a H => ?_
  refine H.valE 18 (.int .u32 (((r1 : Nat) : Int).fdiv (2 ^ 4))) (.int .u32 ((r1 / 2 ^ 4 : Nat) : Int)) (by kernel_rfl) (by kernel_rfl) ((congrArg (Value.int .u32) (shr_nat (a := r1) (c := 4)))) fun a H => ?_
  refine H.v 19 (.int .u32 ((r1 : Nat) : Int)) fun a H => ?_
  refine H.valE 20 (.int .u32 (bits .and .u32 ((r1 : Nat) : Int) 15)) (.int .u32 ((r1 % 16 : Nat) : Int)) (by kernel_rfl) (by kernel_rfl) ((congrArg (Value.int .u32) ((bits_and_u32 (a := r1) (b := 15) (by omega) (by omega)).trans (congrArg _ hmask6)))) fun a H => ?_
  refine H.u 21 (.pointer (some ⟨1, 0 + r1 % 16 * 1, none⟩)) (ex_aindex (e := 128) (b := 1) (off := 0) (n := 16) (m := r1 % 16) (k := 1) (ik := .u32) (by kernel_rfl) (by kernel_rfl) rfl hm6 (by kernel_rfl) (by kernel_rfl)) fun a H => ?_
  refine H.u 22 (.int .u32 ((crcTab.getD (r1 % 16) 0 : Nat) : Int)) (ex_load1 (by kernel_rfl) (by kernel_rfl) ((hL.below (HP.below (by kernel_rfl))).tab _ hm6)) fun a H => ?_
  refine H.valE 23 (.int .u32 (bits .xor .u32 ((r1 / 2 ^ 4 : Nat) : Int) ((crcTab.getD (r1 % 16) 0 : Nat) : Int))) (.int .u32 (((r1 / 2 ^ 4) ^^^ (crcTab.getD (r1 % 16) 0) : Nat) : Int)) (by kernel_rfl) (by kernel_rfl) ((congrArg (Value.int .u32) (bits_xor_u32 (a := (r1 / 2 ^ 4)) (b := (crcTab.getD (r1 % 16) 0)) (by omega) (by omega)))) fun a H => ?_
  refine H.v 3 (.int .u32 (((r1 / 2 ^ 4) ^^^ (crcTab.getD (r1 % 16) 0) : Nat) : Int)) fun a H => ?_
  refine wpList_nil ?_
  obtain ⟨r2, hr2⟩ : ∃ r2, crcNib r1 = r2 := ⟨_, rfl⟩
  have hr2l : r2 < 4294967296 := by rw [← hr2]; exact crcNib_lt hr1l
  have hq2 : r1 / 2 ^ 4 ^^^ crcTab.getD (r1 % 16) 0 = r2 := hr2
  rw [hq2] at H
  have H := H.keep (L' := [(3, (.int .u32 ((r2 : Nat) : Int))), (4, (.int .i64 ((j : Nat) : Int))), (0, (.string (bstr l))), (2, (.int .i64 0))]) (by kernel_rfl)
  refine then_normal ?_
  have hm7 : r2 % 16 < 16 := Nat.mod_lt _ (by omega)
  have hmask7 : r2 &&& 15 = r2 % 16 := Nat.and_two_pow_sub_one_eq_mod r2 4
  have htb7 := crcTab_lt (r2 % 16)
  refine w_region ?_
  refine H.v 24 (.int .u32 ((r2 : Nat) : Int)) fun a H => ?_
  refine H.valE 25 (.int .u32 (((r2 : Nat) : Int).fdiv (2 ^ 4))) (.int .u32 ((r2 / 2 ^ 4 : Nat) : Int)) (by kernel_rfl) (by kernel_rfl) ((congrArg (Value.int .u32) (shr_nat (a := r2) (c := 4)))) fun a H => ?_
  refine H.v 26 (.int .u32 ((r2 : Nat) : Int)) fun a H => ?_
  refine H.valE 27 (.int .u32 (bits .and .u32 ((r2 : Nat) : Int) 15)) (.int .u32 ((r2 % 16 : Nat) : Int)) (by kernel_rfl) (by kernel_rfl) ((congrArg (Value.int .u32) ((bits_and_u32 (a := r2) (b := 15) (by omega) (by omega)).trans (congrArg _ hmask7)))) fun a H => ?_
  refine H.u 28 (.pointer (some ⟨1, 0 + r2 % 16 * 1, none⟩)) (ex_aindex (e := 128) (b := 1) (off := 0) (n := 16) (m := r2 % 16) (k := 1) (ik := .u32) (by kernel_rfl) (by kernel_rfl) rfl hm7 (by kernel_rfl) (by kernel_rfl)) fun a H => ?_
  refine H.u 29 (.int .u32 ((crcTab.getD (r2 % 16) 0 : Nat) : Int)) (ex_load1 (by kernel_rfl) (by kernel_rfl) ((hL.below (HP.below (by kernel_rfl))).tab _ hm7)) fun a H => ?_
  refine H.valE 30 (.int .u32 (bits .xor .u32 ((r2 / 2 ^ 4 : Nat) : Int) ((crcTab.getD (r2 % 16) 0 : Nat) : Int))) (.int .u32 (((r2 / 2 ^ 4) ^^^ (crcTab.getD (r2 % 16) 0) : Nat) : Int)) (by kernel_rfl) (by kernel_rfl) ((congrArg (Value.int .u32) (bits_xor_u32 (a := (r2 / 2 ^ 4)) (b := (crcTab.getD (r2 % 16) 0)) (by omega) (by omega)))) fun a H => ?_
  refine H.v 3 (.int .u32 (((r2 / 2 ^ 4) ^^^ (crcTab.getD (r2 % 16) 0) : Nat) : Int)) fun a H => ?_
  refine wpList_nil ?_
  have hn2 : r2 / 2 ^ 4 ^^^ crcTab.getD (r2 % 16) 0 = crcNib (crcNib (r ^^^ (l.getD j 0).toNat)) := by rw [hr1, hr2]; rfl
  refine inb_normal (then_normal (w_region ?_))
  refine H.v 9 (.int .i64 ((j : Nat) : Int)) fun a H => ?_
  refine H.valE 10 (.int .i64 (IntKind.i64.wrap (((j : Nat) : Int) + 1))) (.int .i64 (((j : Nat) : Int) + 1)) (by kernel_rfl) (by kernel_rfl) ((by rw [wrap_ini64 _ (by omega)])) fun a H => ?_
  refine H.v 4 (.int .i64 (((j : Nat) : Int) + 1)) fun a H => ?_
  refine wpList_nil (then_normal ?_)
  have H := H.as 4 (.int .i64 ((j + 1 : Nat) : Int)) rfl rfl
  have H := H.as 3 (.int .u32 ((crcByte r (l.getD j 0) : Nat) : Int)) rfl (by rw [crcByte_nib]; exact congrArg (fun n : Nat => Value.int .u32 (n : Int)) hn2)
  refine ⟨_, ?_, j + 1, crcByte r (l.getD j 0), rfl, H.keep (by kernel_rfl), HP, by omega, crcByte_lt _ hr, by rw [take_byte hj2, crcRun_snoc, ← hrun]⟩
  omega
 ·have g8p := of_decide_eq_false g8
  refine wp_exit (then_exit (then_exit ?_))
  refine w_exit_here ?_
  refine then_normal (wp_seq ?_)
  have hfin := Nat.xor_lt_two_pow (n := 32) (x := 4294967295) (y := r) (by omega) (by omega)
  refine w_region ?_
  refine H.v 31 (.int .u32 ((r : Nat) : Int)) fun a H => ?_
  refine H.valE 32 (.int .u32 (bits .xor .u32 4294967295 ((r : Nat) : Int))) (.int .u32 ((4294967295 ^^^ r : Nat) : Int)) (by kernel_rfl) (by kernel_rfl) ((congrArg (Value.int .u32) (bits_xor_u32 (a := 4294967295) (b := r) (by omega) (by omega)))) fun a H => ?_
  refine H.valE 33 (.int .i64 (IntKind.i64.wrap ((4294967295 ^^^ r : Nat) : Int))) (.int .i64 ((4294967295 ^^^ r : Nat) : Int)) (by kernel_rfl) (by kernel_rfl) ((by rw [wrap_ini64 _ (by omega)])) fun a H => ?_
  refine H.v 2 (.int .i64 ((4294967295 ^^^ r : Nat) : Int)) fun a H => ?_
  refine wpList_nil (then_normal (wp_ret ?_))
  refine H.ret1 (fn := Tryd.f77) Tryd.results77 (RV.tmp_ (v := (.int .i64 ((4294967295 ^^^ r : Nat) : Int))) (by kernel_rfl)) ?_
  exact ⟨by rw [hrun, List.take_of_length_le (by omega)]; rfl, (HP.below (by kernel_rfl))⟩
set_option maxRecDepth 100000 in
set_option maxHeartbeats 4000000 in
theorem rsum_any (l : List UInt8) (w : World) (hl : l.length ≤ 9000000000000000000) :
  Calls Tryd.prog 60 #[.string (bstr l)] w fun e w' => e = .returned (.int .i64 ((sumP l : Nat) : Int)) ∧ Below w.heap.size w w' := by
 have HP := Hp.start w
 refine w_enter 34 [(0, (.string (bstr l)))] Tryd.func60 rfl Tryd.ntmps60 (by kernel_rfl) (by kernel_rfl) fun a H => ?_
 refine wp_seq (w_region ?_)
 refine H.v 2 (.int .i64 0) fun a H => ?_
 refine wpList_nil (then_normal (wp_seq (w_region ?_)))
 refine H.v 3 (.int .u32 4294967295) fun a H => ?_
 refine wpList_nil (then_normal (wp_seq (wp_seq (w_region ?_))))
 refine H.v 4 (.int .i64 0) fun a H => ?_
 refine wpList_nil (then_normal (wp_block ?_))
 refine w_loop (fun mm a wv => ∃ (j : Nat), ∃ (r : Nat), l.length - j = mm ∧ Sl 34 [(4, (.int .i64 ((j : Nat) : Int))), (3, (.int .u32 ((r : Nat) : Int))), (0, (.string (bstr l))), (2, (.int .i64 0))] a ∧ Hp w wv [] [] ∧ (j ≤ l.length) ∧ (r < 4294967296) ∧ (r = crcRun 4294967295 (l.take j))) (l.length - 0) ?_ ?_
 ·exact ⟨0, 4294967295, (by omega), H.keep (by kernel_rfl), HP, by omega, by omega, rfl⟩
 rintro mm a w_1 ⟨j, r, hmeas, H, HP, hj, hr, hrun⟩
 refine wp_seq (wp_seq (w_region ?_))
 refine H.v 7 (.int .i64 ((j : Nat) : Int)) fun a H => ?_
 refine H.v 8 (.string (bstr l)) fun a H => ?_
 refine H.v 9 (.int .i64 ((l.length : Nat) : Int)) fun a H => ?_
 refine H.v 10 (.bool (decide (((j : Nat) : Int) < ((l.length : Nat) : Int)))) fun a H => ?_
 refine wpList_nil (then_normal ?_)
 refine w_if H rfl (fun g10 => ?_) (fun g10 => ?_)
 ·have g10p := of_decide_eq_true g10
  refine wp_skip (then_normal (wp_seq (wp_block (wp_seq ?_))))
  have hj2 : j < l.length := by omega
  have hb := byte_lt (l.getD j 0)
  refine w_region ?_
  refine H.v 13 (.int .u32 ((r : Nat) : Int)) fun a H => ?_
  refine H.v 14 (.string (bstr l)) fun a H => ?_
  refine H.v 15 (.int .i64 ((j : Nat) : Int)) fun a H => ?_
  refine H.u 16 (.int .u8 (((l.getD j 0).toNat : Nat) : Int)) (ex_sindex (k := .i64) (l := l) (i := ((j : Nat) : Int)) (m := j) (by kernel_rfl) (by kernel_rfl) (by kernel_rfl) (by omega) (by omega)) fun a H => ?_
  refine H.valE 17 (.int .u32 (IntKind.u32.wrap (((l.getD j 0).toNat : Nat) : Int))) (.int .u32 (((l.getD j 0).toNat : Nat) : Int)) (by kernel_rfl) (by kernel_rfl) ((by rw [wrap_inu32 _ (by omega)])) fun a H => ?_
  refine H.valE 18 (.int .u32 (bits .xor .u32 ((r : Nat) : Int) (((l.getD j 0).toNat : Nat) : Int))) (.int .u32 ((r ^^^ ((l.getD j 0).toNat) : Nat) : Int)) (by kernel_rfl) (by kernel_rfl) ((congrArg (Value.int .u32) (bits_xor_u32 (a := r) (b := ((l.getD j 0).toNat)) (by omega) (by omega)))) fun a H => ?_
  refine H.v 3 (.int .u32 ((r ^^^ ((l.getD j 0).toNat) : Nat) : Int)) fun a H => ?_
  refine wpList_nil (then_normal (wp_seq (w_region ?_)))
  refine H.v 5 (.int .i64 0) fun a H => ?_
  refine wpList_nil (then_normal (wp_block ?_))
  refine w_loop (fun mm a wv => ∃ (i : Nat), ∃ (s : Nat), 8 - i = mm ∧ Sl 34 [(5, (.int .i64 ((i : Nat) : Int))), (3, (.int .u32 ((s : Nat) : Int))), (4, (.int .i64 ((j : Nat) : Int))), (0, (.string (bstr l))), (2, (.int .i64 0))] a ∧ Hp w wv [] [] ∧ (i ≤ 8) ∧ (s < 4294967296) ∧ (s = crcBits i (r ^^^ (l.getD j 0).toNat))) (8 - 0) ?_ ?_
  ·exact ⟨0, r ^^^ (l.getD j 0).toNat, (by omega), H.keep (by kernel_rfl), HP, by omega, Nat.xor_lt_two_pow (n := 32) (by omega) (by omega), rfl⟩
  rintro mm a w_2 ⟨i, s, hmeas, H, HP, hi, hs, hsr⟩
  refine wp_seq (wp_seq (w_region ?_))
  refine H.v 19 (.int .i64 ((i : Nat) : Int)) fun a H => ?_
  refine H.v 20 (.bool (decide (((i : Nat) : Int) < 8))) fun a H => ?_
  refine wpList_nil (then_normal ?_)
  refine w_if H rfl (fun g20 => ?_) (fun g20 => ?_)
  ·have g20p := of_decide_eq_true g20
   refine wp_skip (then_normal (wp_seq (wp_block (wp_seq (w_region ?_)))))
   refine H.v 23 (.int .u32 ((s : Nat) : Int)) fun a H => ?_
   refine H.valE 24 (.int .u32 (((s : Nat) : Int).tmod 2)) (.int .u32 (((s : Nat) : Int) % 2)) (by kernel_rfl) (by kernel_rfl) ((by rw [tmod_nn _ _ (by omega)])) fun a H => ?_
   refine H.v 25 (.bool ((((s : Nat) : Int) % 2) == 1)) fun a H => ?_
   refine H.v 6 (.bool ((((s : Nat) : Int) % 2) == 1)) fun a H => ?_
   refine wpList_nil (then_normal (wp_seq (w_region ?_)))
   refine H.v 26 (.int .u32 ((s : Nat) : Int)) fun a H => ?_
   refine H.valE 27 (.int .u32 (IntKind.u32.wrap (((s : Nat) : Int).tdiv 2))) (.int .u32 ((s / 2 : Nat) : Int)) (by kernel_rfl) (by kernel_rfl) ((by rw [tdiv_nn _ _ (by omega), wrap_inu32 _ (by omega)]; congr 1)) fun a H => ?_
   refine H.v 3 (.int .u32 ((s / 2 : Nat) : Int)) fun a H => ?_
   refine wpList_nil (then_normal (wp_seq (w_region ?_)))
   refine H.v 28 (.bool ((((s : Nat) : Int) % 2) == 1)) fun a H => ?_
   refine wpList_nil (then_normal ?_)
   refine w_if H rfl (fun g28 => ?_) (fun g28 => ?_)
   ·have g28p := eq_of_beq g28
    refine w_region ?_
    refine H.v 29 (.int .u32 ((s / 2 : Nat) : Int)) fun a H => ?_
    refine H.valE 30 (.int .u32 (bits .xor .u32 ((s / 2 : Nat) : Int) 2197175160)) (.int .u32 (((s / 2) ^^^ 2197175160 : Nat) : Int)) (by kernel_rfl) (by kernel_rfl) ((congrArg (Value.int .u32) (bits_xor_u32 (a := (s / 2)) (b := 2197175160) (by omega) (by omega)))) fun a H => ?_
    refine H.v 3 (.int .u32 (((s / 2) ^^^ 2197175160 : Nat) : Int)) fun a H => ?_
    refine wpList_nil (inb_normal (then_normal (w_region ?_)))
    refine H.v 21 (.int .i64 ((i : Nat) : Int)) fun a H => ?_
    refine H.valE 22 (.int .i64 (IntKind.i64.wrap (((i : Nat) : Int) + 1))) (.int .i64 (((i : Nat) : Int) + 1)) (by kernel_rfl) (by kernel_rfl) ((by rw [wrap_ini64 _ (by omega)])) fun a H => ?_
    refine H.v 5 (.int .i64 (((i : Nat) : Int) + 1)) fun a H => ?_
    refine wpList_nil (then_normal ?_)
    have H := H.as 5 (.int .i64 ((i + 1 : Nat) : Int)) rfl rfl
    refine ⟨_, ?_, i + 1, s / 2 ^^^ 2197175160, rfl, H.keep (by kernel_rfl), HP, by omega, by have := crcBit_lt hs; unfold crcBit at this; rw [if_pos (by omega)] at this; exact this, by rw [crcBits_succ, ← hsr]; unfold crcBit; rw [if_pos (by omega)]⟩
    omega
   ·have g28p := ne_of_beq_false g28
    refine wp_skip (inb_normal (then_normal (w_region ?_)))
    refine H.v 21 (.int .i64 ((i : Nat) : Int)) fun a H => ?_
    refine H.valE 22 (.int .i64 (IntKind.i64.wrap (((i : Nat) : Int) + 1))) (.int .i64 (((i : Nat) : Int) + 1)) (by kernel_rfl) (by kernel_rfl) ((by rw [wrap_ini64 _ (by omega)])) fun a H => ?_
    refine H.v 5 (.int .i64 (((i : Nat) : Int) + 1)) fun a H => ?_
    refine wpList_nil (then_normal ?_)
    have H := H.as 5 (.int .i64 ((i + 1 : Nat) : Int)) rfl rfl
    have H := H.as 3 (.int .u32 ((s / 2 : Nat) : Int)) rfl (congrArg (Value.int .u32) (by omega))
    refine ⟨_, ?_, i + 1, s / 2, rfl, H.keep (by kernel_rfl), HP, by omega, by have := crcBit_lt hs; unfold crcBit at this; rw [if_neg (by omega)] at this; exact this, by rw [crcBits_succ, ← hsr]; unfold crcBit; rw [if_neg (by omega)]⟩
    omega
  ·have g20p := of_decide_eq_false g20
   refine wp_exit (then_exit (then_exit ?_))
   refine w_exit_here ?_
   refine inb_normal (then_normal (w_region ?_))
   refine H.v 11 (.int .i64 ((j : Nat) : Int)) fun a H => ?_
   refine H.valE 12 (.int .i64 (IntKind.i64.wrap (((j : Nat) : Int) + 1))) (.int .i64 (((j : Nat) : Int) + 1)) (by kernel_rfl) (by kernel_rfl) ((by rw [wrap_ini64 _ (by omega)])) fun a H => ?_
   refine H.v 4 (.int .i64 (((j : Nat) : Int) + 1)) fun a H => ?_
   refine wpList_nil (then_normal ?_)
   have H := H.as 4 (.int .i64 ((j + 1 : Nat) : Int)) rfl rfl
   refine ⟨_, ?_, j + 1, s, rfl, H.keep (by kernel_rfl), HP, by omega, hs, by rw [take_byte hj2, crcRun_snoc, ← hrun]; have hi8 : i = 8 := (by omega); rw [hi8] at hsr; exact hsr⟩
   omega
 ·have g10p := of_decide_eq_false g10
  refine wp_exit (then_exit (then_exit ?_))
  refine w_exit_here ?_
  refine then_normal (wp_seq ?_)
  have hfin := Nat.xor_lt_two_pow (n := 32) (x := 4294967295) (y := r) (by omega) (by omega)
  refine w_region ?_
  refine H.v 31 (.int .u32 ((r : Nat) : Int)) fun a H => ?_
  refine H.valE 32 (.int .u32 (bits .xor .u32 4294967295 ((r : Nat) : Int))) (.int .u32 ((4294967295 ^^^ r : Nat) : Int)) (by kernel_rfl) (by kernel_rfl) ((congrArg (Value.int .u32) (bits_xor_u32 (a := 4294967295) (b := r) (by omega) (by omega)))) fun a H => ?_
  refine H.valE 33 (.int .i64 (IntKind.i64.wrap ((4294967295 ^^^ r : Nat) : Int))) (.int .i64 ((4294967295 ^^^ r : Nat) : Int)) (by kernel_rfl) (by kernel_rfl) ((by rw [wrap_ini64 _ (by omega)])) fun a H => ?_
  refine H.v 2 (.int .i64 ((4294967295 ^^^ r : Nat) : Int)) fun a H => ?_
  refine wpList_nil (then_normal (wp_ret ?_))
  refine H.ret1 (fn := Tryd.f60) Tryd.results60 (RV.tmp_ (v := (.int .i64 ((4294967295 ^^^ r : Nat) : Int))) (by kernel_rfl)) ?_
  exact ⟨by rw [hrun, List.take_of_length_le (by omega)]; rfl, (HP.below (by kernel_rfl))⟩
end Go.Proofs.YtgdjpaeclicdfaaDoor
