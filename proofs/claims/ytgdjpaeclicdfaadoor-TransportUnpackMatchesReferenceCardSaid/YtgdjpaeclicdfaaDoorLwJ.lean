/- TransportUnpackMatchesReference: the walk. -/
import Derived.Test.YtgdjpaeclicdfaaDoorRfG
namespace Go.Proofs.YtgdjpaeclicdfaaDoor
open Go.ChangeShapes Go.WideShapes Go.ChangeAt Go.RowKit
set_option linter.unusedVariables false
set_option linter.unusedSimpArgs false

set_option maxRecDepth 100000 in
set_option maxHeartbeats 4000000 in
theorem umr_none (c : Int) (s t : List UInt8) (w : World) (hL : Laid w) (hc : -9223372036854775808 ≤ c ∧ c ≤ 9223372036854775807) (hX : unpackP (rateP c).1 (rateP c).2 (s.take 2000) = none) :
  Calls Tryd.prog 4 #[.int .i64 c, .string (bstr s), .string (bstr t)] w fun e w' => e = .returned (.bool true) ∧ Below w.heap.size w w' := by
 have HP := Hp.start w
 have hs2 : (s.take 2000).length ≤ 1000000 := by rw [List.length_take]; omega
 have ht2 : (t.take 2000).length ≤ 1000000 := by rw [List.length_take]; omega
 refine w_enter 57 [(0, (.int .i64 c)), (1, (.string (bstr s))), (2, (.string (bstr t)))] Tryd.func4 rfl Tryd.ntmps4 (by kernel_rfl) (by kernel_rfl) fun a H => ?_
 refine wp_seq (w_region ?_)
 refine H.v 6 (.bool false) fun a H => ?_
 refine wpList_nil (then_normal (wp_seq (w_region ?_)))
 refine H.call 12 (by kernel_rfl) (Eq.trans (by kernel_rfl : _ = (callFunc 13 #[]).run Tryd.prog w) (Tryd.call13 _ _)) (sane_any w (hL.below (HP.below (by kernel_rfl)))) ?_
 rintro e w_1 ⟨rfl, hb⟩
 refine ⟨_, rfl, ?_⟩
 intro a H
 have HP := HP.next hb
 refine H.v 7 (.bool true) fun a H => ?_
 refine wpList_nil (then_normal (wp_seq (w_region ?_)))
 refine H.v 13 (.string (bstr s)) fun a H => ?_
 refine H.v 14 (.string (bstr s)) fun a H => ?_
 refine H.v 15 (.int .i64 ((s.length : Nat) : Int)) fun a H => ?_
 refine H.valE 16 (.int .i64 (if (2000 : Int) < ((s.length : Nat) : Int) then 2000 else ((s.length : Nat) : Int))) (.int .i64 ((min s.length 2000 : Nat) : Int)) (by kernel_rfl) (by kernel_rfl) ((congrArg (Value.int .i64) (by split <;> omega))) fun a H => ?_
 refine H.valE 17 (.string (bstr (s.take (min s.length 2000)))) (.string (bstr (s.take 2000))) (by kernel_rfl) (ex_ssliceH (kk := .i64) (l := s) (j := ((min s.length 2000 : Nat) : Int)) (b := min s.length 2000) (by kernel_rfl) (by kernel_rfl) (by kernel_rfl) (by omega) (by omega)) ((congrArg (fun x => Value.string (bstr x)) (take_min _ _))) fun a H => ?_
 refine H.v 1 (.string (bstr (s.take 2000))) fun a H => ?_
 refine wpList_nil (then_normal (wp_seq (w_region ?_)))
 refine H.v 18 (.string (bstr t)) fun a H => ?_
 refine H.v 19 (.string (bstr t)) fun a H => ?_
 refine H.v 20 (.int .i64 ((t.length : Nat) : Int)) fun a H => ?_
 refine H.valE 21 (.int .i64 (if (2000 : Int) < ((t.length : Nat) : Int) then 2000 else ((t.length : Nat) : Int))) (.int .i64 ((min t.length 2000 : Nat) : Int)) (by kernel_rfl) (by kernel_rfl) ((congrArg (Value.int .i64) (by split <;> omega))) fun a H => ?_
 refine H.valE 22 (.string (bstr (t.take (min t.length 2000)))) (.string (bstr (t.take 2000))) (by kernel_rfl) (ex_ssliceH (kk := .i64) (l := t) (j := ((min t.length 2000 : Nat) : Int)) (b := min t.length 2000) (by kernel_rfl) (by kernel_rfl) (by kernel_rfl) (by omega) (by omega)) ((congrArg (fun x => Value.string (bstr x)) (take_min _ _))) fun a H => ?_
 refine H.v 2 (.string (bstr (t.take 2000))) fun a H => ?_
 refine wpList_nil (then_normal (wp_seq (w_region ?_)))
 refine H.v 24 (.int .i64 c) fun a H => ?_
 refine H.call 25 (by kernel_rfl) (Eq.trans (by kernel_rfl : _ = (callFunc 14 #[(.int .i64 c)]).run Tryd.prog w_1) (Tryd.call14 _ _)) (rate_any c w_1 hc) ?_
 rintro e w_2 ⟨rfl, hb⟩
 refine ⟨_, rfl, ?_⟩
 intro a H
 have HP := HP.next hb
 refine H.v 26 (.string (bstr (s.take 2000))) fun a H => ?_
 refine H.call 27 (by kernel_rfl) (Eq.trans (by kernel_rfl : _ = (callFunc 22 #[(.agg #[(.int .i64 ((rateP c).1)), (.int .i64 ((rateP c).2))]), (.string (bstr (s.take 2000)))]).run Tryd.prog w_2) (Tryd.call22 _ _)) ((by have hh := unpack_any (rateP c).1 (rateP c).2 (s.take 2000) w_2 (hL.below (HP.below (by kernel_rfl))) hs2; rw [hX] at hh; exact hh)) ?_
 rintro e w_3 ⟨rfl, hb⟩
 refine ⟨_, rfl, ?_⟩
 intro a H
 have HP := HP.next hb
 refine H.v 23 (.tuple #[(.agg #[(.int .i64 0), (.int .i64 0), (.int .i64 0), (.int .i64 0), (.int .i64 0), (.bool false), (.string (bstr ([]))), (.int .i64 0), (.int .i64 0), (.string (bstr ([]))), (.int .i64 0), (.int .i64 0), (.slice none 0 0)]), (.int .i64 180)]) fun a H => ?_
 refine H.v 28 (.agg #[(.int .i64 0), (.int .i64 0), (.int .i64 0), (.int .i64 0), (.int .i64 0), (.bool false), (.string (bstr ([]))), (.int .i64 0), (.int .i64 0), (.string (bstr ([]))), (.int .i64 0), (.int .i64 0), (.slice none 0 0)]) fun a H => ?_
 refine H.v 29 (.int .i64 180) fun a H => ?_
 refine H.alloc HP 8 (fun b => (.pointer (some ⟨b, 0, none⟩))) 28 [(.int .i64 0), (.int .i64 0), (.int .i64 0), (.int .i64 0), (.int .i64 0), (.bool false), (.string (bstr ([]))), (.int .i64 0), (.int .i64 0), (.string (bstr ([]))), (.int .i64 0), (.int .i64 0), (.slice none 0 0)] (by kernel_rfl) (fun w => by kernel_rfl) fun b_4 w_5 a H HP => ?_
 refine H.store HP 0 b_4 0 13 28 _ true (.agg #[(.int .i64 0), (.int .i64 0), (.int .i64 0), (.int .i64 0), (.int .i64 0), (.bool false), (.string (bstr ([]))), (.int .i64 0), (.int .i64 0), (.string (bstr ([]))), (.int .i64 0), (.int .i64 0), (.slice none 0 0)]) [bx b_4 28 [(.int .i64 0), (.int .i64 0), (.int .i64 0), (.int .i64 0), (.int .i64 0), (.bool false), (.string (bstr ([]))), (.int .i64 0), (.int .i64 0), (.string (bstr ([]))), (.int .i64 0), (.int .i64 0), (.slice none 0 0)] true] (by kernel_rfl) (by kernel_rfl) (by kernel_rfl) rfl (by kernel_rfl) (by kernel_rfl) (by kernel_rfl) (by kernel_rfl) (by kernel_rfl) fun w_6 a H HP => ?_
 refine H.v 9 (.int .i64 180) fun a H => ?_
 refine wpList_nil (then_normal (wp_seq (w_region ?_)))
 refine H.v 31 (.int .i64 c) fun a H => ?_
 refine H.call 32 (by kernel_rfl) (Eq.trans (by kernel_rfl : _ = (callFunc 14 #[(.int .i64 c)]).run Tryd.prog w_6) (Tryd.call14 _ _)) (rate_any c w_6 hc) ?_
 rintro e w_7 ⟨rfl, hb⟩
 refine ⟨_, rfl, ?_⟩
 intro a H
 have HP := HP.next hb
 refine H.v 33 (.string (bstr (s.take 2000))) fun a H => ?_
 refine H.call 34 (by kernel_rfl) (Eq.trans (by kernel_rfl : _ = (callFunc 23 #[(.agg #[(.int .i64 ((rateP c).1)), (.int .i64 ((rateP c).2))]), (.string (bstr (s.take 2000)))]).run Tryd.prog w_7) (Tryd.call23 _ _)) ((by have hh := runpack_any (rateP c).1 (rateP c).2 (s.take 2000) w_7 hs2; rw [hX] at hh; exact hh)) ?_
 rintro e w_8 ⟨rfl, hb⟩
 refine ⟨_, rfl, ?_⟩
 intro a H
 have HP := HP.next hb
 refine H.v 30 (.tuple #[(.agg #[(.int .i64 0), (.int .i64 0), (.int .i64 0), (.int .i64 0), (.int .i64 0), (.bool false), (.string (bstr ([]))), (.int .i64 0), (.int .i64 0), (.string (bstr ([]))), (.int .i64 0), (.int .i64 0), (.slice none 0 0)]), (.int .i64 180)]) fun a H => ?_
 refine H.v 35 (.agg #[(.int .i64 0), (.int .i64 0), (.int .i64 0), (.int .i64 0), (.int .i64 0), (.bool false), (.string (bstr ([]))), (.int .i64 0), (.int .i64 0), (.string (bstr ([]))), (.int .i64 0), (.int .i64 0), (.slice none 0 0)]) fun a H => ?_
 refine H.v 36 (.int .i64 180) fun a H => ?_
 refine H.alloc HP 10 (fun b => (.pointer (some ⟨b, 0, none⟩))) 28 [(.int .i64 0), (.int .i64 0), (.int .i64 0), (.int .i64 0), (.int .i64 0), (.bool false), (.string (bstr ([]))), (.int .i64 0), (.int .i64 0), (.string (bstr ([]))), (.int .i64 0), (.int .i64 0), (.slice none 0 0)] (by kernel_rfl) (fun w => by kernel_rfl) fun b_9 w_10 a H HP => ?_
 refine H.store HP 0 b_9 0 13 28 _ true (.agg #[(.int .i64 0), (.int .i64 0), (.int .i64 0), (.int .i64 0), (.int .i64 0), (.bool false), (.string (bstr ([]))), (.int .i64 0), (.int .i64 0), (.string (bstr ([]))), (.int .i64 0), (.int .i64 0), (.slice none 0 0)]) [bx b_9 28 [(.int .i64 0), (.int .i64 0), (.int .i64 0), (.int .i64 0), (.int .i64 0), (.bool false), (.string (bstr ([]))), (.int .i64 0), (.int .i64 0), (.string (bstr ([]))), (.int .i64 0), (.int .i64 0), (.slice none 0 0)] true, bx b_4 28 [(.int .i64 0), (.int .i64 0), (.int .i64 0), (.int .i64 0), (.int .i64 0), (.bool false), (.string (bstr ([]))), (.int .i64 0), (.int .i64 0), (.string (bstr ([]))), (.int .i64 0), (.int .i64 0), (.slice none 0 0)] true] (by kernel_rfl) (by kernel_rfl) (by kernel_rfl) rfl (by kernel_rfl) (by kernel_rfl) (by kernel_rfl) (by kernel_rfl) (by kernel_rfl) fun w_11 a H HP => ?_
 refine H.v 11 (.int .i64 180) fun a H => ?_
 refine wpList_nil (then_normal (wp_seq (w_region ?_)))
 refine H.v 37 (.bool true) fun a H => ?_
 refine H.v 38 (.bool true) fun a H => ?_
 refine H.v 39 (.int .i64 180) fun a H => ?_
 refine H.v 40 (.int .i64 180) fun a H => ?_
 refine H.v 41 (.bool true) fun a H => ?_
 refine H.v 42 (.bool true) fun a H => ?_
 refine H.v 43 (.bool true) fun a H => ?_
 refine H.u 44 (.agg #[(.int .i64 0), (.int .i64 0), (.int .i64 0), (.int .i64 0), (.int .i64 0), (.bool false), (.string (bstr ([]))), (.int .i64 0), (.int .i64 0), (.string (bstr ([]))), (.int .i64 0), (.int .i64 0), (.slice none 0 0)]) (ex_loadN (vs := [(.int .i64 0), (.int .i64 0), (.int .i64 0), (.int .i64 0), (.int .i64 0), (.bool false), (.string (bstr ([]))), (.int .i64 0), (.int .i64 0), (.string (bstr ([]))), (.int .i64 0), (.int .i64 0), (.slice none 0 0)]) (by kernel_rfl) (by kernel_rfl) (by kernel_rfl) rfl (HP.cells 1 rfl 0 13 (by kernel_rfl))) fun a H => ?_
 refine H.u 45 (.agg #[(.int .i64 0), (.int .i64 0), (.int .i64 0), (.int .i64 0), (.int .i64 0), (.bool false), (.string (bstr ([]))), (.int .i64 0), (.int .i64 0), (.string (bstr ([]))), (.int .i64 0), (.int .i64 0), (.slice none 0 0)]) (ex_loadN (vs := [(.int .i64 0), (.int .i64 0), (.int .i64 0), (.int .i64 0), (.int .i64 0), (.bool false), (.string (bstr ([]))), (.int .i64 0), (.int .i64 0), (.string (bstr ([]))), (.int .i64 0), (.int .i64 0), (.slice none 0 0)]) (by kernel_rfl) (by kernel_rfl) (by kernel_rfl) rfl (HP.cells 0 rfl 0 13 (by kernel_rfl))) fun a H => ?_
 refine H.call 46 (by kernel_rfl) (Eq.trans (by kernel_rfl : _ = (callFunc 21 #[(.agg #[(.int .i64 0), (.int .i64 0), (.int .i64 0), (.int .i64 0), (.int .i64 0), (.bool false), (.string (bstr ([]))), (.int .i64 0), (.int .i64 0), (.string (bstr ([]))), (.int .i64 0), (.int .i64 0), (.slice none 0 0)]), (.agg #[(.int .i64 0), (.int .i64 0), (.int .i64 0), (.int .i64 0), (.int .i64 0), (.bool false), (.string (bstr ([]))), (.int .i64 0), (.int .i64 0), (.string (bstr ([]))), (.int .i64 0), (.int .i64 0), (.slice none 0 0)])]).run Tryd.prog w_11) (Tryd.call21 _ _)) ((by have hh := rusame_any zeroU zeroU w_11 (IsAlts.nil _ _) (IsAlts.nil _ _) (Nat.zero_le _); rw [show sameU zeroU zeroU = true from by kernel_rfl] at hh; exact hh)) ?_
 rintro e w_12 ⟨rfl, hb⟩
 refine ⟨_, rfl, ?_⟩
 intro a H
 have HP := HP.next hb
 refine H.v 47 (.bool true) fun a H => ?_
 refine H.v 48 (.bool true) fun a H => ?_
 refine H.v 49 (.string (bstr (s.take 2000))) fun a H => ?_
 refine H.v 50 (.string (bstr (t.take 2000))) fun a H => ?_
 refine H.call 51 (by kernel_rfl) (Eq.trans (by kernel_rfl : _ = (callFunc 24 #[(.string (bstr (s.take 2000))), (.string (bstr (t.take 2000)))]).run Tryd.prog w_12) (Tryd.call24 _ _)) (follows_any (s.take 2000) (t.take 2000) w_12 hs2 ht2) ?_
 rintro e w_13 ⟨rfl, hb⟩
 refine ⟨_, rfl, ?_⟩
 intro a H
 have HP := HP.next hb
 refine H.v 52 (.string (bstr (s.take 2000))) fun a H => ?_
 refine H.v 53 (.string (bstr (t.take 2000))) fun a H => ?_
 refine H.call 54 (by kernel_rfl) (Eq.trans (by kernel_rfl : _ = (callFunc 25 #[(.string (bstr (s.take 2000))), (.string (bstr (t.take 2000)))]).run Tryd.prog w_13) (Tryd.call25 _ _)) (rfollows_any (s.take 2000) (t.take 2000) w_13 hs2 ht2) ?_
 rintro e w_14 ⟨rfl, hb⟩
 refine ⟨_, rfl, ?_⟩
 intro a H
 have HP := HP.next hb
 refine H.valE 55 (.bool ((followsP (s.take 2000) (t.take 2000)) == (followsP (s.take 2000) (t.take 2000)))) (.bool true) (by kernel_rfl) (by kernel_rfl) ((congrArg Value.bool (beq_self_eq_true _))) fun a H => ?_
 refine H.v 56 (.bool true) fun a H => ?_
 refine H.v 6 (.bool true) fun a H => ?_
 refine wpList_nil ?_
 have H := H.keep (L' := [(6, (.bool true)), (11, (.int .i64 180)), (10, (.pointer (some ⟨b_9, 0, none⟩))), (36, (.int .i64 180)), (35, (.agg #[(.int .i64 0), (.int .i64 0), (.int .i64 0), (.int .i64 0), (.int .i64 0), (.bool false), (.string (bstr ([]))), (.int .i64 0), (.int .i64 0), (.string (bstr ([]))), (.int .i64 0), (.int .i64 0), (.slice none 0 0)])), (30, (.tuple #[(.agg #[(.int .i64 0), (.int .i64 0), (.int .i64 0), (.int .i64 0), (.int .i64 0), (.bool false), (.string (bstr ([]))), (.int .i64 0), (.int .i64 0), (.string (bstr ([]))), (.int .i64 0), (.int .i64 0), (.slice none 0 0)]), (.int .i64 180)])), (34, (.tuple #[(.agg #[(.int .i64 0), (.int .i64 0), (.int .i64 0), (.int .i64 0), (.int .i64 0), (.bool false), (.string (bstr ([]))), (.int .i64 0), (.int .i64 0), (.string (bstr ([]))), (.int .i64 0), (.int .i64 0), (.slice none 0 0)]), (.int .i64 180)])), (33, (.string (bstr (s.take 2000)))), (32, (.agg #[(.int .i64 ((rateP c).1)), (.int .i64 ((rateP c).2))])), (31, (.int .i64 c)), (9, (.int .i64 180)), (8, (.pointer (some ⟨b_4, 0, none⟩))), (29, (.int .i64 180)), (28, (.agg #[(.int .i64 0), (.int .i64 0), (.int .i64 0), (.int .i64 0), (.int .i64 0), (.bool false), (.string (bstr ([]))), (.int .i64 0), (.int .i64 0), (.string (bstr ([]))), (.int .i64 0), (.int .i64 0), (.slice none 0 0)])), (23, (.tuple #[(.agg #[(.int .i64 0), (.int .i64 0), (.int .i64 0), (.int .i64 0), (.int .i64 0), (.bool false), (.string (bstr ([]))), (.int .i64 0), (.int .i64 0), (.string (bstr ([]))), (.int .i64 0), (.int .i64 0), (.slice none 0 0)]), (.int .i64 180)])), (27, (.tuple #[(.agg #[(.int .i64 0), (.int .i64 0), (.int .i64 0), (.int .i64 0), (.int .i64 0), (.bool false), (.string (bstr ([]))), (.int .i64 0), (.int .i64 0), (.string (bstr ([]))), (.int .i64 0), (.int .i64 0), (.slice none 0 0)]), (.int .i64 180)])), (26, (.string (bstr (s.take 2000)))), (25, (.agg #[(.int .i64 ((rateP c).1)), (.int .i64 ((rateP c).2))])), (24, (.int .i64 c)), (2, (.string (bstr (t.take 2000)))), (22, (.string (bstr (t.take 2000)))), (21, (.int .i64 ((min t.length 2000 : Nat) : Int))), (20, (.int .i64 ((t.length : Nat) : Int))), (19, (.string (bstr t))), (18, (.string (bstr t))), (1, (.string (bstr (s.take 2000)))), (17, (.string (bstr (s.take 2000)))), (16, (.int .i64 ((min s.length 2000 : Nat) : Int))), (15, (.int .i64 ((s.length : Nat) : Int))), (14, (.string (bstr s))), (13, (.string (bstr s))), (7, (.bool true)), (12, (.bool true)), (0, (.int .i64 c))]) (by kernel_rfl)
 refine then_normal (wp_ret ?_)
 refine H.ret1 (fn := Tryd.f4) Tryd.results4 (RV.tmp_ (v := (.bool true)) (by kernel_rfl)) ?_
 exact ⟨rfl, (HP.below (by kernel_rfl))⟩
set_option maxRecDepth 100000 in
set_option maxHeartbeats 4000000 in
theorem umr_some (c : Int) (s t : List UInt8) (w : World) (hL : Laid w) (hc : -9223372036854775808 ≤ c ∧ c ≤ 9223372036854775807) (U : Un) (hX : unpackP (rateP c).1 (rateP c).2 (s.take 2000) = some U) :
  Calls Tryd.prog 4 #[.int .i64 c, .string (bstr s), .string (bstr t)] w fun e w' => e = .returned (.bool true) ∧ Below w.heap.size w w' := by
 have HP := Hp.start w
 have hs2 : (s.take 2000).length ≤ 1000000 := by rw [List.length_take]; omega
 have ht2 : (t.take 2000).length ≤ 1000000 := by rw [List.length_take]; omega
 refine w_enter 57 [(0, (.int .i64 c)), (1, (.string (bstr s))), (2, (.string (bstr t)))] Tryd.func4 rfl Tryd.ntmps4 (by kernel_rfl) (by kernel_rfl) fun a H => ?_
 refine wp_seq (w_region ?_)
 refine H.v 6 (.bool false) fun a H => ?_
 refine wpList_nil (then_normal (wp_seq (w_region ?_)))
 refine H.call 12 (by kernel_rfl) (Eq.trans (by kernel_rfl : _ = (callFunc 13 #[]).run Tryd.prog w) (Tryd.call13 _ _)) (sane_any w (hL.below (HP.below (by kernel_rfl)))) ?_
 rintro e w_1 ⟨rfl, hb⟩
 refine ⟨_, rfl, ?_⟩
 intro a H
 have HP := HP.next hb
 refine H.v 7 (.bool true) fun a H => ?_
 refine wpList_nil (then_normal (wp_seq (w_region ?_)))
 refine H.v 13 (.string (bstr s)) fun a H => ?_
 refine H.v 14 (.string (bstr s)) fun a H => ?_
 refine H.v 15 (.int .i64 ((s.length : Nat) : Int)) fun a H => ?_
 refine H.valE 16 (.int .i64 (if (2000 : Int) < ((s.length : Nat) : Int) then 2000 else ((s.length : Nat) : Int))) (.int .i64 ((min s.length 2000 : Nat) : Int)) (by kernel_rfl) (by kernel_rfl) ((congrArg (Value.int .i64) (by split <;> omega))) fun a H => ?_
 refine H.valE 17 (.string (bstr (s.take (min s.length 2000)))) (.string (bstr (s.take 2000))) (by kernel_rfl) (ex_ssliceH (kk := .i64) (l := s) (j := ((min s.length 2000 : Nat) : Int)) (b := min s.length 2000) (by kernel_rfl) (by kernel_rfl) (by kernel_rfl) (by omega) (by omega)) ((congrArg (fun x => Value.string (bstr x)) (take_min _ _))) fun a H => ?_
 refine H.v 1 (.string (bstr (s.take 2000))) fun a H => ?_
 refine wpList_nil (then_normal (wp_seq (w_region ?_)))
 refine H.v 18 (.string (bstr t)) fun a H => ?_
 refine H.v 19 (.string (bstr t)) fun a H => ?_
 refine H.v 20 (.int .i64 ((t.length : Nat) : Int)) fun a H => ?_
 refine H.valE 21 (.int .i64 (if (2000 : Int) < ((t.length : Nat) : Int) then 2000 else ((t.length : Nat) : Int))) (.int .i64 ((min t.length 2000 : Nat) : Int)) (by kernel_rfl) (by kernel_rfl) ((congrArg (Value.int .i64) (by split <;> omega))) fun a H => ?_
 refine H.valE 22 (.string (bstr (t.take (min t.length 2000)))) (.string (bstr (t.take 2000))) (by kernel_rfl) (ex_ssliceH (kk := .i64) (l := t) (j := ((min t.length 2000 : Nat) : Int)) (b := min t.length 2000) (by kernel_rfl) (by kernel_rfl) (by kernel_rfl) (by omega) (by omega)) ((congrArg (fun x => Value.string (bstr x)) (take_min _ _))) fun a H => ?_
 refine H.v 2 (.string (bstr (t.take 2000))) fun a H => ?_
 refine wpList_nil (then_normal (wp_seq (w_region ?_)))
 refine H.v 24 (.int .i64 c) fun a H => ?_
 refine H.call 25 (by kernel_rfl) (Eq.trans (by kernel_rfl : _ = (callFunc 14 #[(.int .i64 c)]).run Tryd.prog w_1) (Tryd.call14 _ _)) (rate_any c w_1 hc) ?_
 rintro e w_2 ⟨rfl, hb⟩
 refine ⟨_, rfl, ?_⟩
 intro a H
 have HP := HP.next hb
 refine H.v 26 (.string (bstr (s.take 2000))) fun a H => ?_
 refine H.call 27 (by kernel_rfl) (Eq.trans (by kernel_rfl : _ = (callFunc 22 #[(.agg #[(.int .i64 ((rateP c).1)), (.int .i64 ((rateP c).2))]), (.string (bstr (s.take 2000)))]).run Tryd.prog w_2) (Tryd.call22 _ _)) ((by have hh := unpack_any (rateP c).1 (rateP c).2 (s.take 2000) w_2 (hL.below (HP.below (by kernel_rfl))) hs2; rw [hX] at hh; exact hh)) ?_
 rintro e w_3 ⟨Bx, cx, rfl, halx, hcax, hcbx, hccx, hfrx, hb⟩
 refine ⟨_, rfl, ?_⟩
 intro a H
 have HP := (HP.next hb).keepF ⟨rowFp U.al.length Bx, fun w => IsAlts w Bx U.al.length U.al⟩ halx (fun _ _ h hk hs => ⟨h.1, h.2.keep hk hs⟩) (fun j hj => row_sep HP halx.2 hfrx hj)
 refine H.v 23 (.tuple #[(.agg (ua U Bx cx)), (.int .i64 0)]) fun a H => ?_
 refine H.v 28 (.agg (ua U Bx cx)) fun a H => ?_
 refine H.v 29 (.int .i64 0) fun a H => ?_
 refine H.alloc HP 8 (fun b => (.pointer (some ⟨b, 0, none⟩))) 28 [(.int .i64 0), (.int .i64 0), (.int .i64 0), (.int .i64 0), (.int .i64 0), (.bool false), (.string (bstr ([]))), (.int .i64 0), (.int .i64 0), (.string (bstr ([]))), (.int .i64 0), (.int .i64 0), (.slice none 0 0)] (by kernel_rfl) (fun w => by kernel_rfl) fun b_4 w_5 a H HP => ?_
 refine H.store HP 0 b_4 0 13 28 _ true (.agg (ua U Bx cx)) [bx b_4 28 (ul U Bx cx) true] (by kernel_rfl) (by kernel_rfl) (by kernel_rfl) rfl (by kernel_rfl) (by kernel_rfl) (by kernel_rfl) (by kernel_rfl) (by kernel_rfl) fun w_6 a H HP => ?_
 refine H.v 9 (.int .i64 0) fun a H => ?_
 refine wpList_nil (then_normal (wp_seq (w_region ?_)))
 refine H.v 31 (.int .i64 c) fun a H => ?_
 refine H.call 32 (by kernel_rfl) (Eq.trans (by kernel_rfl : _ = (callFunc 14 #[(.int .i64 c)]).run Tryd.prog w_6) (Tryd.call14 _ _)) (rate_any c w_6 hc) ?_
 rintro e w_7 ⟨rfl, hb⟩
 refine ⟨_, rfl, ?_⟩
 intro a H
 have HP := HP.next hb
 refine H.v 33 (.string (bstr (s.take 2000))) fun a H => ?_
 refine H.call 34 (by kernel_rfl) (Eq.trans (by kernel_rfl : _ = (callFunc 23 #[(.agg #[(.int .i64 ((rateP c).1)), (.int .i64 ((rateP c).2))]), (.string (bstr (s.take 2000)))]).run Tryd.prog w_7) (Tryd.call23 _ _)) ((by have hh := runpack_any (rateP c).1 (rateP c).2 (s.take 2000) w_7 hs2; rw [hX] at hh; exact hh)) ?_
 rintro e w_8 ⟨By, cy, rfl, haly, hcay, hcby, hccy, hfry, hb⟩
 refine ⟨_, rfl, ?_⟩
 intro a H
 have HP := (HP.next hb).keepF ⟨rowFp U.al.length By, fun w => IsAlts w By U.al.length U.al⟩ haly (fun _ _ h hk hs => ⟨h.1, h.2.keep hk hs⟩) (fun j hj => row_sep HP haly.2 hfry hj)
 refine H.v 30 (.tuple #[(.agg (ua U By cy)), (.int .i64 0)]) fun a H => ?_
 refine H.v 35 (.agg (ua U By cy)) fun a H => ?_
 refine H.v 36 (.int .i64 0) fun a H => ?_
 refine H.alloc HP 10 (fun b => (.pointer (some ⟨b, 0, none⟩))) 28 [(.int .i64 0), (.int .i64 0), (.int .i64 0), (.int .i64 0), (.int .i64 0), (.bool false), (.string (bstr ([]))), (.int .i64 0), (.int .i64 0), (.string (bstr ([]))), (.int .i64 0), (.int .i64 0), (.slice none 0 0)] (by kernel_rfl) (fun w => by kernel_rfl) fun b_9 w_10 a H HP => ?_
 refine H.store HP 0 b_9 0 13 28 _ true (.agg (ua U By cy)) [bx b_9 28 (ul U By cy) true, bx b_4 28 (ul U Bx cx) true] (by kernel_rfl) (by kernel_rfl) (by kernel_rfl) rfl (by kernel_rfl) (by kernel_rfl) (by kernel_rfl) (by kernel_rfl) (by kernel_rfl) fun w_11 a H HP => ?_
 refine H.v 11 (.int .i64 0) fun a H => ?_
 refine wpList_nil (then_normal (wp_seq (w_region ?_)))
 refine H.v 37 (.bool true) fun a H => ?_
 refine H.v 38 (.bool true) fun a H => ?_
 refine H.v 39 (.int .i64 0) fun a H => ?_
 refine H.v 40 (.int .i64 0) fun a H => ?_
 refine H.v 41 (.bool true) fun a H => ?_
 refine H.v 42 (.bool true) fun a H => ?_
 refine H.v 43 (.bool true) fun a H => ?_
 refine H.u 44 (.agg (ua U Bx cx)) (ex_loadN (vs := (ul U Bx cx)) (by kernel_rfl) (by kernel_rfl) (by kernel_rfl) rfl (HP.cells 1 rfl 0 13 (by kernel_rfl))) fun a H => ?_
 refine H.u 45 (.agg (ua U By cy)) (ex_loadN (vs := (ul U By cy)) (by kernel_rfl) (by kernel_rfl) (by kernel_rfl) rfl (HP.cells 0 rfl 0 13 (by kernel_rfl))) fun a H => ?_
 refine H.call 46 (by kernel_rfl) (Eq.trans (by kernel_rfl : _ = (callFunc 21 #[(.agg (ua U Bx cx)), (.agg (ua U By cy))]).run Tryd.prog w_11) (Tryd.call21 _ _)) ((by have hh := rusame_any ({ U with A := Bx, c := cx } : Un) ({ U with A := By, c := cy } : Un) w_11 (HP.fact 1 rfl) (HP.fact 0 rfl) (Nat.le_trans hcax hcbx); rw [(same_bare ({ U with A := Bx, c := cx } : Un) ({ U with A := By, c := cy } : Un)).2 rfl] at hh; exact hh)) ?_
 rintro e w_12 ⟨rfl, hb⟩
 refine ⟨_, rfl, ?_⟩
 intro a H
 have HP := HP.next hb
 refine H.v 47 (.bool true) fun a H => ?_
 refine H.v 48 (.bool true) fun a H => ?_
 refine H.v 49 (.string (bstr (s.take 2000))) fun a H => ?_
 refine H.v 50 (.string (bstr (t.take 2000))) fun a H => ?_
 refine H.call 51 (by kernel_rfl) (Eq.trans (by kernel_rfl : _ = (callFunc 24 #[(.string (bstr (s.take 2000))), (.string (bstr (t.take 2000)))]).run Tryd.prog w_12) (Tryd.call24 _ _)) (follows_any (s.take 2000) (t.take 2000) w_12 hs2 ht2) ?_
 rintro e w_13 ⟨rfl, hb⟩
 refine ⟨_, rfl, ?_⟩
 intro a H
 have HP := HP.next hb
 refine H.v 52 (.string (bstr (s.take 2000))) fun a H => ?_
 refine H.v 53 (.string (bstr (t.take 2000))) fun a H => ?_
 refine H.call 54 (by kernel_rfl) (Eq.trans (by kernel_rfl : _ = (callFunc 25 #[(.string (bstr (s.take 2000))), (.string (bstr (t.take 2000)))]).run Tryd.prog w_13) (Tryd.call25 _ _)) (rfollows_any (s.take 2000) (t.take 2000) w_13 hs2 ht2) ?_
 rintro e w_14 ⟨rfl, hb⟩
 refine ⟨_, rfl, ?_⟩
 intro a H
 have HP := HP.next hb
 refine H.valE 55 (.bool ((followsP (s.take 2000) (t.take 2000)) == (followsP (s.take 2000) (t.take 2000)))) (.bool true) (by kernel_rfl) (by kernel_rfl) ((congrArg Value.bool (beq_self_eq_true _))) fun a H => ?_
 refine H.v 56 (.bool true) fun a H => ?_
 refine H.v 6 (.bool true) fun a H => ?_
 refine wpList_nil ?_
 have H := H.keep (L' := [(6, (.bool true)), (11, (.int .i64 0)), (10, (.pointer (some ⟨b_9, 0, none⟩))), (36, (.int .i64 0)), (35, (.agg (ua U By cy))), (30, (.tuple #[(.agg (ua U By cy)), (.int .i64 0)])), (34, (.tuple #[(.agg (ua U By cy)), (.int .i64 0)])), (33, (.string (bstr (s.take 2000)))), (32, (.agg #[(.int .i64 ((rateP c).1)), (.int .i64 ((rateP c).2))])), (31, (.int .i64 c)), (9, (.int .i64 0)), (8, (.pointer (some ⟨b_4, 0, none⟩))), (29, (.int .i64 0)), (28, (.agg (ua U Bx cx))), (23, (.tuple #[(.agg (ua U Bx cx)), (.int .i64 0)])), (27, (.tuple #[(.agg (ua U Bx cx)), (.int .i64 0)])), (26, (.string (bstr (s.take 2000)))), (25, (.agg #[(.int .i64 ((rateP c).1)), (.int .i64 ((rateP c).2))])), (24, (.int .i64 c)), (2, (.string (bstr (t.take 2000)))), (22, (.string (bstr (t.take 2000)))), (21, (.int .i64 ((min t.length 2000 : Nat) : Int))), (20, (.int .i64 ((t.length : Nat) : Int))), (19, (.string (bstr t))), (18, (.string (bstr t))), (1, (.string (bstr (s.take 2000)))), (17, (.string (bstr (s.take 2000)))), (16, (.int .i64 ((min s.length 2000 : Nat) : Int))), (15, (.int .i64 ((s.length : Nat) : Int))), (14, (.string (bstr s))), (13, (.string (bstr s))), (7, (.bool true)), (12, (.bool true)), (0, (.int .i64 c))]) (by kernel_rfl)
 refine then_normal (wp_ret ?_)
 refine H.ret1 (fn := Tryd.f4) Tryd.results4 (RV.tmp_ (v := (.bool true)) (by kernel_rfl)) ?_
 exact ⟨rfl, (HP.below (by kernel_rfl))⟩
theorem umr_all (c : Int) (s t : List UInt8) (w : World) (hL : Laid w) (hc : -9223372036854775808 ≤ c ∧ c ≤ 9223372036854775807) :
  Calls Tryd.prog 4 #[.int .i64 c, .string (bstr s), .string (bstr t)] w fun e w' => e = .returned (.bool true) ∧ Below w.heap.size w w' := by
 cases hX : unpackP (rateP c).1 (rateP c).2 (s.take 2000) with
 | none => exact umr_none c s t w hL hc hX
 | some U => exact umr_some c s t w hL hc U hX
end Go.Proofs.YtgdjpaeclicdfaaDoor
