/- The statement PlanDecodedAgain: for every input the law returns true and leaves its arguments as they were. No condition. -/
import Derived.Test.YteeillphhiaopaaGreatDoorCards
import Derived.Test.YteeillphhiaopaaGreatDoorTie
import Derived.WalkKit
import Derived.ProofKit
import Derived.OpenShut
import Derived.ShutString
import Derived.ChangeOld
import Derived.Below
import Derived.SizedLaws
import Derived.SevenTiedAt
import Derived.Test.YteeillphhiaopaaGreatDoorZgf
namespace Go.Proofs.YteeillphhiaopaaGreatDoor
open Go.ChangeShapes Go.WideShapes Go.ChangeAt Go.RowKit
set_option linter.unusedVariables false
set_option linter.unusedSimpArgs false
theorem valL {s : List UInt8} {v : PlN} {p : Pln} (hd : decN s = (v, 0)) (h : p.nv = v) : validPl p = true := by
 have := (dec_sound (s := s) (by rw [hd])).2
 rw [hd] at this
 rw [validPl_nv, h]
 exact this
theorem encL {s : List UInt8} {v : PlN} {p : Pln} (hd : decN s = (v, 0)) (h : p.nv = v) : encV p = .tuple #[.string (bstr s), .int .i64 0] := by
 have h1 := (dec_sound (s := s) (by rw [hd])).1
 rw [hd] at h1
 rw [encV_some (valL hd h), numsP_nv, h]
 exact congrArg (fun x => Value.tuple #[.string (bstr x), .int .i64 0]) h1.symm
set_option maxRecDepth 100000 in
set_option maxHeartbeats 4000000 in
theorem again_ok (s : List UInt8) (v : PlN) (w : World) (a0 a1 : Addr) (hL : LaidP a0 a1 w) (hd : decN (s.take 5000) = (v, 0)) : Calls Tryz.prog 8 #[.string (bstr s)] w fun e w' => e = .returned (.bool true) ∧ Below w.heap.size w w' := by
 have HP := Hp.start w
 have hs5 : (s.take 5000).length ≤ 1000000 := by rw [tl_]; omega
 refine w_enter 54 [(0, (.string (bstr s)))] Tryz.func8 rfl Tryz.ntmps8 (by kernel_rfl) (by kernel_rfl) fun a H => ?_
 refine wp_seq (w_region ?_)
 refine H.v 2 (.bool false) fun a H => ?_
 refine wpList_nil (then_normal (wp_seq (w_region ?_)))
 refine H.call 8 (by kernel_rfl) (Eq.trans (by kernel_rfl : _ = (callFunc 12 #[]).run Tryz.prog w) (Tryz.call12 _ _)) (sane_any a0 a1 w (hL.below HP.bl)) ?_
 rintro e w_1 ⟨rfl, hb⟩
 refine ⟨_, rfl, ?_⟩
 intro a H
 have HP := HP.next hb
 refine H.v 3 (.bool true) fun a H => ?_
 refine wpList_nil (then_normal (wp_seq (w_region ?_)))
 refine H.v 9 (.string (bstr s)) fun a H => ?_
 refine H.v 10 (.string (bstr s)) fun a H => ?_
 refine H.v 11 (ii s.length) fun a H => ?_
 refine H.valE 12 (ii (if (5000 : Int) < (s.length : Int) then 5000 else (s.length : Int))) (ii ((min s.length 5000 : Nat) : Int)) (by kernel_rfl) (by kernel_rfl) ((congrArg (Value.int .i64) (by split <;> omega))) fun a H => ?_
 refine H.valE 13 (.string (bstr (s.take (min s.length 5000)))) (.string (bstr (s.take 5000))) (by kernel_rfl) (ex_ssliceH (kk := .i64) (l := s) (j := ((min s.length 5000 : Nat) : Int)) (b := min s.length 5000) (by kernel_rfl) (by kernel_rfl) (by kernel_rfl) (by omega) (by omega)) ((congrArg (fun x => Value.string (bstr x)) (take_min _ _))) fun a H => ?_
 refine H.v 0 (.string (bstr (s.take 5000))) fun a H => ?_
 refine wpList_nil (then_normal (wp_seq (w_region ?_)))
 refine H.v 15 (.string (bstr (s.take 5000))) fun a H => ?_
 refine H.call 16 (by kernel_rfl) (Eq.trans (by kernel_rfl : _ = (callFunc 27 #[(.string (bstr (s.take 5000)))]).run Tryz.prog w_1) (Tryz.call27 _ _)) ((by have hh := decode_any a0 a1 (s.take 5000) w_1 (hL.below HP.bl) hs5; unfold DecPost at hh; rw [hd] at hh; exact hh)) ?_
 rintro e w_2 ⟨d1, rfl, hnv_d1, hq_d1, hfr_d1, hb⟩
 refine ⟨_, rfl, ?_⟩
 intro a H
 have HP := HP.keepQ hb (by kernel_rfl) d1 hq_d1 (fun j hj => .inr (hfr_d1 j hj))
 refine H.v 14 (.tuple #[(plV d1), (ii 0)]) fun a H => ?_
 refine H.v 17 (plV d1) fun a H => ?_
 refine H.v 18 (ii 0) fun a H => ?_
 refine H.alloc HP 4 (fun b => (pt b 0)) 32 [(ii 0), (ii 0), (ii 0), (ii 0), (.slice none 0 0), (ii 0), (ii 0), (ii 0), (ii 0), (.slice none 0 0), (.slice none 0 0), (.slice none 0 0), (.slice none 0 0)] (by kernel_rfl) (fun w => by kernel_rfl) fun b_3 w_4 a H HP => ?_
 refine H.store HP 0 b_3 0 13 32 _ true (plV d1) [bx b_3 32 (plL d1) true] (by kernel_rfl) (by kernel_rfl) (by kernel_rfl) rfl (by kernel_rfl) (by kernel_rfl) (by kernel_rfl) (by kernel_rfl) (by kernel_rfl) fun w_5 a H HP => ?_
 refine H.v 5 (ii 0) fun a H => ?_
 refine wpList_nil (then_normal (wp_seq (wp_seq (w_region ?_))))
 refine H.v 19 (ii 0) fun a H => ?_
 refine H.v 20 (.bool false) fun a H => ?_
 refine wpList_nil (then_normal ?_)
 refine w_iff H rfl ?_
 refine wp_skip (then_normal (wp_seq (w_region ?_)))
 refine H.u 36 (plV d1) (ex_loadN (vs := (plL d1)) (by kernel_rfl) (by kernel_rfl) (by kernel_rfl) rfl (HP.cells 0 rfl 0 13 (by kernel_rfl))) fun a H => ?_
 refine H.call 37 (by kernel_rfl) (Eq.trans (by kernel_rfl : _ = (callFunc 25 #[(plV d1)]).run Tryz.prog w_5) (Tryz.call25 _ _)) ((by have hh := encode_any d1 w_5 (HP.fact 0 rfl : IsPln _ d1) (hL.below HP.bl).rates; rw [encL hd hnv_d1] at hh; exact hh)) ?_
 rintro e w_6 ⟨rfl, hb⟩
 refine ⟨_, rfl, ?_⟩
 intro a H
 have HP := HP.next hb
 refine H.v 35 (.tuple #[(.string (bstr (s.take 5000))), (ii 0)]) fun a H => ?_
 refine H.v 38 (.string (bstr (s.take 5000))) fun a H => ?_
 refine H.v 39 (ii 0) fun a H => ?_
 refine H.v 6 (.string (bstr (s.take 5000))) fun a H => ?_
 refine H.v 7 (ii 0) fun a H => ?_
 refine wpList_nil (then_normal (wp_seq (w_region ?_)))
 refine H.v 40 (.bool true) fun a H => ?_
 refine H.v 41 (.bool true) fun a H => ?_
 refine H.v 42 (.string (bstr (s.take 5000))) fun a H => ?_
 refine H.v 43 (.string (bstr (s.take 5000))) fun a H => ?_
 refine H.valE 44 (.bool ((bstr (s.take 5000)).toList == (bstr (s.take 5000)).toList)) (.bool true) (by kernel_rfl) (by kernel_rfl) ((congrArg Value.bool (beq_self_eq_true _))) fun a H => ?_
 refine H.v 45 (.bool true) fun a H => ?_
 refine H.v 46 (.bool true) fun a H => ?_
 refine H.v 47 (ii 0) fun a H => ?_
 refine H.v 48 (.bool true) fun a H => ?_
 refine H.v 49 (.bool true) fun a H => ?_
 refine H.v 50 (.bool true) fun a H => ?_
 refine H.u 51 (plV d1) (ex_loadN (vs := (plL d1)) (by kernel_rfl) (by kernel_rfl) (by kernel_rfl) rfl (HP.cells 0 rfl 0 13 (by kernel_rfl))) fun a H => ?_
 refine H.call 52 (by kernel_rfl) (Eq.trans (by kernel_rfl : _ = (callFunc 14 #[(plV d1)]).run Tryz.prog w_6) (Tryz.call14 _ _)) ((by have hh := valid_any d1 w_6 (HP.fact 0 rfl : IsPln _ d1) (hL.below HP.bl).rates; rw [valL hd hnv_d1] at hh; exact hh)) ?_
 rintro e w_7 ⟨rfl, hb⟩
 refine ⟨_, rfl, ?_⟩
 intro a H
 have HP := HP.next hb
 refine H.v 53 (.bool true) fun a H => ?_
 refine H.v 2 (.bool true) fun a H => ?_
 refine wpList_nil (then_normal (wp_ret ?_))
 refine H.ret1 (fn := Tryz.f8) Tryz.results8 (RV.tmp_ (v := (.bool true)) (by kernel_rfl)) ?_
 exact ⟨rfl, HP.bl⟩
set_option maxRecDepth 100000 in
set_option maxHeartbeats 4000000 in
theorem again_wire (s : List UInt8) (w : World) (a0 a1 : Addr) (hL : LaidP a0 a1 w) (hd : decN (s.take 5000) = (zeroN, 10)) : Calls Tryz.prog 8 #[.string (bstr s)] w fun e w' => e = .returned (.bool true) ∧ Below w.heap.size w w' := by
 have HP := Hp.start w
 have hs5 : (s.take 5000).length ≤ 1000000 := by rw [tl_]; omega
 refine w_enter 54 [(0, (.string (bstr s)))] Tryz.func8 rfl Tryz.ntmps8 (by kernel_rfl) (by kernel_rfl) fun a H => ?_
 refine wp_seq (w_region ?_)
 refine H.v 2 (.bool false) fun a H => ?_
 refine wpList_nil (then_normal (wp_seq (w_region ?_)))
 refine H.call 8 (by kernel_rfl) (Eq.trans (by kernel_rfl : _ = (callFunc 12 #[]).run Tryz.prog w) (Tryz.call12 _ _)) (sane_any a0 a1 w (hL.below HP.bl)) ?_
 rintro e w_1 ⟨rfl, hb⟩
 refine ⟨_, rfl, ?_⟩
 intro a H
 have HP := HP.next hb
 refine H.v 3 (.bool true) fun a H => ?_
 refine wpList_nil (then_normal (wp_seq (w_region ?_)))
 refine H.v 9 (.string (bstr s)) fun a H => ?_
 refine H.v 10 (.string (bstr s)) fun a H => ?_
 refine H.v 11 (ii s.length) fun a H => ?_
 refine H.valE 12 (ii (if (5000 : Int) < (s.length : Int) then 5000 else (s.length : Int))) (ii ((min s.length 5000 : Nat) : Int)) (by kernel_rfl) (by kernel_rfl) ((congrArg (Value.int .i64) (by split <;> omega))) fun a H => ?_
 refine H.valE 13 (.string (bstr (s.take (min s.length 5000)))) (.string (bstr (s.take 5000))) (by kernel_rfl) (ex_ssliceH (kk := .i64) (l := s) (j := ((min s.length 5000 : Nat) : Int)) (b := min s.length 5000) (by kernel_rfl) (by kernel_rfl) (by kernel_rfl) (by omega) (by omega)) ((congrArg (fun x => Value.string (bstr x)) (take_min _ _))) fun a H => ?_
 refine H.v 0 (.string (bstr (s.take 5000))) fun a H => ?_
 refine wpList_nil (then_normal (wp_seq (w_region ?_)))
 refine H.v 15 (.string (bstr (s.take 5000))) fun a H => ?_
 refine H.call 16 (by kernel_rfl) (Eq.trans (by kernel_rfl : _ = (callFunc 27 #[(.string (bstr (s.take 5000)))]).run Tryz.prog w_1) (Tryz.call27 _ _)) ((by have hh := decode_any a0 a1 (s.take 5000) w_1 (hL.below HP.bl) hs5; unfold DecPost at hh; rw [hd] at hh; exact hh)) ?_
 rintro e w_2 ⟨d1, rfl, hnv_d1, hq_d1, hfr_d1, hb⟩
 refine ⟨_, rfl, ?_⟩
 intro a H
 have HP := HP.keepQ hb (by kernel_rfl) d1 hq_d1 (fun j hj => .inr (hfr_d1 j hj))
 refine H.v 14 (.tuple #[(plV d1), (ii 10)]) fun a H => ?_
 refine H.v 17 (plV d1) fun a H => ?_
 refine H.v 18 (ii 10) fun a H => ?_
 refine H.alloc HP 4 (fun b => (pt b 0)) 32 [(ii 0), (ii 0), (ii 0), (ii 0), (.slice none 0 0), (ii 0), (ii 0), (ii 0), (ii 0), (.slice none 0 0), (.slice none 0 0), (.slice none 0 0), (.slice none 0 0)] (by kernel_rfl) (fun w => by kernel_rfl) fun b_3 w_4 a H HP => ?_
 refine H.store HP 0 b_3 0 13 32 _ true (plV d1) [bx b_3 32 (plL d1) true] (by kernel_rfl) (by kernel_rfl) (by kernel_rfl) rfl (by kernel_rfl) (by kernel_rfl) (by kernel_rfl) (by kernel_rfl) (by kernel_rfl) fun w_5 a H HP => ?_
 refine H.v 5 (ii 10) fun a H => ?_
 refine wpList_nil (then_normal (wp_seq (wp_seq (w_region ?_))))
 refine H.v 19 (ii 10) fun a H => ?_
 refine H.v 20 (.bool true) fun a H => ?_
 refine wpList_nil (then_normal ?_)
 refine w_ift H rfl ?_
 refine wp_seq (w_region ?_)
 refine H.v 21 (.bool true) fun a H => ?_
 refine H.v 22 (.bool true) fun a H => ?_
 refine H.v 23 (ii 10) fun a H => ?_
 refine H.v 24 (.bool true) fun a H => ?_
 refine H.v 25 (.bool true) fun a H => ?_
 iterate 2 refine H.sx rfl fun a H => ?_
 iterate 3 refine H.vx rfl (.bool true) fun a H => ?_
 refine H.u 31 (plV d1) (ex_loadN (vs := (plL d1)) (by kernel_rfl) (by kernel_rfl) (by kernel_rfl) rfl (HP.cells 0 rfl 0 13 (by kernel_rfl))) fun a H => ?_
 refine H.v 32 (.agg #[(ii 0), (ii 0), (ii 0), (ii 0), (.slice none 0 0), (ii 0), (ii 0), (ii 0), (ii 0), (.slice none 0 0), (.slice none 0 0), (.slice none 0 0), (.slice none 0 0)]) fun a H => ?_
 refine H.call 33 (by kernel_rfl) (Eq.trans (by kernel_rfl : _ = (callFunc 16 #[(plV d1), (.agg #[(ii 0), (ii 0), (ii 0), (ii 0), (.slice none 0 0), (ii 0), (ii 0), (ii 0), (ii 0), (.slice none 0 0), (.slice none 0 0), (.slice none 0 0), (.slice none 0 0)])]).run Tryz.prog w_5) (Tryz.call16 _ _)) ((by have hh := same_any d1 zP w_5 (HP.fact 0 rfl : IsPln _ d1) (isZ _); rw [decide_eq_true (show d1.nv = zP.nv from hnv_d1)] at hh; exact hh)) ?_
 rintro e w_6 ⟨rfl, hb⟩
 refine ⟨_, rfl, ?_⟩
 intro a H
 have HP := HP.next hb
 refine H.v 34 (.bool true) fun a H => ?_
 refine H.v 2 (.bool true) fun a H => ?_
 refine wpList_nil (then_normal (wp_ret (then_ret ?_)))
 refine H.ret1 (fn := Tryz.f8) Tryz.results8 (RV.tmp_ (v := (.bool true)) (by kernel_rfl)) ?_
 exact ⟨rfl, HP.bl⟩
set_option maxRecDepth 100000 in
set_option maxHeartbeats 4000000 in
theorem again_plan (s : List UInt8) (w : World) (a0 a1 : Addr) (hL : LaidP a0 a1 w) (hd : decN (s.take 5000) = (zeroN, 80)) : Calls Tryz.prog 8 #[.string (bstr s)] w fun e w' => e = .returned (.bool true) ∧ Below w.heap.size w w' := by
 have HP := Hp.start w
 have hs5 : (s.take 5000).length ≤ 1000000 := by rw [tl_]; omega
 refine w_enter 54 [(0, (.string (bstr s)))] Tryz.func8 rfl Tryz.ntmps8 (by kernel_rfl) (by kernel_rfl) fun a H => ?_
 refine wp_seq (w_region ?_)
 refine H.v 2 (.bool false) fun a H => ?_
 refine wpList_nil (then_normal (wp_seq (w_region ?_)))
 refine H.call 8 (by kernel_rfl) (Eq.trans (by kernel_rfl : _ = (callFunc 12 #[]).run Tryz.prog w) (Tryz.call12 _ _)) (sane_any a0 a1 w (hL.below HP.bl)) ?_
 rintro e w_1 ⟨rfl, hb⟩
 refine ⟨_, rfl, ?_⟩
 intro a H
 have HP := HP.next hb
 refine H.v 3 (.bool true) fun a H => ?_
 refine wpList_nil (then_normal (wp_seq (w_region ?_)))
 refine H.v 9 (.string (bstr s)) fun a H => ?_
 refine H.v 10 (.string (bstr s)) fun a H => ?_
 refine H.v 11 (ii s.length) fun a H => ?_
 refine H.valE 12 (ii (if (5000 : Int) < (s.length : Int) then 5000 else (s.length : Int))) (ii ((min s.length 5000 : Nat) : Int)) (by kernel_rfl) (by kernel_rfl) ((congrArg (Value.int .i64) (by split <;> omega))) fun a H => ?_
 refine H.valE 13 (.string (bstr (s.take (min s.length 5000)))) (.string (bstr (s.take 5000))) (by kernel_rfl) (ex_ssliceH (kk := .i64) (l := s) (j := ((min s.length 5000 : Nat) : Int)) (b := min s.length 5000) (by kernel_rfl) (by kernel_rfl) (by kernel_rfl) (by omega) (by omega)) ((congrArg (fun x => Value.string (bstr x)) (take_min _ _))) fun a H => ?_
 refine H.v 0 (.string (bstr (s.take 5000))) fun a H => ?_
 refine wpList_nil (then_normal (wp_seq (w_region ?_)))
 refine H.v 15 (.string (bstr (s.take 5000))) fun a H => ?_
 refine H.call 16 (by kernel_rfl) (Eq.trans (by kernel_rfl : _ = (callFunc 27 #[(.string (bstr (s.take 5000)))]).run Tryz.prog w_1) (Tryz.call27 _ _)) ((by have hh := decode_any a0 a1 (s.take 5000) w_1 (hL.below HP.bl) hs5; unfold DecPost at hh; rw [hd] at hh; exact hh)) ?_
 rintro e w_2 ⟨d1, rfl, hnv_d1, hq_d1, hfr_d1, hb⟩
 refine ⟨_, rfl, ?_⟩
 intro a H
 have HP := HP.keepQ hb (by kernel_rfl) d1 hq_d1 (fun j hj => .inr (hfr_d1 j hj))
 refine H.v 14 (.tuple #[(plV d1), (ii 80)]) fun a H => ?_
 refine H.v 17 (plV d1) fun a H => ?_
 refine H.v 18 (ii 80) fun a H => ?_
 refine H.alloc HP 4 (fun b => (pt b 0)) 32 [(ii 0), (ii 0), (ii 0), (ii 0), (.slice none 0 0), (ii 0), (ii 0), (ii 0), (ii 0), (.slice none 0 0), (.slice none 0 0), (.slice none 0 0), (.slice none 0 0)] (by kernel_rfl) (fun w => by kernel_rfl) fun b_3 w_4 a H HP => ?_
 refine H.store HP 0 b_3 0 13 32 _ true (plV d1) [bx b_3 32 (plL d1) true] (by kernel_rfl) (by kernel_rfl) (by kernel_rfl) rfl (by kernel_rfl) (by kernel_rfl) (by kernel_rfl) (by kernel_rfl) (by kernel_rfl) fun w_5 a H HP => ?_
 refine H.v 5 (ii 80) fun a H => ?_
 refine wpList_nil (then_normal (wp_seq (wp_seq (w_region ?_))))
 refine H.v 19 (ii 80) fun a H => ?_
 refine H.v 20 (.bool true) fun a H => ?_
 refine wpList_nil (then_normal ?_)
 refine w_ift H rfl ?_
 refine wp_seq (w_region ?_)
 refine H.v 21 (.bool true) fun a H => ?_
 refine H.v 22 (.bool true) fun a H => ?_
 refine H.v 23 (ii 80) fun a H => ?_
 refine H.v 24 (.bool false) fun a H => ?_
 refine H.v 25 (.bool false) fun a H => ?_
 refine H.v 26 (ii 80) fun a H => ?_
 refine H.v 27 (.bool true) fun a H => ?_
 refine H.v 28 (.bool true) fun a H => ?_
 refine H.v 29 (.bool true) fun a H => ?_
 refine H.v 30 (.bool true) fun a H => ?_
 refine H.u 31 (plV d1) (ex_loadN (vs := (plL d1)) (by kernel_rfl) (by kernel_rfl) (by kernel_rfl) rfl (HP.cells 0 rfl 0 13 (by kernel_rfl))) fun a H => ?_
 refine H.v 32 (.agg #[(ii 0), (ii 0), (ii 0), (ii 0), (.slice none 0 0), (ii 0), (ii 0), (ii 0), (ii 0), (.slice none 0 0), (.slice none 0 0), (.slice none 0 0), (.slice none 0 0)]) fun a H => ?_
 refine H.call 33 (by kernel_rfl) (Eq.trans (by kernel_rfl : _ = (callFunc 16 #[(plV d1), (.agg #[(ii 0), (ii 0), (ii 0), (ii 0), (.slice none 0 0), (ii 0), (ii 0), (ii 0), (ii 0), (.slice none 0 0), (.slice none 0 0), (.slice none 0 0), (.slice none 0 0)])]).run Tryz.prog w_5) (Tryz.call16 _ _)) ((by have hh := same_any d1 zP w_5 (HP.fact 0 rfl : IsPln _ d1) (isZ _); rw [decide_eq_true (show d1.nv = zP.nv from hnv_d1)] at hh; exact hh)) ?_
 rintro e w_6 ⟨rfl, hb⟩
 refine ⟨_, rfl, ?_⟩
 intro a H
 have HP := HP.next hb
 refine H.v 34 (.bool true) fun a H => ?_
 refine H.v 2 (.bool true) fun a H => ?_
 refine wpList_nil (then_normal (wp_ret (then_ret ?_)))
 refine H.ret1 (fn := Tryz.f8) Tryz.results8 (RV.tmp_ (v := (.bool true)) (by kernel_rfl)) ?_
 exact ⟨rfl, HP.bl⟩
theorem again_law (s : List UInt8) (w : World) (a0 a1 : Addr) (hL : LaidP a0 a1 w) : Calls Tryz.prog 8 #[.string (bstr s)] w fun e w' => e = .returned (.bool true) ∧ Below w.heap.size w w' := by
 by_cases h : (decN (s.take 5000)).2 = 0
 ·exact again_ok s (decN (s.take 5000)).1 w a0 a1 hL (Prod.ext rfl h)
 ·rcases dec_err h with h | h
  ·exact again_wire s w a0 a1 hL h
  ·exact again_plan s w a0 a1 hL h
end Go.Proofs.YteeillphhiaopaaGreatDoor
namespace Go.Proofs.YteeillphhiaopaaGreatDoor.planDecodedAgain
open Go.ChangeShapes Go.WideShapes Go.ChangeAt Go.RowKit
set_option linter.unusedVariables false
theorem walk (x0 : ByteArray) (w : World) (h : ∃ a0 a1, LaidP a0 a1 w) (hx0 : x0.size ≤ reachBytes) : Calls Tryz.prog 8 #[.string x0] w fun e w' => e = .returned (.bool true) ∧ Below w.heap.size w w' := by
  obtain ⟨a0, a1, hL⟩ := h
  obtain ⟨lx0, rfl⟩ := bstr_of x0
  exact again_law lx0 w a0 a1 hL
end Go.Proofs.YteeillphhiaopaaGreatDoor.planDecodedAgain
namespace Go.Proofs.YteeillphhiaopaaGreatDoor.planDecodedAgain
open Go.ChangeShapes Go.WideShapes Go.ChangeAt Go.RowKit
open Go.ChangeMaps (open_string shut_string)
set_option linter.unusedVariables false
theorem own : ownKnob Tryz.prog.godebug = none := by kernel_rfl
theorem laidOut : laidOutB Tryz.prog = true := by kernel_rfl
set_option maxRecDepth 100000 in
theorem lifted (os : Os) (started : os.Started) (H : Type) (enc : TypeId × Value → H) :
    ReturnsInHanded {} Tryz.checked os 8 .any (fun w args => (Rows.planDecodedAgainSpec.pre enc Tryz.prog Tryz.f8 [] false w args ∧ laidMetH Tryz.prog laid2 w) ∧ sizedMet enc Tryz.prog Tryz.f8 (OpenSpec.ofChange Rows.planDecodedAgainSpec) false w args) (Rows.planDecodedAgainSpec.post enc Tryz.prog Tryz.f8 false true false false) := by
  refine returnsInHanded_of_change_and (C := Tryz.checked) (X := fun w _ => laidMetH Tryz.prog laid2 w) (fun _ _ _ hh h => h.of_heap hh) own started (by kernel_rfl) Tryz.func8
    (ChangeSpec.witness_shaped (enc := enc) (C := Tryz.checked) (os := os) (X := fun w _ => laidMetH Tryz.prog laid2 w) false (World.doorLaid Tryz.prog 4000 os) #[.string ByteArray.empty] 12 rfl (World.shaped_of_RefB (by kernel_rfl) (by kernel_rfl)) (by kernel_rfl) (by kernel_rfl) (by kernel_rfl) (door_met os _)) ?_
  intro W base args ds gs before hval0 hW hcnd hsz0 hL _
  have hval : ∀ (j : Nat) t v, Tryz.f8.params[j]? = some t → args[j]? = some v → Value.okWide Tryz.prog W .any base t v := hval0
  have hW' := hW
  obtain ⟨p, q, hA0, hV, rfl, hfz, hnd⟩ := hW
  have hA : DataW.TrodAll enc Tryz.prog W 0 (fun _ => true) true Tryz.f8.params.toList args.toList ds p := hA0
  have hsz : (DataW.weightsEach Tryz.prog (Tryz.f8.params.toList ++ Rows.planDecodedAgainSpec.plain.varTypes Tryz.prog) (ds ++ gs)).all (· ≤ reachBytes) = true := hsz0
  rw [Tryz.params8] at hA hval hsz
  obtain ⟨v0, vs0, d0, ds0, p0, q0, hargs, rfl, rfl, h0, r0⟩ := trodAll_cons hA
  obtain ⟨rfl, rfl, rfl⟩ := trodAll_nil r0
  obtain rfl : args = #[v0] := by cases args; simp_all
  obtain ⟨rfl, rfl⟩ := trodVars_none hV
  obtain ⟨s0, rfl, rfl, rfl, w0⟩ := open_string Tryz.underlying9 (hval 0 9 v0 rfl rfl) h0
  have r0s : s0.size ≤ reachBytes := by have q := sized_string hsz (j := 0) (t := 9) (by rfl) (by rfl); rw [Array.length_toList] at q; exact q
  clear hA0 hval0 hsz0
  refine (walk s0 W (laid_of hL) r0s).mono fun e W' ⟨he, bel⟩ => ?_
  subst he
  exact ⟨_, rfl, _, _, _, [], _, [], hW', trodAll_mk1 (shut_bool Tryz.underlying4 _), (trodAll_cons_mk (shut_string Tryz.underlying9 w0) trodAll_mk0), rfl, bel.frame _, fun h => by cases h⟩
theorem over : Rows.planDecodedAgainRow.holds Tryz.pinned (OpenSpec.ofChange Rows.planDecodedAgainSpec) :=
  OpenClaim.holds_of_wide 8 Tryz.f8 rfl rfl rfl rfl rfl rfl rfl ⟨rfl, rfl, rfl, rfl, rfl⟩ rfl rfl rfl rfl rfl (by kernel_rfl) Tryz.func8 (by kernel_rfl)
    (of_decide_eq_true (by kernel_rfl)) (by unfold Func.isWrapper; first | (rw [if_pos (by decide +kernel)]; kernel_rfl) | (rw [if_neg (by decide +kernel)]; exact ⟨rfl, rfl⟩))
    (fun os started H enc _ => lifted os started H enc)
theorem proved : Rows.PlanDecodedAgainCardSaid :=
  Claim7.holds_tied_plain_at .later [] [.data, .sentinel, .sentinel] true (true, "0920b850dcc38d1adf8ac1a12a8052cedc72f0c93030e4301d2dcc84e7d73c35") true
    over (fun _ h => by cases h) (by kernel_rfl) (fun _ h => by cases h) planDecodedAgain_row_tie rfl ⟨rfl, rfl⟩ (by kernel_rfl) rfl
    (fun f fn hf hfn => by
      obtain rfl : f = 8 := Option.some.inj ((show Tryz.prog.funcNamed "onair/onairlaw08.PlanDecodedAgain" = some 8 by kernel_rfl).symm.trans hf) |>.symm
      obtain rfl : fn = Tryz.f8 := (Option.some.inj (Tryz.func8.symm.trans hfn)).symm
      exact ⟨by kernel_rfl, fun j t ht => by
        rw [Tryz.params8] at ht
        have hm : t ∈ [9] := by simpa using Array.mem_of_getElem? ht
        have hall : ([9].all fun u => !Tryz.prog.wantsStandIn u) = true := by kernel_rfl
        exact (show Tryz.prog.wantsStandIn t = false by simpa using List.all_eq_true.1 hall t hm)⟩)
    (by kernel_rfl)
#print axioms proved
end Go.Proofs.YteeillphhiaopaaGreatDoor.planDecodedAgain
