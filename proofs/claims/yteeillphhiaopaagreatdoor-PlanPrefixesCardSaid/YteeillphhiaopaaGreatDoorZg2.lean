/- The statement PlanPrefixes: for every input the law returns true and leaves its arguments as they were. No condition. -/
import Derived.Test.YteeillphhiaopaaGreatDoorCards
import Derived.Test.YteeillphhiaopaaGreatDoorTie
import Derived.WalkKit
import Derived.ProofKit
import Derived.OpenShut
import Derived.ShutString
import Derived.ChangeOld
import Derived.Below
import Derived.SizedLaws
import Derived.SevenTiedAt
import Derived.Test.YteeillphhiaopaaGreatDoorZgf
namespace Go.Proofs.YteeillphhiaopaaGreatDoor
open Go.ChangeShapes Go.WideShapes Go.ChangeAt Go.RowKit
set_option linter.unusedVariables false
set_option linter.unusedSimpArgs false
set_option maxRecDepth 100000 in
set_option maxHeartbeats 4000000 in
theorem prefix_none (p : Pln) (n : Int) (m : List UInt8) (w : World) (a0 a1 : Addr) (hL : LaidP a0 a1 w) (hpl_p : IsPln w p) (hf_p : PlFit p) (hn : -9223372036854775808 ≤ n ∧ n ≤ 9223372036854775807) (hv : validN (shN p.nv) = false) : Calls Tryz.prog 9 #[(plV p), .int .i64 n, .string (bstr m)] w fun e w' => e = .returned (.bool true) ∧ Below w.heap.size w w' := by
 have HP := Hp.start w
 have hle := enS_len p.nv
 have hl0 : 0 < (enS (shN p.nv)).length := List.length_pos_iff.2 (enS_ne _)
 have hk := pickI_lt n ((enS (shN p.nv)).length : Int) (by omega)
 refine w_enter 74 [(0, (plV p)), (1, (ii n)), (2, (.string (bstr m)))] Tryz.func9 rfl Tryz.ntmps9 (by kernel_rfl) (by kernel_rfl) fun a H => ?_
 refine wp_seq (w_region ?_)
 refine H.alloc HP 3 (fun b => (pt b 0)) 32 (plL p) (by kernel_rfl) (fun w => by kernel_rfl) fun b_1 w_2 a H HP => ?_
 refine H.v 6 (.bool false) fun a H => ?_
 refine wpList_nil (then_normal (wp_seq (w_region ?_)))
 refine H.call 14 (by kernel_rfl) (Eq.trans (by kernel_rfl : _ = (callFunc 12 #[]).run Tryz.prog w_2) (Tryz.call12 _ _)) (sane_any a0 a1 w_2 (hL.below HP.bl)) ?_
 rintro e w_3 ⟨rfl, hb⟩
 refine ⟨_, rfl, ?_⟩
 intro a H
 have HP := HP.next hb
 refine H.v 7 (.bool true) fun a H => ?_
 refine wpList_nil (then_normal (wp_seq (w_region ?_)))
 refine H.u 16 (plV p) (ex_loadN (vs := (plL p)) (by kernel_rfl) (by kernel_rfl) (by kernel_rfl) rfl (HP.cells 0 rfl 0 13 (by kernel_rfl))) fun a H => ?_
 refine H.call 17 (by kernel_rfl) (Eq.trans (by kernel_rfl : _ = (callFunc 13 #[(plV p)]).run Tryz.prog w_3) (Tryz.call13 _ _)) (short_law p w w_3 hpl_p HP.bl hf_p) ?_
 rintro e w_4 ⟨p1, rfl, hnv_p1, hq_p1, hfr_p1, hsm_p1, hb⟩
 refine ⟨_, rfl, ?_⟩
 intro a H
 have HP := HP.keepQ hb (by kernel_rfl) p1 hq_p1 hfr_p1
 refine H.call 18 (by kernel_rfl) (Eq.trans (by kernel_rfl : _ = (callFunc 25 #[(plV p1)]).run Tryz.prog w_4) (Tryz.call25 _ _)) ((by have hh := encode_any p1 w_4 (HP.fact 0 rfl : IsPln _ p1) (hL.below HP.bl).rates; rw [encV_off hnv_p1 hv] at hh; exact hh)) ?_
 rintro e w_5 ⟨rfl, hb⟩
 refine ⟨_, rfl, ?_⟩
 intro a H
 have HP := HP.next hb
 refine H.v 15 (.tuple #[(.string (bstr ([]))), (ii 80)]) fun a H => ?_
 refine H.v 19 (.string (bstr ([]))) fun a H => ?_
 refine H.v 20 (ii 80) fun a H => ?_
 refine H.v 8 (.string (bstr ([]))) fun a H => ?_
 refine H.v 9 (ii 80) fun a H => ?_
 refine wpList_nil (then_normal (wp_seq (wp_seq (w_region ?_))))
 refine H.v 21 (ii 80) fun a H => ?_
 refine H.v 22 (.bool true) fun a H => ?_
 refine H.v 23 (.bool true) fun a H => ?_
 iterate 2 refine H.sx rfl fun a H => ?_
 refine H.vx rfl (.bool true) fun a H => ?_
 refine wpList_nil (then_normal ?_)
 refine w_ift H rfl ?_
 refine wp_seq (w_region ?_)
 refine H.v 27 (.bool true) fun a H => ?_
 refine H.v 28 (.bool true) fun a H => ?_
 refine H.v 29 (ii 80) fun a H => ?_
 refine H.v 30 (.bool true) fun a H => ?_
 refine H.v 31 (.bool true) fun a H => ?_
 refine H.v 6 (.bool true) fun a H => ?_
 refine wpList_nil (then_normal (wp_ret (then_ret ?_)))
 refine H.ret1 (fn := Tryz.f9) Tryz.results9 (RV.tmp_ (v := (.bool true)) (by kernel_rfl)) ?_
 exact ⟨rfl, HP.bl⟩
set_option maxRecDepth 100000 in
set_option maxHeartbeats 4000000 in
theorem prefix_empty (p : Pln) (n : Int) (m : List UInt8) (w : World) (a0 a1 : Addr) (hL : LaidP a0 a1 w) (hpl_p : IsPln w p) (hf_p : PlFit p) (hn : -9223372036854775808 ≤ n ∧ n ≤ 9223372036854775807) (hv : validN (shN p.nv) = true) (hm : m.take 20 = []) : Calls Tryz.prog 9 #[(plV p), .int .i64 n, .string (bstr m)] w fun e w' => e = .returned (.bool true) ∧ Below w.heap.size w w' := by
 have HP := Hp.start w
 have hle := enS_len p.nv
 have hl0 : 0 < (enS (shN p.nv)).length := List.length_pos_iff.2 (enS_ne _)
 have hk := pickI_lt n ((enS (shN p.nv)).length : Int) (by omega)
 refine w_enter 74 [(0, (plV p)), (1, (ii n)), (2, (.string (bstr m)))] Tryz.func9 rfl Tryz.ntmps9 (by kernel_rfl) (by kernel_rfl) fun a H => ?_
 refine wp_seq (w_region ?_)
 refine H.alloc HP 3 (fun b => (pt b 0)) 32 (plL p) (by kernel_rfl) (fun w => by kernel_rfl) fun b_1 w_2 a H HP => ?_
 refine H.v 6 (.bool false) fun a H => ?_
 refine wpList_nil (then_normal (wp_seq (w_region ?_)))
 refine H.call 14 (by kernel_rfl) (Eq.trans (by kernel_rfl : _ = (callFunc 12 #[]).run Tryz.prog w_2) (Tryz.call12 _ _)) (sane_any a0 a1 w_2 (hL.below HP.bl)) ?_
 rintro e w_3 ⟨rfl, hb⟩
 refine ⟨_, rfl, ?_⟩
 intro a H
 have HP := HP.next hb
 refine H.v 7 (.bool true) fun a H => ?_
 refine wpList_nil (then_normal (wp_seq (w_region ?_)))
 refine H.u 16 (plV p) (ex_loadN (vs := (plL p)) (by kernel_rfl) (by kernel_rfl) (by kernel_rfl) rfl (HP.cells 0 rfl 0 13 (by kernel_rfl))) fun a H => ?_
 refine H.call 17 (by kernel_rfl) (Eq.trans (by kernel_rfl : _ = (callFunc 13 #[(plV p)]).run Tryz.prog w_3) (Tryz.call13 _ _)) (short_law p w w_3 hpl_p HP.bl hf_p) ?_
 rintro e w_4 ⟨p1, rfl, hnv_p1, hq_p1, hfr_p1, hsm_p1, hb⟩
 refine ⟨_, rfl, ?_⟩
 intro a H
 have HP := HP.keepQ hb (by kernel_rfl) p1 hq_p1 hfr_p1
 refine H.call 18 (by kernel_rfl) (Eq.trans (by kernel_rfl : _ = (callFunc 25 #[(plV p1)]).run Tryz.prog w_4) (Tryz.call25 _ _)) ((by have hh := encode_any p1 w_4 (HP.fact 0 rfl : IsPln _ p1) (hL.below HP.bl).rates; rw [encV_on hnv_p1 hv] at hh; exact hh)) ?_
 rintro e w_5 ⟨rfl, hb⟩
 refine ⟨_, rfl, ?_⟩
 intro a H
 have HP := HP.next hb
 refine H.v 15 (.tuple #[(.string (bstr (enS (shN p.nv)))), (ii 0)]) fun a H => ?_
 refine H.v 19 (.string (bstr (enS (shN p.nv)))) fun a H => ?_
 refine H.v 20 (ii 0) fun a H => ?_
 refine H.v 8 (.string (bstr (enS (shN p.nv)))) fun a H => ?_
 refine H.v 9 (ii 0) fun a H => ?_
 refine wpList_nil (then_normal (wp_seq (wp_seq (w_region ?_))))
 refine H.v 21 (ii 0) fun a H => ?_
 refine H.v 22 (.bool false) fun a H => ?_
 refine H.v 23 (.bool false) fun a H => ?_
 refine H.v 24 (.string (bstr (enS (shN p.nv)))) fun a H => ?_
 refine H.valE 25 (.bool ((bstr (enS (shN p.nv))).toList == (bstr []).toList)) (.bool false) (by kernel_rfl) (by kernel_rfl) ((congrArg Value.bool ((str_eq _ _).trans (decide_eq_false (enS_ne _))))) fun a H => ?_
 refine H.v 26 (.bool false) fun a H => ?_
 refine wpList_nil (then_normal ?_)
 refine w_iff H rfl ?_
 refine wp_skip (then_normal (wp_seq (w_region ?_)))
 refine H.v 32 (.string (bstr m)) fun a H => ?_
 refine H.v 33 (.string (bstr m)) fun a H => ?_
 refine H.v 34 (ii m.length) fun a H => ?_
 refine H.valE 35 (ii (if (20 : Int) < (m.length : Int) then 20 else (m.length : Int))) (ii ((min m.length 20 : Nat) : Int)) (by kernel_rfl) (by kernel_rfl) ((congrArg (Value.int .i64) (by split <;> omega))) fun a H => ?_
 refine H.valE 36 (.string (bstr (m.take (min m.length 20)))) (.string (bstr (m.take 20))) (by kernel_rfl) (ex_ssliceH (kk := .i64) (l := m) (j := ((min m.length 20 : Nat) : Int)) (b := min m.length 20) (by kernel_rfl) (by kernel_rfl) (by kernel_rfl) (by omega) (by omega)) ((congrArg (fun x => Value.string (bstr x)) (take_min _ _))) fun a H => ?_
 refine H.v 2 (.string (bstr (m.take 20))) fun a H => ?_
 refine wpList_nil (then_normal (wp_seq (w_region ?_)))
 refine H.v 38 (.string (bstr (enS (shN p.nv)))) fun a H => ?_
 refine H.v 39 (ii n) fun a H => ?_
 refine H.v 40 (.string (bstr (enS (shN p.nv)))) fun a H => ?_
 refine H.v 41 (ii (((enS (shN p.nv)).length : Nat) : Int)) fun a H => ?_
 refine H.call 42 (by kernel_rfl) (Eq.trans (by kernel_rfl : _ = (callFunc 29 #[(ii n), (ii (((enS (shN p.nv)).length : Nat) : Int))]).run Tryz.prog w_5) (Tryz.call29 _ _)) (pick_any n (((enS (shN p.nv)).length : Nat) : Int) w_5 hn (by omega)) ?_
 rintro e w_6 ⟨rfl, rfl⟩
 refine ⟨_, rfl, ?_⟩
 intro a H
 have HP := HP
 refine H.valE 43 (.string (bstr ((enS (shN p.nv)).take ((pickI n ((enS (shN p.nv)).length : Int)).toNat)))) (.string (bstr ((enS (shN p.nv)).take ((pickI n ((enS (shN p.nv)).length : Int)).toNat)))) (by kernel_rfl) (ex_ssliceH (kk := .i64) (l := enS (shN p.nv)) (j := pickI n (((enS (shN p.nv)).length : Nat) : Int)) (b := (pickI n ((enS (shN p.nv)).length : Int)).toNat) (by kernel_rfl) (by kernel_rfl) (by kernel_rfl) (by omega) (by omega)) (rfl) fun a H => ?_
 refine H.call 44 (by kernel_rfl) (Eq.trans (by kernel_rfl : _ = (callFunc 27 #[(.string (bstr ((enS (shN p.nv)).take ((pickI n ((enS (shN p.nv)).length : Int)).toNat))))]).run Tryz.prog w_5) (Tryz.call27 _ _)) ((by have hh := decode_any a0 a1 ((enS (shN p.nv)).take ((pickI n ((enS (shN p.nv)).length : Int)).toNat)) w_5 (hL.below HP.bl) (by rw [tl_]; omega); unfold DecPost at hh; rw [dec_shorter hv (k := (pickI n ((enS (shN p.nv)).length : Int)).toNat) (by omega)] at hh; exact hh)) ?_
 rintro e w_7 ⟨d1, rfl, hnv_d1, hq_d1, hfr_d1, hb⟩
 refine ⟨_, rfl, ?_⟩
 intro a H
 have HP := HP.keepQ hb (by kernel_rfl) d1 hq_d1 (fun j hj => .inr (hfr_d1 j hj))
 refine H.v 37 (.tuple #[(plV d1), (ii 10)]) fun a H => ?_
 refine H.v 45 (plV d1) fun a H => ?_
 refine H.v 46 (ii 10) fun a H => ?_
 refine H.alloc HP 10 (fun b => (pt b 0)) 32 [(ii 0), (ii 0), (ii 0), (ii 0), (.slice none 0 0), (ii 0), (ii 0), (ii 0), (ii 0), (.slice none 0 0), (.slice none 0 0), (.slice none 0 0), (.slice none 0 0)] (by kernel_rfl) (fun w => by kernel_rfl) fun b_8 w_9 a H HP => ?_
 refine H.store HP 0 b_8 0 13 32 _ true (plV d1) [bx b_8 32 (plL d1) true, bx b_1 32 (plL p) true] (by kernel_rfl) (by kernel_rfl) (by kernel_rfl) rfl (by kernel_rfl) (by kernel_rfl) (by kernel_rfl) (by kernel_rfl) (by kernel_rfl) fun w_10 a H HP => ?_
 refine H.v 11 (ii 10) fun a H => ?_
 refine wpList_nil (then_normal (wp_seq (w_region ?_)))
 refine H.v 48 (.string (bstr (enS (shN p.nv)))) fun a H => ?_
 refine H.v 49 (.string (bstr (m.take 20))) fun a H => ?_
 refine H.valE 50 (.string (bstr (enS (shN p.nv) ++ m.take 20))) (.string (bstr (enS (shN p.nv) ++ m.take 20))) (by kernel_rfl) (ex_sadd (a := enS (shN p.nv)) (b := m.take 20) (by kernel_rfl) (by kernel_rfl) (by rw [tl_]; omega)) (rfl) fun a H => ?_
 refine H.call 51 (by kernel_rfl) (Eq.trans (by kernel_rfl : _ = (callFunc 27 #[(.string (bstr (enS (shN p.nv) ++ m.take 20)))]).run Tryz.prog w_10) (Tryz.call27 _ _)) ((by have hh := decode_any a0 a1 (enS (shN p.nv) ++ m.take 20) w_10 (hL.below HP.bl) (by rw [List.length_append, tl_]; omega); unfold DecPost at hh; rw [show decN (enS (shN p.nv) ++ m.take 20) = (shN p.nv, 0) from by rw [hm, List.append_nil]; exact dec_on hv] at hh; exact hh)) ?_
 rintro e w_11 ⟨d2, rfl, hnv_d2, hq_d2, hfr_d2, hb⟩
 refine ⟨_, rfl, ?_⟩
 intro a H
 have HP := HP.keepQ hb (by kernel_rfl) d2 hq_d2 (fun j hj => .inr (hfr_d2 j hj))
 refine H.v 47 (.tuple #[(plV d2), (ii 0)]) fun a H => ?_
 refine H.v 52 (plV d2) fun a H => ?_
 refine H.v 53 (ii 0) fun a H => ?_
 refine H.alloc HP 12 (fun b => (pt b 0)) 32 [(ii 0), (ii 0), (ii 0), (ii 0), (.slice none 0 0), (ii 0), (ii 0), (ii 0), (ii 0), (.slice none 0 0), (.slice none 0 0), (.slice none 0 0), (.slice none 0 0)] (by kernel_rfl) (fun w => by kernel_rfl) fun b_12 w_13 a H HP => ?_
 refine H.store HP 0 b_12 0 13 32 _ true (plV d2) [bx b_12 32 (plL d2) true, bx b_8 32 (plL d1) true, bx b_1 32 (plL p) true] (by kernel_rfl) (by kernel_rfl) (by kernel_rfl) rfl (by kernel_rfl) (by kernel_rfl) (by kernel_rfl) (by kernel_rfl) (by kernel_rfl) fun w_14 a H HP => ?_
 refine H.v 13 (ii 0) fun a H => ?_
 refine wpList_nil (then_normal (wp_seq (w_region ?_)))
 refine H.v 54 (.bool true) fun a H => ?_
 refine H.v 55 (.bool true) fun a H => ?_
 refine H.v 56 (ii 10) fun a H => ?_
 refine H.v 57 (.bool true) fun a H => ?_
 refine H.v 58 (.bool true) fun a H => ?_
 refine H.v 59 (.bool true) fun a H => ?_
 refine H.v 60 (ii 0) fun a H => ?_
 refine H.v 61 (.bool true) fun a H => ?_
 refine H.v 62 (.string (bstr (m.take 20))) fun a H => ?_
 refine H.valE 63 (.bool ((bstr (m.take 20)).toList == (bstr []).toList)) (.bool true) (by kernel_rfl) (by kernel_rfl) ((congrArg Value.bool ((str_eq _ _).trans (decide_eq_true hm)))) fun a H => ?_
 refine H.v 64 (.bool true) fun a H => ?_
 refine H.v 65 (.bool true) fun a H => ?_
 refine H.v 66 (.bool true) fun a H => ?_
 refine H.v 67 (ii 0) fun a H => ?_
 refine H.v 68 (.bool true) fun a H => ?_
 refine H.v 69 (.bool true) fun a H => ?_
 iterate 2 refine H.sx rfl fun a H => ?_
 iterate 3 refine H.vx rfl (.bool true) fun a H => ?_
 refine wpList_nil (then_normal (wp_ret ?_))
 refine H.ret1 (fn := Tryz.f9) Tryz.results9 (RV.tmp_ (v := (.bool true)) (by kernel_rfl)) ?_
 exact ⟨rfl, HP.bl⟩
set_option maxRecDepth 100000 in
set_option maxHeartbeats 4000000 in
theorem prefix_more (p : Pln) (n : Int) (m : List UInt8) (w : World) (a0 a1 : Addr) (hL : LaidP a0 a1 w) (hpl_p : IsPln w p) (hf_p : PlFit p) (hn : -9223372036854775808 ≤ n ∧ n ≤ 9223372036854775807) (hv : validN (shN p.nv) = true) (hm : m.take 20 ≠ []) : Calls Tryz.prog 9 #[(plV p), .int .i64 n, .string (bstr m)] w fun e w' => e = .returned (.bool true) ∧ Below w.heap.size w w' := by
 have HP := Hp.start w
 have hle := enS_len p.nv
 have hl0 : 0 < (enS (shN p.nv)).length := List.length_pos_iff.2 (enS_ne _)
 have hk := pickI_lt n ((enS (shN p.nv)).length : Int) (by omega)
 refine w_enter 74 [(0, (plV p)), (1, (ii n)), (2, (.string (bstr m)))] Tryz.func9 rfl Tryz.ntmps9 (by kernel_rfl) (by kernel_rfl) fun a H => ?_
 refine wp_seq (w_region ?_)
 refine H.alloc HP 3 (fun b => (pt b 0)) 32 (plL p) (by kernel_rfl) (fun w => by kernel_rfl) fun b_1 w_2 a H HP => ?_
 refine H.v 6 (.bool false) fun a H => ?_
 refine wpList_nil (then_normal (wp_seq (w_region ?_)))
 refine H.call 14 (by kernel_rfl) (Eq.trans (by kernel_rfl : _ = (callFunc 12 #[]).run Tryz.prog w_2) (Tryz.call12 _ _)) (sane_any a0 a1 w_2 (hL.below HP.bl)) ?_
 rintro e w_3 ⟨rfl, hb⟩
 refine ⟨_, rfl, ?_⟩
 intro a H
 have HP := HP.next hb
 refine H.v 7 (.bool true) fun a H => ?_
 refine wpList_nil (then_normal (wp_seq (w_region ?_)))
 refine H.u 16 (plV p) (ex_loadN (vs := (plL p)) (by kernel_rfl) (by kernel_rfl) (by kernel_rfl) rfl (HP.cells 0 rfl 0 13 (by kernel_rfl))) fun a H => ?_
 refine H.call 17 (by kernel_rfl) (Eq.trans (by kernel_rfl : _ = (callFunc 13 #[(plV p)]).run Tryz.prog w_3) (Tryz.call13 _ _)) (short_law p w w_3 hpl_p HP.bl hf_p) ?_
 rintro e w_4 ⟨p1, rfl, hnv_p1, hq_p1, hfr_p1, hsm_p1, hb⟩
 refine ⟨_, rfl, ?_⟩
 intro a H
 have HP := HP.keepQ hb (by kernel_rfl) p1 hq_p1 hfr_p1
 refine H.call 18 (by kernel_rfl) (Eq.trans (by kernel_rfl : _ = (callFunc 25 #[(plV p1)]).run Tryz.prog w_4) (Tryz.call25 _ _)) ((by have hh := encode_any p1 w_4 (HP.fact 0 rfl : IsPln _ p1) (hL.below HP.bl).rates; rw [encV_on hnv_p1 hv] at hh; exact hh)) ?_
 rintro e w_5 ⟨rfl, hb⟩
 refine ⟨_, rfl, ?_⟩
 intro a H
 have HP := HP.next hb
 refine H.v 15 (.tuple #[(.string (bstr (enS (shN p.nv)))), (ii 0)]) fun a H => ?_
 refine H.v 19 (.string (bstr (enS (shN p.nv)))) fun a H => ?_
 refine H.v 20 (ii 0) fun a H => ?_
 refine H.v 8 (.string (bstr (enS (shN p.nv)))) fun a H => ?_
 refine H.v 9 (ii 0) fun a H => ?_
 refine wpList_nil (then_normal (wp_seq (wp_seq (w_region ?_))))
 refine H.v 21 (ii 0) fun a H => ?_
 refine H.v 22 (.bool false) fun a H => ?_
 refine H.v 23 (.bool false) fun a H => ?_
 refine H.v 24 (.string (bstr (enS (shN p.nv)))) fun a H => ?_
 refine H.valE 25 (.bool ((bstr (enS (shN p.nv))).toList == (bstr []).toList)) (.bool false) (by kernel_rfl) (by kernel_rfl) ((congrArg Value.bool ((str_eq _ _).trans (decide_eq_false (enS_ne _))))) fun a H => ?_
 refine H.v 26 (.bool false) fun a H => ?_
 refine wpList_nil (then_normal ?_)
 refine w_iff H rfl ?_
 refine wp_skip (then_normal (wp_seq (w_region ?_)))
 refine H.v 32 (.string (bstr m)) fun a H => ?_
 refine H.v 33 (.string (bstr m)) fun a H => ?_
 refine H.v 34 (ii m.length) fun a H => ?_
 refine H.valE 35 (ii (if (20 : Int) < (m.length : Int) then 20 else (m.length : Int))) (ii ((min m.length 20 : Nat) : Int)) (by kernel_rfl) (by kernel_rfl) ((congrArg (Value.int .i64) (by split <;> omega))) fun a H => ?_
 refine H.valE 36 (.string (bstr (m.take (min m.length 20)))) (.string (bstr (m.take 20))) (by kernel_rfl) (ex_ssliceH (kk := .i64) (l := m) (j := ((min m.length 20 : Nat) : Int)) (b := min m.length 20) (by kernel_rfl) (by kernel_rfl) (by kernel_rfl) (by omega) (by omega)) ((congrArg (fun x => Value.string (bstr x)) (take_min _ _))) fun a H => ?_
 refine H.v 2 (.string (bstr (m.take 20))) fun a H => ?_
 refine wpList_nil (then_normal (wp_seq (w_region ?_)))
 refine H.v 38 (.string (bstr (enS (shN p.nv)))) fun a H => ?_
 refine H.v 39 (ii n) fun a H => ?_
 refine H.v 40 (.string (bstr (enS (shN p.nv)))) fun a H => ?_
 refine H.v 41 (ii (((enS (shN p.nv)).length : Nat) : Int)) fun a H => ?_
 refine H.call 42 (by kernel_rfl) (Eq.trans (by kernel_rfl : _ = (callFunc 29 #[(ii n), (ii (((enS (shN p.nv)).length : Nat) : Int))]).run Tryz.prog w_5) (Tryz.call29 _ _)) (pick_any n (((enS (shN p.nv)).length : Nat) : Int) w_5 hn (by omega)) ?_
 rintro e w_6 ⟨rfl, rfl⟩
 refine ⟨_, rfl, ?_⟩
 intro a H
 have HP := HP
 refine H.valE 43 (.string (bstr ((enS (shN p.nv)).take ((pickI n ((enS (shN p.nv)).length : Int)).toNat)))) (.string (bstr ((enS (shN p.nv)).take ((pickI n ((enS (shN p.nv)).length : Int)).toNat)))) (by kernel_rfl) (ex_ssliceH (kk := .i64) (l := enS (shN p.nv)) (j := pickI n (((enS (shN p.nv)).length : Nat) : Int)) (b := (pickI n ((enS (shN p.nv)).length : Int)).toNat) (by kernel_rfl) (by kernel_rfl) (by kernel_rfl) (by omega) (by omega)) (rfl) fun a H => ?_
 refine H.call 44 (by kernel_rfl) (Eq.trans (by kernel_rfl : _ = (callFunc 27 #[(.string (bstr ((enS (shN p.nv)).take ((pickI n ((enS (shN p.nv)).length : Int)).toNat))))]).run Tryz.prog w_5) (Tryz.call27 _ _)) ((by have hh := decode_any a0 a1 ((enS (shN p.nv)).take ((pickI n ((enS (shN p.nv)).length : Int)).toNat)) w_5 (hL.below HP.bl) (by rw [tl_]; omega); unfold DecPost at hh; rw [dec_shorter hv (k := (pickI n ((enS (shN p.nv)).length : Int)).toNat) (by omega)] at hh; exact hh)) ?_
 rintro e w_7 ⟨d1, rfl, hnv_d1, hq_d1, hfr_d1, hb⟩
 refine ⟨_, rfl, ?_⟩
 intro a H
 have HP := HP.keepQ hb (by kernel_rfl) d1 hq_d1 (fun j hj => .inr (hfr_d1 j hj))
 refine H.v 37 (.tuple #[(plV d1), (ii 10)]) fun a H => ?_
 refine H.v 45 (plV d1) fun a H => ?_
 refine H.v 46 (ii 10) fun a H => ?_
 refine H.alloc HP 10 (fun b => (pt b 0)) 32 [(ii 0), (ii 0), (ii 0), (ii 0), (.slice none 0 0), (ii 0), (ii 0), (ii 0), (ii 0), (.slice none 0 0), (.slice none 0 0), (.slice none 0 0), (.slice none 0 0)] (by kernel_rfl) (fun w => by kernel_rfl) fun b_8 w_9 a H HP => ?_
 refine H.store HP 0 b_8 0 13 32 _ true (plV d1) [bx b_8 32 (plL d1) true, bx b_1 32 (plL p) true] (by kernel_rfl) (by kernel_rfl) (by kernel_rfl) rfl (by kernel_rfl) (by kernel_rfl) (by kernel_rfl) (by kernel_rfl) (by kernel_rfl) fun w_10 a H HP => ?_
 refine H.v 11 (ii 10) fun a H => ?_
 refine wpList_nil (then_normal (wp_seq (w_region ?_)))
 refine H.v 48 (.string (bstr (enS (shN p.nv)))) fun a H => ?_
 refine H.v 49 (.string (bstr (m.take 20))) fun a H => ?_
 refine H.valE 50 (.string (bstr (enS (shN p.nv) ++ m.take 20))) (.string (bstr (enS (shN p.nv) ++ m.take 20))) (by kernel_rfl) (ex_sadd (a := enS (shN p.nv)) (b := m.take 20) (by kernel_rfl) (by kernel_rfl) (by rw [tl_]; omega)) (rfl) fun a H => ?_
 refine H.call 51 (by kernel_rfl) (Eq.trans (by kernel_rfl : _ = (callFunc 27 #[(.string (bstr (enS (shN p.nv) ++ m.take 20)))]).run Tryz.prog w_10) (Tryz.call27 _ _)) ((by have hh := decode_any a0 a1 (enS (shN p.nv) ++ m.take 20) w_10 (hL.below HP.bl) (by rw [List.length_append, tl_]; omega); unfold DecPost at hh; rw [dec_longer hv hm] at hh; exact hh)) ?_
 rintro e w_11 ⟨d2, rfl, hnv_d2, hq_d2, hfr_d2, hb⟩
 refine ⟨_, rfl, ?_⟩
 intro a H
 have HP := HP.keepQ hb (by kernel_rfl) d2 hq_d2 (fun j hj => .inr (hfr_d2 j hj))
 refine H.v 47 (.tuple #[(plV d2), (ii 10)]) fun a H => ?_
 refine H.v 52 (plV d2) fun a H => ?_
 refine H.v 53 (ii 10) fun a H => ?_
 refine H.alloc HP 12 (fun b => (pt b 0)) 32 [(ii 0), (ii 0), (ii 0), (ii 0), (.slice none 0 0), (ii 0), (ii 0), (ii 0), (ii 0), (.slice none 0 0), (.slice none 0 0), (.slice none 0 0), (.slice none 0 0)] (by kernel_rfl) (fun w => by kernel_rfl) fun b_12 w_13 a H HP => ?_
 refine H.store HP 0 b_12 0 13 32 _ true (plV d2) [bx b_12 32 (plL d2) true, bx b_8 32 (plL d1) true, bx b_1 32 (plL p) true] (by kernel_rfl) (by kernel_rfl) (by kernel_rfl) rfl (by kernel_rfl) (by kernel_rfl) (by kernel_rfl) (by kernel_rfl) (by kernel_rfl) fun w_14 a H HP => ?_
 refine H.v 13 (ii 10) fun a H => ?_
 refine wpList_nil (then_normal (wp_seq (w_region ?_)))
 refine H.v 54 (.bool true) fun a H => ?_
 refine H.v 55 (.bool true) fun a H => ?_
 refine H.v 56 (ii 10) fun a H => ?_
 refine H.v 57 (.bool true) fun a H => ?_
 refine H.v 58 (.bool true) fun a H => ?_
 refine H.v 59 (.bool true) fun a H => ?_
 refine H.v 60 (ii 10) fun a H => ?_
 refine H.v 61 (.bool false) fun a H => ?_
 refine H.v 62 (.string (bstr (m.take 20))) fun a H => ?_
 refine H.valE 63 (.bool ((bstr (m.take 20)).toList == (bstr []).toList)) (.bool false) (by kernel_rfl) (by kernel_rfl) ((congrArg Value.bool ((str_eq _ _).trans (decide_eq_false hm)))) fun a H => ?_
 refine H.v 64 (.bool true) fun a H => ?_
 refine H.v 65 (.bool true) fun a H => ?_
 refine H.v 66 (.bool true) fun a H => ?_
 refine H.v 67 (ii 10) fun a H => ?_
 refine H.v 68 (.bool false) fun a H => ?_
 refine H.v 69 (.bool false) fun a H => ?_
 refine H.v 70 (ii 10) fun a H => ?_
 refine H.v 71 (.bool true) fun a H => ?_
 refine H.v 72 (.bool true) fun a H => ?_
 refine H.v 73 (.bool true) fun a H => ?_
 refine H.v 6 (.bool true) fun a H => ?_
 refine wpList_nil (then_normal (wp_ret ?_))
 refine H.ret1 (fn := Tryz.f9) Tryz.results9 (RV.tmp_ (v := (.bool true)) (by kernel_rfl)) ?_
 exact ⟨rfl, HP.bl⟩
theorem prefix_law (p : Pln) (n : Int) (m : List UInt8) (w : World) (a0 a1 : Addr) (hL : LaidP a0 a1 w) (hpl_p : IsPln w p) (hf_p : PlFit p) (hn : -9223372036854775808 ≤ n ∧ n ≤ 9223372036854775807) : Calls Tryz.prog 9 #[plV p, .int .i64 n, .string (bstr m)] w fun e w' => e = .returned (.bool true) ∧ Below w.heap.size w w' := by
 cases hv : validN (shN p.nv) with
 | false => exact prefix_none p n m w a0 a1 hL hpl_p hf_p hn hv
 | true =>
  by_cases hm : m.take 20 = []
  ·exact prefix_empty p n m w a0 a1 hL hpl_p hf_p hn hv hm
  ·exact prefix_more p n m w a0 a1 hL hpl_p hf_p hn hv hm
end Go.Proofs.YteeillphhiaopaaGreatDoor
namespace Go.Proofs.YteeillphhiaopaaGreatDoor.planPrefixes
open Go.ChangeShapes Go.WideShapes Go.ChangeAt Go.RowKit
set_option linter.unusedVariables false
theorem walk (x0 : Pln) (x1 : Int) (x2 : ByteArray) (w : World) (h : ∃ a0 a1, LaidP a0 a1 w) (hx0 : opPl.ok w x0) (hx1 : (Lit.int .i64 x1).wf = true) (hx2 : x2.size ≤ reachBytes) : Calls Tryz.prog 9 #[plV x0, .int .i64 x1, .string x2] w fun e w' => e = .returned (.bool true) ∧ Below w.heap.size w w' := by
  obtain ⟨a0, a1, hL⟩ := h
  have kx0 : IsPln w x0 ∧ PlFit x0 := hx0
  obtain ⟨lx2, rfl⟩ := bstr_of x2
  exact prefix_law x0 x1 lx2 w a0 a1 hL kx0.1 kx0.2 (i64_of hx1)
end Go.Proofs.YteeillphhiaopaaGreatDoor.planPrefixes
namespace Go.Proofs.YteeillphhiaopaaGreatDoor.planPrefixes
open Go.ChangeShapes Go.WideShapes Go.ChangeAt Go.RowKit
open Go.ChangeMaps (open_string shut_string)
set_option linter.unusedVariables false
theorem own : ownKnob Tryz.prog.godebug = none := by kernel_rfl
theorem laidOut : laidOutB Tryz.prog = true := by kernel_rfl
set_option maxRecDepth 100000 in
theorem lifted (os : Os) (started : os.Started) (H : Type) (enc : TypeId × Value → H) :
    ReturnsInHanded {} Tryz.checked os 9 .any (fun w args => (Rows.planPrefixesSpec.pre enc Tryz.prog Tryz.f9 [] false w args ∧ laidMetH Tryz.prog laid2 w) ∧ sizedMet enc Tryz.prog Tryz.f9 (OpenSpec.ofChange Rows.planPrefixesSpec) false w args) (Rows.planPrefixesSpec.post enc Tryz.prog Tryz.f9 false true false false) := by
  refine returnsInHanded_of_change_and (C := Tryz.checked) (X := fun w _ => laidMetH Tryz.prog laid2 w) (fun _ _ _ hh h => h.of_heap hh) own started (by kernel_rfl) Tryz.func9
    (ChangeSpec.witness_shaped (enc := enc) (C := Tryz.checked) (os := os) (X := fun w _ => laidMetH Tryz.prog laid2 w) false (World.doorLaid Tryz.prog 4000 os) #[.agg #[.int .i64 0, .int .i64 0, .int .i64 0, .int .i64 0, .slice none 0 0, .int .i64 0, .int .i64 0, .int .i64 0, .int .i64 0, .slice none 0 0, .slice none 0 0, .slice none 0 0, .slice none 0 0], .int .i64 0, .string ByteArray.empty] 12 rfl (World.shaped_of_RefB (by kernel_rfl) (by kernel_rfl)) (by kernel_rfl) (by kernel_rfl) (by kernel_rfl) (door_met os _)) ?_
  intro W base args ds gs before hval0 hW hcnd hsz0 hL _
  have hval : ∀ (j : Nat) t v, Tryz.f9.params[j]? = some t → args[j]? = some v → Value.okWide Tryz.prog W .any base t v := hval0
  have hW' := hW
  obtain ⟨p, q, hA0, hV, rfl, hfz, hnd⟩ := hW
  have hA : DataW.TrodAll enc Tryz.prog W 0 (fun _ => true) true Tryz.f9.params.toList args.toList ds p := hA0
  have hsz : (DataW.weightsEach Tryz.prog (Tryz.f9.params.toList ++ Rows.planPrefixesSpec.plain.varTypes Tryz.prog) (ds ++ gs)).all (· ≤ reachBytes) = true := hsz0
  rw [Tryz.params9] at hA hval hsz
  obtain ⟨v0, vs0, d0, ds0, p0, q0, hargs, rfl, rfl, h0, r0⟩ := trodAll_cons hA
  obtain ⟨v1, vs1, d1, ds1, p1, q1, rfl, rfl, rfl, h1, r1⟩ := trodAll_cons r0
  obtain ⟨v2, vs2, d2, ds2, p2, q2, rfl, rfl, rfl, h2, r2⟩ := trodAll_cons r1
  obtain ⟨rfl, rfl, rfl⟩ := trodAll_nil r2
  obtain rfl : args = #[v0, v1, v2] := by cases args; simp_all
  obtain ⟨rfl, rfl⟩ := trodVars_none hV
  obtain ⟨cs0, rfl, _⟩ := okWide_struct Tryz.underlying32 (hval 0 32 v0 rfl rfl)
  have k0 := h0
  have lt0 : ∀ x ∈ p0, x.block < W.heap.size := by obtain ⟨m, hm⟩ := k0; exact DataW.trod_lt m _ _ _ hm
  obtain ⟨a0, w0, e0⟩ : ∃ a, opPl.ok W a ∧ cs0 = (opPl.cells a).toArray := by
    obtain ⟨fuel, hf⟩ := h0
    obtain ⟨a, ha, hok⟩ := opPl.opens hf (fun n hn => of_decide_eq_true (List.all_eq_true.1 hsz n (DataW.weights_mem_each (j := 0) (t := 32) (by rfl) (by rfl) n hn)))
    refine ⟨a, hok, ?_⟩
    have : cs0.toList = opPl.cells a := ha
    rw [← this]
  subst e0
  obtain ⟨a1, rfl, rfl, rfl, w1⟩ := open_int Tryz.underlying3 (hval 1 3 v1 rfl rfl) h1
  obtain ⟨s2, rfl, rfl, rfl, w2⟩ := open_string Tryz.underlying9 (hval 2 9 v2 rfl rfl) h2
  have r2s : s2.size ≤ reachBytes := by have q := sized_string hsz (j := 2) (t := 9) (by rfl) (by rfl); rw [Array.length_toList] at q; exact q
  clear hA0 hval0 hsz0
  refine (walk a0 a1 s2 W (laid_of hL) w0 w1 r2s).mono fun e W' ⟨he, bel⟩ => ?_
  subst he
  exact ⟨_, rfl, _, _, _, [], _, [], hW', trodAll_mk1 (shut_bool Tryz.underlying4 _), (trodAll_cons_mk (Below.trod laidOut (by kernel_rfl) (of_decide_eq_true (by kernel_rfl)) k0 bel lt0) (trodAll_cons_mk (shut_int Tryz.underlying3 w1) (trodAll_cons_mk (shut_string Tryz.underlying9 w2) trodAll_mk0))), rfl, bel.frame _, fun h => by cases h⟩
theorem over : Rows.planPrefixesRow.holds Tryz.pinned (OpenSpec.ofChange Rows.planPrefixesSpec) :=
  OpenClaim.holds_of_wide 9 Tryz.f9 rfl rfl rfl rfl rfl rfl rfl ⟨rfl, rfl, rfl, rfl, rfl⟩ rfl rfl rfl rfl rfl (by kernel_rfl) Tryz.func9 (by kernel_rfl)
    (of_decide_eq_true (by kernel_rfl)) (by unfold Func.isWrapper; first | (rw [if_pos (by decide +kernel)]; kernel_rfl) | (rw [if_neg (by decide +kernel)]; exact ⟨rfl, rfl⟩))
    (fun os started H enc _ => lifted os started H enc)
theorem proved : Rows.PlanPrefixesCardSaid :=
  Claim7.holds_tied_plain_at .later [] [.data, .sentinel, .sentinel] true (true, "0920b850dcc38d1adf8ac1a12a8052cedc72f0c93030e4301d2dcc84e7d73c35") true
    over (fun _ h => by cases h) (by kernel_rfl) (fun _ h => by cases h) planPrefixes_row_tie rfl ⟨rfl, rfl⟩ (by kernel_rfl) rfl
    (fun f fn hf hfn => by
      obtain rfl : f = 9 := Option.some.inj ((show Tryz.prog.funcNamed "onair/onairlaw08.PlanPrefixes" = some 9 by kernel_rfl).symm.trans hf) |>.symm
      obtain rfl : fn = Tryz.f9 := (Option.some.inj (Tryz.func9.symm.trans hfn)).symm
      exact ⟨by kernel_rfl, fun j t ht => by
        rw [Tryz.params9] at ht
        have hm : t ∈ [32, 3, 9] := by simpa using Array.mem_of_getElem? ht
        have hall : ([32, 3, 9].all fun u => !Tryz.prog.wantsStandIn u) = true := by kernel_rfl
        exact (show Tryz.prog.wantsStandIn t = false by simpa using List.all_eq_true.1 hall t hm)⟩)
    (by kernel_rfl)
#print axioms proved
end Go.Proofs.YteeillphhiaopaaGreatDoor.planPrefixes
