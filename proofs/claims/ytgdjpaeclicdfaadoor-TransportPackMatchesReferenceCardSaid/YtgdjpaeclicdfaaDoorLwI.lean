/- TransportPackMatchesReference: the walk. -/
import Derived.Test.YtgdjpaeclicdfaaDoorRfC
import Derived.Test.YtgdjpaeclicdfaaDoorTrL
namespace Go.Proofs.YtgdjpaeclicdfaaDoor
open Go.ChangeShapes Go.WideShapes Go.ChangeAt Go.RowKit
set_option linter.unusedVariables false
set_option linter.unusedSimpArgs false

set_option maxRecDepth 100000 in
set_option maxHeartbeats 4000000 in
theorem pmr_p (rn rd c : Int) (u v U V : Un) (w : World) (hU : shortU u = U) (hV : shortU v = V) (hL : Laid w) (hc : -9223372036854775808 ≤ c ∧ c ≤ 9223372036854775807) (huu : IsAlts w u.A u.al.length u.al) (hcu : u.al.length ≤ u.c) (hAu : u.A = none → u.c = 0) (huv : IsAlts w v.A v.al.length v.al) (hcv : v.al.length ≤ v.c) (hAv : v.A = none → v.c = 0) (hpos : 0 ≤ c) (Z : Option (List UInt8)) (hZ : ∀ B c', packP (rateP c).1 (rateP c).2 ({ U with A := B, c := c' } : Un) = Z) :
    Calls Tryd.prog 3 #[.agg #[.int .i64 rn, .int .i64 rd], .int .i64 c, u.val, v.val] w fun e w' => e = .returned (.bool true) ∧ Below w.heap.size w w' := by
  have HP := Hp.start w
  refine w_enter 67 [(0, (.agg #[(.int .i64 rn), (.int .i64 rd)])), (1, (.int .i64 c)), (2, (.agg #[(.int .i64 u.channel), (.int .i64 u.frame), (.int .i64 u.version), (.int .i64 u.item), (.int .i64 u.index), (.bool u.key), (.string (bstr u.data)), (.int .i64 u.regions), (.int .i64 u.gain), (.string (bstr u.caption)), (.int .i64 u.os), (.int .i64 u.of), (.slice u.A u.al.length u.c)])), (3, (.agg #[(.int .i64 v.channel), (.int .i64 v.frame), (.int .i64 v.version), (.int .i64 v.item), (.int .i64 v.index), (.bool v.key), (.string (bstr v.data)), (.int .i64 v.regions), (.int .i64 v.gain), (.string (bstr v.caption)), (.int .i64 v.os), (.int .i64 v.of), (.slice v.A v.al.length v.c)]))] Tryd.func3 rfl Tryd.ntmps3 (by kernel_rfl) (by kernel_rfl) ?_
  intro a H
  refine wp_seq ?_
  refine w_region ?_
  refine H.alloc HP 4 (fun b => (.pointer (some ⟨b, 0, none⟩))) 23 [(.int .i64 rn), (.int .i64 rd)] (by kernel_rfl) (fun w => by kernel_rfl) ?_
  intro b_1 w_2 a H HP
  refine H.alloc HP 6 (fun b => (.pointer (some ⟨b, 0, none⟩))) 28 [(.int .i64 u.channel), (.int .i64 u.frame), (.int .i64 u.version), (.int .i64 u.item), (.int .i64 u.index), (.bool u.key), (.string (bstr u.data)), (.int .i64 u.regions), (.int .i64 u.gain), (.string (bstr u.caption)), (.int .i64 u.os), (.int .i64 u.of), (.slice u.A u.al.length u.c)] (by kernel_rfl) (fun w => by kernel_rfl) ?_
  intro b_3 w_4 a H HP
  refine H.alloc HP 7 (fun b => (.pointer (some ⟨b, 0, none⟩))) 28 [(.int .i64 v.channel), (.int .i64 v.frame), (.int .i64 v.version), (.int .i64 v.item), (.int .i64 v.index), (.bool v.key), (.string (bstr v.data)), (.int .i64 v.regions), (.int .i64 v.gain), (.string (bstr v.caption)), (.int .i64 v.os), (.int .i64 v.of), (.slice v.A v.al.length v.c)] (by kernel_rfl) (fun w => by kernel_rfl) ?_
  intro b_5 w_6 a H HP
  refine H.val 8 (.bool false) (by kernel_rfl) (by kernel_rfl) ?_
  intro a H
  refine wpList_nil ?_
  refine then_normal ?_
  refine wp_seq ?_
  refine w_region ?_
  refine H.call 14 (by kernel_rfl) (Eq.trans (by kernel_rfl : _ = (callFunc 13 #[]).run Tryd.prog w_6) (Tryd.call13 _ _)) (sane_any w_6 (hL.below (HP.below (by kernel_rfl)))) ?_
  rintro e w_7 ⟨rfl, hb⟩
  refine ⟨_, rfl, ?_⟩
  intro a H
  have HP := HP.next hb
  refine H.val 9 (.bool true) (by kernel_rfl) (by kernel_rfl) ?_
  intro a H
  refine wpList_nil ?_
  refine then_normal ?_
  refine wp_seq ?_
  refine wp_seq ?_
  refine w_region ?_
  refine H.val 15 (.int .i64 c) (by kernel_rfl) (by kernel_rfl) ?_
  intro a H
  refine H.valE 16 (.bool (decide (c ≥ 0))) (.bool true) (by kernel_rfl) (by kernel_rfl) ((congrArg Value.bool (decide_eq_true (by omega)))) ?_
  intro a H
  refine wpList_nil ?_
  refine then_normal ?_
  refine w_ift H rfl ?_
  refine w_region ?_
  refine H.val 17 (.int .i64 c) (by kernel_rfl) (by kernel_rfl) ?_
  intro a H
  refine H.call 18 (by kernel_rfl) (Eq.trans (by kernel_rfl : _ = (callFunc 14 #[(.int .i64 c)]).run Tryd.prog w_7) (Tryd.call14 _ _)) (rate_any c w_7 hc) ?_
  rintro e w_8 ⟨rfl, hb⟩
  refine ⟨_, rfl, ?_⟩
  intro a H
  have HP := HP.next hb
  refine H.store HP 2 b_1 0 2 23 [(.int .i64 rn), (.int .i64 rd)] true (.agg #[(.int .i64 ((rateP c).1)), (.int .i64 ((rateP c).2))]) [bx b_5 28 [(.int .i64 v.channel), (.int .i64 v.frame), (.int .i64 v.version), (.int .i64 v.item), (.int .i64 v.index), (.bool v.key), (.string (bstr v.data)), (.int .i64 v.regions), (.int .i64 v.gain), (.string (bstr v.caption)), (.int .i64 v.os), (.int .i64 v.of), (.slice v.A v.al.length v.c)] true, bx b_3 28 [(.int .i64 u.channel), (.int .i64 u.frame), (.int .i64 u.version), (.int .i64 u.item), (.int .i64 u.index), (.bool u.key), (.string (bstr u.data)), (.int .i64 u.regions), (.int .i64 u.gain), (.string (bstr u.caption)), (.int .i64 u.os), (.int .i64 u.of), (.slice u.A u.al.length u.c)] true, bx b_1 23 [(.int .i64 ((rateP c).1)), (.int .i64 ((rateP c).2))] true] (by kernel_rfl) (by kernel_rfl) (by kernel_rfl) rfl (by kernel_rfl) (by kernel_rfl) (by kernel_rfl) (by kernel_rfl) (by kernel_rfl) ?_
  intro w_9 a H HP
  refine wpList_nil ?_
  refine then_normal ?_
  refine wp_seq ?_
  refine w_region ?_
  refine H.val 19 (.agg #[(.int .i64 u.channel), (.int .i64 u.frame), (.int .i64 u.version), (.int .i64 u.item), (.int .i64 u.index), (.bool u.key), (.string (bstr u.data)), (.int .i64 u.regions), (.int .i64 u.gain), (.string (bstr u.caption)), (.int .i64 u.os), (.int .i64 u.of), (.slice u.A u.al.length u.c)]) (by kernel_rfl) (ex_loadN (vs := [(.int .i64 u.channel), (.int .i64 u.frame), (.int .i64 u.version), (.int .i64 u.item), (.int .i64 u.index), (.bool u.key), (.string (bstr u.data)), (.int .i64 u.regions), (.int .i64 u.gain), (.string (bstr u.caption)), (.int .i64 u.os), (.int .i64 u.of), (.slice u.A u.al.length u.c)]) (by kernel_rfl) (by kernel_rfl) (by kernel_rfl) rfl (HP.cells 1 rfl 0 13 (by kernel_rfl))) ?_
  intro a H
  refine H.call 20 (by kernel_rfl) (Eq.trans (by kernel_rfl : _ = (callFunc 15 #[(.agg #[(.int .i64 u.channel), (.int .i64 u.frame), (.int .i64 u.version), (.int .i64 u.item), (.int .i64 u.index), (.bool u.key), (.string (bstr u.data)), (.int .i64 u.regions), (.int .i64 u.gain), (.string (bstr u.caption)), (.int .i64 u.os), (.int .i64 u.of), (.slice u.A u.al.length u.c)])]).run Tryd.prog w_9) (Tryd.call15 _ _)) (short_anyU hU (short_any u w_9 (huu.below (HP.below (by kernel_rfl))) hcu hAu)) ?_
  rintro e w_10 ⟨Bu, cu, rfl, halu, hcau, hcbu, hccu, hfru, hb⟩
  refine ⟨_, rfl, ?_⟩
  intro a H
  have HP := (HP.next hb).keepF ⟨rowFp U.al.length Bu, fun w => IsAlts w Bu U.al.length U.al⟩ halu (fun _ _ h hk hs => ⟨h.1, h.2.keep hk hs⟩) (fun j hj => row_sep HP halu.2 hfru hj)
  refine H.store HP 1 b_3 0 13 28 [(.int .i64 u.channel), (.int .i64 u.frame), (.int .i64 u.version), (.int .i64 u.item), (.int .i64 u.index), (.bool u.key), (.string (bstr u.data)), (.int .i64 u.regions), (.int .i64 u.gain), (.string (bstr u.caption)), (.int .i64 u.os), (.int .i64 u.of), (.slice u.A u.al.length u.c)] true (.agg #[(.int .i64 U.channel), (.int .i64 U.frame), (.int .i64 U.version), (.int .i64 U.item), (.int .i64 U.index), (.bool U.key), (.string (bstr U.data)), (.int .i64 U.regions), (.int .i64 U.gain), (.string (bstr U.caption)), (.int .i64 U.os), (.int .i64 U.of), (.slice Bu U.al.length cu)]) [bx b_5 28 [(.int .i64 v.channel), (.int .i64 v.frame), (.int .i64 v.version), (.int .i64 v.item), (.int .i64 v.index), (.bool v.key), (.string (bstr v.data)), (.int .i64 v.regions), (.int .i64 v.gain), (.string (bstr v.caption)), (.int .i64 v.os), (.int .i64 v.of), (.slice v.A v.al.length v.c)] true, bx b_3 28 [(.int .i64 U.channel), (.int .i64 U.frame), (.int .i64 U.version), (.int .i64 U.item), (.int .i64 U.index), (.bool U.key), (.string (bstr U.data)), (.int .i64 U.regions), (.int .i64 U.gain), (.string (bstr U.caption)), (.int .i64 U.os), (.int .i64 U.of), (.slice Bu U.al.length cu)] true, bx b_1 23 [(.int .i64 ((rateP c).1)), (.int .i64 ((rateP c).2))] true] (by kernel_rfl) (by kernel_rfl) (by kernel_rfl) rfl (by kernel_rfl) (by kernel_rfl) (by kernel_rfl) (by kernel_rfl) (by kernel_rfl) ?_
  intro w_11 a H HP
  refine wpList_nil ?_
  refine then_normal ?_
  refine wp_seq ?_
  refine w_region ?_
  refine H.val 21 (.agg #[(.int .i64 v.channel), (.int .i64 v.frame), (.int .i64 v.version), (.int .i64 v.item), (.int .i64 v.index), (.bool v.key), (.string (bstr v.data)), (.int .i64 v.regions), (.int .i64 v.gain), (.string (bstr v.caption)), (.int .i64 v.os), (.int .i64 v.of), (.slice v.A v.al.length v.c)]) (by kernel_rfl) (ex_loadN (vs := [(.int .i64 v.channel), (.int .i64 v.frame), (.int .i64 v.version), (.int .i64 v.item), (.int .i64 v.index), (.bool v.key), (.string (bstr v.data)), (.int .i64 v.regions), (.int .i64 v.gain), (.string (bstr v.caption)), (.int .i64 v.os), (.int .i64 v.of), (.slice v.A v.al.length v.c)]) (by kernel_rfl) (by kernel_rfl) (by kernel_rfl) rfl (HP.cells 0 rfl 0 13 (by kernel_rfl))) ?_
  intro a H
  refine H.call 22 (by kernel_rfl) (Eq.trans (by kernel_rfl : _ = (callFunc 15 #[(.agg #[(.int .i64 v.channel), (.int .i64 v.frame), (.int .i64 v.version), (.int .i64 v.item), (.int .i64 v.index), (.bool v.key), (.string (bstr v.data)), (.int .i64 v.regions), (.int .i64 v.gain), (.string (bstr v.caption)), (.int .i64 v.os), (.int .i64 v.of), (.slice v.A v.al.length v.c)])]).run Tryd.prog w_11) (Tryd.call15 _ _)) (short_anyU hV (short_any v w_11 (huv.below (HP.below (by kernel_rfl))) hcv hAv)) ?_
  rintro e w_12 ⟨Bv, cv, rfl, halv, hcav, hcbv, hccv, hfrv, hb⟩
  refine ⟨_, rfl, ?_⟩
  intro a H
  have HP := (HP.next hb).keepF ⟨rowFp V.al.length Bv, fun w => IsAlts w Bv V.al.length V.al⟩ halv (fun _ _ h hk hs => ⟨h.1, h.2.keep hk hs⟩) (fun j hj => row_sep HP halv.2 hfrv hj)
  refine H.store HP 0 b_5 0 13 28 [(.int .i64 v.channel), (.int .i64 v.frame), (.int .i64 v.version), (.int .i64 v.item), (.int .i64 v.index), (.bool v.key), (.string (bstr v.data)), (.int .i64 v.regions), (.int .i64 v.gain), (.string (bstr v.caption)), (.int .i64 v.os), (.int .i64 v.of), (.slice v.A v.al.length v.c)] true (.agg #[(.int .i64 V.channel), (.int .i64 V.frame), (.int .i64 V.version), (.int .i64 V.item), (.int .i64 V.index), (.bool V.key), (.string (bstr V.data)), (.int .i64 V.regions), (.int .i64 V.gain), (.string (bstr V.caption)), (.int .i64 V.os), (.int .i64 V.of), (.slice Bv V.al.length cv)]) [bx b_5 28 [(.int .i64 V.channel), (.int .i64 V.frame), (.int .i64 V.version), (.int .i64 V.item), (.int .i64 V.index), (.bool V.key), (.string (bstr V.data)), (.int .i64 V.regions), (.int .i64 V.gain), (.string (bstr V.caption)), (.int .i64 V.os), (.int .i64 V.of), (.slice Bv V.al.length cv)] true, bx b_3 28 [(.int .i64 U.channel), (.int .i64 U.frame), (.int .i64 U.version), (.int .i64 U.item), (.int .i64 U.index), (.bool U.key), (.string (bstr U.data)), (.int .i64 U.regions), (.int .i64 U.gain), (.string (bstr U.caption)), (.int .i64 U.os), (.int .i64 U.of), (.slice Bu U.al.length cu)] true, bx b_1 23 [(.int .i64 ((rateP c).1)), (.int .i64 ((rateP c).2))] true] (by kernel_rfl) (by kernel_rfl) (by kernel_rfl) rfl (by kernel_rfl) (by kernel_rfl) (by kernel_rfl) (by kernel_rfl) (by kernel_rfl) ?_
  intro w_13 a H HP
  refine wpList_nil ?_
  refine then_normal ?_
  refine wp_seq ?_
  refine w_region ?_
  refine H.val 24 (.agg #[(.int .i64 ((rateP c).1)), (.int .i64 ((rateP c).2))]) (by kernel_rfl) (ex_loadN (vs := [(.int .i64 ((rateP c).1)), (.int .i64 ((rateP c).2))]) (by kernel_rfl) (by kernel_rfl) (by kernel_rfl) rfl (HP.cells 2 rfl 0 2 (by kernel_rfl))) ?_
  intro a H
  refine H.val 25 (.agg #[(.int .i64 U.channel), (.int .i64 U.frame), (.int .i64 U.version), (.int .i64 U.item), (.int .i64 U.index), (.bool U.key), (.string (bstr U.data)), (.int .i64 U.regions), (.int .i64 U.gain), (.string (bstr U.caption)), (.int .i64 U.os), (.int .i64 U.of), (.slice Bu U.al.length cu)]) (by kernel_rfl) (ex_loadN (vs := [(.int .i64 U.channel), (.int .i64 U.frame), (.int .i64 U.version), (.int .i64 U.item), (.int .i64 U.index), (.bool U.key), (.string (bstr U.data)), (.int .i64 U.regions), (.int .i64 U.gain), (.string (bstr U.caption)), (.int .i64 U.os), (.int .i64 U.of), (.slice Bu U.al.length cu)]) (by kernel_rfl) (by kernel_rfl) (by kernel_rfl) rfl (HP.cells 1 rfl 0 13 (by kernel_rfl))) ?_
  intro a H
  refine H.call 26 (by kernel_rfl) (Eq.trans (by kernel_rfl : _ = (callFunc 16 #[(.agg #[(.int .i64 ((rateP c).1)), (.int .i64 ((rateP c).2))]), (.agg #[(.int .i64 U.channel), (.int .i64 U.frame), (.int .i64 U.version), (.int .i64 U.item), (.int .i64 U.index), (.bool U.key), (.string (bstr U.data)), (.int .i64 U.regions), (.int .i64 U.gain), (.string (bstr U.caption)), (.int .i64 U.os), (.int .i64 U.of), (.slice Bu U.al.length cu)])]).run Tryd.prog w_13) (Tryd.call16 _ _)) ((by have hh := pack_any (rateP c).1 (rateP c).2 ({ U with A := Bu, c := cu } : Un) w_13 (hL.below (HP.below (by kernel_rfl))) (HP.fact 1 rfl) (Nat.le_trans hcau hcbu); rw [hZ Bu cu, packV_eq] at hh; exact hh)) ?_
  rintro e w_14 ⟨rfl, hb⟩
  refine ⟨_, rfl, ?_⟩
  intro a H
  have HP := HP.next hb
  refine H.val 23 (.tuple #[(.string (bstr (Z.getD []))), (.int .i64 (if Z.isSome = true then 0 else 180 : Int))]) (by kernel_rfl) (by kernel_rfl) ?_
  intro a H
  refine H.val 27 (.string (bstr (Z.getD []))) (by kernel_rfl) (by kernel_rfl) ?_
  intro a H
  refine H.val 28 (.int .i64 (if Z.isSome = true then 0 else 180 : Int)) (by kernel_rfl) (by kernel_rfl) ?_
  intro a H
  refine H.val 10 (.string (bstr (Z.getD []))) (by kernel_rfl) (by kernel_rfl) ?_
  intro a H
  refine H.val 11 (.int .i64 (if Z.isSome = true then 0 else 180 : Int)) (by kernel_rfl) (by kernel_rfl) ?_
  intro a H
  refine wpList_nil ?_
  have H := H.keep (L' := [(11, (.int .i64 (if Z.isSome = true then 0 else 180 : Int))), (10, (.string (bstr (Z.getD [])))), (22, (.agg #[(.int .i64 V.channel), (.int .i64 V.frame), (.int .i64 V.version), (.int .i64 V.item), (.int .i64 V.index), (.bool V.key), (.string (bstr V.data)), (.int .i64 V.regions), (.int .i64 V.gain), (.string (bstr V.caption)), (.int .i64 V.os), (.int .i64 V.of), (.slice Bv V.al.length cv)])), (21, (.agg #[(.int .i64 v.channel), (.int .i64 v.frame), (.int .i64 v.version), (.int .i64 v.item), (.int .i64 v.index), (.bool v.key), (.string (bstr v.data)), (.int .i64 v.regions), (.int .i64 v.gain), (.string (bstr v.caption)), (.int .i64 v.os), (.int .i64 v.of), (.slice v.A v.al.length v.c)])), (20, (.agg #[(.int .i64 U.channel), (.int .i64 U.frame), (.int .i64 U.version), (.int .i64 U.item), (.int .i64 U.index), (.bool U.key), (.string (bstr U.data)), (.int .i64 U.regions), (.int .i64 U.gain), (.string (bstr U.caption)), (.int .i64 U.os), (.int .i64 U.of), (.slice Bu U.al.length cu)])), (19, (.agg #[(.int .i64 u.channel), (.int .i64 u.frame), (.int .i64 u.version), (.int .i64 u.item), (.int .i64 u.index), (.bool u.key), (.string (bstr u.data)), (.int .i64 u.regions), (.int .i64 u.gain), (.string (bstr u.caption)), (.int .i64 u.os), (.int .i64 u.of), (.slice u.A u.al.length u.c)])), (18, (.agg #[(.int .i64 ((rateP c).1)), (.int .i64 ((rateP c).2))])), (17, (.int .i64 c)), (16, (.bool true)), (15, (.int .i64 c)), (9, (.bool true)), (14, (.bool true)), (8, (.bool false)), (7, (.pointer (some ⟨b_5, 0, none⟩))), (6, (.pointer (some ⟨b_3, 0, none⟩))), (4, (.pointer (some ⟨b_1, 0, none⟩))), (0, (.agg #[(.int .i64 rn), (.int .i64 rd)])), (1, (.int .i64 c)), (2, (.agg #[(.int .i64 u.channel), (.int .i64 u.frame), (.int .i64 u.version), (.int .i64 u.item), (.int .i64 u.index), (.bool u.key), (.string (bstr u.data)), (.int .i64 u.regions), (.int .i64 u.gain), (.string (bstr u.caption)), (.int .i64 u.os), (.int .i64 u.of), (.slice u.A u.al.length u.c)])), (3, (.agg #[(.int .i64 v.channel), (.int .i64 v.frame), (.int .i64 v.version), (.int .i64 v.item), (.int .i64 v.index), (.bool v.key), (.string (bstr v.data)), (.int .i64 v.regions), (.int .i64 v.gain), (.string (bstr v.caption)), (.int .i64 v.os), (.int .i64 v.of), (.slice v.A v.al.length v.c)]))]) (by kernel_rfl)
  refine then_normal ?_
  refine wp_seq ?_
  refine w_region ?_
  refine H.val 30 (.agg #[(.int .i64 ((rateP c).1)), (.int .i64 ((rateP c).2))]) (by kernel_rfl) (ex_loadN (vs := [(.int .i64 ((rateP c).1)), (.int .i64 ((rateP c).2))]) (by kernel_rfl) (by kernel_rfl) (by kernel_rfl) rfl (HP.cells 2 rfl 0 2 (by kernel_rfl))) ?_
  intro a H
  refine H.val 31 (.agg #[(.int .i64 U.channel), (.int .i64 U.frame), (.int .i64 U.version), (.int .i64 U.item), (.int .i64 U.index), (.bool U.key), (.string (bstr U.data)), (.int .i64 U.regions), (.int .i64 U.gain), (.string (bstr U.caption)), (.int .i64 U.os), (.int .i64 U.of), (.slice Bu U.al.length cu)]) (by kernel_rfl) (ex_loadN (vs := [(.int .i64 U.channel), (.int .i64 U.frame), (.int .i64 U.version), (.int .i64 U.item), (.int .i64 U.index), (.bool U.key), (.string (bstr U.data)), (.int .i64 U.regions), (.int .i64 U.gain), (.string (bstr U.caption)), (.int .i64 U.os), (.int .i64 U.of), (.slice Bu U.al.length cu)]) (by kernel_rfl) (by kernel_rfl) (by kernel_rfl) rfl (HP.cells 1 rfl 0 13 (by kernel_rfl))) ?_
  intro a H
  refine H.call 32 (by kernel_rfl) (Eq.trans (by kernel_rfl : _ = (callFunc 17 #[(.agg #[(.int .i64 ((rateP c).1)), (.int .i64 ((rateP c).2))]), (.agg #[(.int .i64 U.channel), (.int .i64 U.frame), (.int .i64 U.version), (.int .i64 U.item), (.int .i64 U.index), (.bool U.key), (.string (bstr U.data)), (.int .i64 U.regions), (.int .i64 U.gain), (.string (bstr U.caption)), (.int .i64 U.os), (.int .i64 U.of), (.slice Bu U.al.length cu)])]).run Tryd.prog w_14) (Tryd.call17 _ _)) ((by have hh := rpack_any (rateP c).1 (rateP c).2 ({ U with A := Bu, c := cu } : Un) w_14 (HP.fact 1 rfl) hcau hcbu; rw [hZ Bu cu, packV_eq] at hh; exact hh)) ?_
  rintro e w_15 ⟨rfl, hb⟩
  refine ⟨_, rfl, ?_⟩
  intro a H
  have HP := HP.next hb
  refine H.val 29 (.tuple #[(.string (bstr (Z.getD []))), (.int .i64 (if Z.isSome = true then 0 else 180 : Int))]) (by kernel_rfl) (by kernel_rfl) ?_
  intro a H
  refine H.val 33 (.string (bstr (Z.getD []))) (by kernel_rfl) (by kernel_rfl) ?_
  intro a H
  refine H.val 34 (.int .i64 (if Z.isSome = true then 0 else 180 : Int)) (by kernel_rfl) (by kernel_rfl) ?_
  intro a H
  refine H.val 12 (.string (bstr (Z.getD []))) (by kernel_rfl) (by kernel_rfl) ?_
  intro a H
  refine H.val 13 (.int .i64 (if Z.isSome = true then 0 else 180 : Int)) (by kernel_rfl) (by kernel_rfl) ?_
  intro a H
  refine wpList_nil ?_
  have H := H.keep (L' := [(13, (.int .i64 (if Z.isSome = true then 0 else 180 : Int))), (12, (.string (bstr (Z.getD [])))), (11, (.int .i64 (if Z.isSome = true then 0 else 180 : Int))), (10, (.string (bstr (Z.getD [])))), (22, (.agg #[(.int .i64 V.channel), (.int .i64 V.frame), (.int .i64 V.version), (.int .i64 V.item), (.int .i64 V.index), (.bool V.key), (.string (bstr V.data)), (.int .i64 V.regions), (.int .i64 V.gain), (.string (bstr V.caption)), (.int .i64 V.os), (.int .i64 V.of), (.slice Bv V.al.length cv)])), (21, (.agg #[(.int .i64 v.channel), (.int .i64 v.frame), (.int .i64 v.version), (.int .i64 v.item), (.int .i64 v.index), (.bool v.key), (.string (bstr v.data)), (.int .i64 v.regions), (.int .i64 v.gain), (.string (bstr v.caption)), (.int .i64 v.os), (.int .i64 v.of), (.slice v.A v.al.length v.c)])), (20, (.agg #[(.int .i64 U.channel), (.int .i64 U.frame), (.int .i64 U.version), (.int .i64 U.item), (.int .i64 U.index), (.bool U.key), (.string (bstr U.data)), (.int .i64 U.regions), (.int .i64 U.gain), (.string (bstr U.caption)), (.int .i64 U.os), (.int .i64 U.of), (.slice Bu U.al.length cu)])), (19, (.agg #[(.int .i64 u.channel), (.int .i64 u.frame), (.int .i64 u.version), (.int .i64 u.item), (.int .i64 u.index), (.bool u.key), (.string (bstr u.data)), (.int .i64 u.regions), (.int .i64 u.gain), (.string (bstr u.caption)), (.int .i64 u.os), (.int .i64 u.of), (.slice u.A u.al.length u.c)])), (18, (.agg #[(.int .i64 ((rateP c).1)), (.int .i64 ((rateP c).2))])), (17, (.int .i64 c)), (16, (.bool true)), (15, (.int .i64 c)), (9, (.bool true)), (14, (.bool true)), (8, (.bool false)), (7, (.pointer (some ⟨b_5, 0, none⟩))), (6, (.pointer (some ⟨b_3, 0, none⟩))), (4, (.pointer (some ⟨b_1, 0, none⟩))), (0, (.agg #[(.int .i64 rn), (.int .i64 rd)])), (1, (.int .i64 c)), (2, (.agg #[(.int .i64 u.channel), (.int .i64 u.frame), (.int .i64 u.version), (.int .i64 u.item), (.int .i64 u.index), (.bool u.key), (.string (bstr u.data)), (.int .i64 u.regions), (.int .i64 u.gain), (.string (bstr u.caption)), (.int .i64 u.os), (.int .i64 u.of), (.slice u.A u.al.length u.c)])), (3, (.agg #[(.int .i64 v.channel), (.int .i64 v.frame), (.int .i64 v.version), (.int .i64 v.item), (.int .i64 v.index), (.bool v.key), (.string (bstr v.data)), (.int .i64 v.regions), (.int .i64 v.gain), (.string (bstr v.caption)), (.int .i64 v.os), (.int .i64 v.of), (.slice v.A v.al.length v.c)]))]) (by kernel_rfl)
  refine then_normal ?_
  refine wp_seq ?_
  refine An.start (fun v => Hp w v [bx b_5 28 [(.int .i64 V.channel), (.int .i64 V.frame), (.int .i64 V.version), (.int .i64 V.item), (.int .i64 V.index), (.bool V.key), (.string (bstr V.data)), (.int .i64 V.regions), (.int .i64 V.gain), (.string (bstr V.caption)), (.int .i64 V.os), (.int .i64 V.of), (.slice Bv V.al.length cv)] true, bx b_3 28 [(.int .i64 U.channel), (.int .i64 U.frame), (.int .i64 U.version), (.int .i64 U.item), (.int .i64 U.index), (.bool U.key), (.string (bstr U.data)), (.int .i64 U.regions), (.int .i64 U.gain), (.string (bstr U.caption)), (.int .i64 U.os), (.int .i64 U.of), (.slice Bu U.al.length cu)] true, bx b_1 23 [(.int .i64 ((rateP c).1)), (.int .i64 ((rateP c).2))] true] [⟨rowFp V.al.length Bv, fun w => IsAlts w Bv V.al.length V.al⟩, ⟨rowFp U.al.length Bu, fun w => IsAlts w Bu U.al.length U.al⟩]) 33 33 HP wide_follows rfl ?_
  intro w_16 HP
  refine An.pure H (.inr (HP)) 0 35 (.bool true) rfl (by kernel_rfl) (by kernel_rfl) (fun _ _ _ h => h) (fun _ => by kernel_rfl) ?_
  intro a H
  refine An.pure H (.inr (HP)) 1 36 (.bool true) rfl (by kernel_rfl) (by kernel_rfl) (fun _ _ _ h => h) (fun _ => by kernel_rfl) ?_
  intro a H
  refine An.pure H (.inr (HP)) 2 37 (.string (bstr (Z.getD []))) rfl (by kernel_rfl) (by kernel_rfl) (fun _ _ _ h => h) (fun _ => by kernel_rfl) ?_
  intro a H
  refine An.pure H (.inr (HP)) 3 38 (.string (bstr (Z.getD []))) rfl (by kernel_rfl) (by kernel_rfl) (fun _ _ _ h => h) (fun _ => by kernel_rfl) ?_
  intro a H
  refine An.pureE H (.inr (HP)) 4 39 (.bool ((bstr (Z.getD [])).toList == (bstr (Z.getD [])).toList)) (.bool true) rfl (by kernel_rfl) (by kernel_rfl) (fun _ _ _ h => h) (fun _ => by kernel_rfl) ((congrArg Value.bool (beq_self_eq_true _))) ?_
  intro a H
  refine An.pure H (.inr (HP)) 5 40 (.bool true) rfl (by kernel_rfl) (by kernel_rfl) (fun _ _ _ h => h) (fun _ => by kernel_rfl) ?_
  intro a H
  refine An.pure H (.inr (HP)) 6 41 (.bool true) rfl (by kernel_rfl) (by kernel_rfl) (fun _ _ _ h => h) (fun _ => by kernel_rfl) ?_
  intro a H
  refine An.pure H (.inr (HP)) 7 42 (.int .i64 (if Z.isSome = true then 0 else 180 : Int)) rfl (by kernel_rfl) (by kernel_rfl) (fun _ _ _ h => h) (fun _ => by kernel_rfl) ?_
  intro a H
  refine An.pure H (.inr (HP)) 8 43 (.int .i64 (if Z.isSome = true then 0 else 180 : Int)) rfl (by kernel_rfl) (by kernel_rfl) (fun _ _ _ h => h) (fun _ => by kernel_rfl) ?_
  intro a H
  refine An.pureE H (.inr (HP)) 9 44 (.bool ((if Z.isSome = true then 0 else 180 : Int) == (if Z.isSome = true then 0 else 180 : Int))) (.bool true) rfl (by kernel_rfl) (by kernel_rfl) (fun _ _ _ h => h) (fun _ => by kernel_rfl) ((congrArg Value.bool (beq_self_eq_true _))) ?_
  intro a H
  refine An.pure H (.inr (HP)) 10 45 (.bool true) rfl (by kernel_rfl) (by kernel_rfl) (fun _ _ _ h => h) (fun _ => by kernel_rfl) ?_
  intro a H
  refine An.pure H (.inr (HP)) 11 46 (.bool true) rfl (by kernel_rfl) (by kernel_rfl) (fun _ _ _ h => h) (fun _ => by kernel_rfl) ?_
  intro a H
  refine An.val H (HP) 12 47 (.agg #[(.int .i64 U.channel), (.int .i64 U.frame), (.int .i64 U.version), (.int .i64 U.item), (.int .i64 U.index), (.bool U.key), (.string (bstr U.data)), (.int .i64 U.regions), (.int .i64 U.gain), (.string (bstr U.caption)), (.int .i64 U.os), (.int .i64 U.of), (.slice Bu U.al.length cu)]) rfl (by kernel_rfl) (by kernel_rfl) (fun _ _ _ h => h) (fun _ hS => ex_loadN (vs := [(.int .i64 U.channel), (.int .i64 U.frame), (.int .i64 U.version), (.int .i64 U.item), (.int .i64 U.index), (.bool U.key), (.string (bstr U.data)), (.int .i64 U.regions), (.int .i64 U.gain), (.string (bstr U.caption)), (.int .i64 U.os), (.int .i64 U.of), (.slice Bu U.al.length cu)]) (by kernel_rfl) (by kernel_rfl) (by kernel_rfl) rfl (hS.cells 1 rfl 0 13 (by kernel_rfl))) ?_
  intro a H
  refine An.val H (HP) 14 49 (.agg #[(.int .i64 U.channel), (.int .i64 U.frame), (.int .i64 U.version), (.int .i64 U.item), (.int .i64 U.index), (.bool U.key), (.string (bstr U.data)), (.int .i64 U.regions), (.int .i64 U.gain), (.string (bstr U.caption)), (.int .i64 U.os), (.int .i64 U.of), (.slice Bu U.al.length cu)]) rfl (by kernel_rfl) (by kernel_rfl) (fun _ _ _ h => h) (fun _ hS => ex_loadN (vs := [(.int .i64 U.channel), (.int .i64 U.frame), (.int .i64 U.version), (.int .i64 U.item), (.int .i64 U.index), (.bool U.key), (.string (bstr U.data)), (.int .i64 U.regions), (.int .i64 U.gain), (.string (bstr U.caption)), (.int .i64 U.os), (.int .i64 U.of), (.slice Bu U.al.length cu)]) (by kernel_rfl) (by kernel_rfl) (by kernel_rfl) rfl (hS.cells 1 rfl 0 13 (by kernel_rfl))) ?_
  intro a H
  refine An.one 13 (by kernel_rfl) ?_
  refine Op.call H 48 rfl (by kernel_rfl) (Eq.trans (by kernel_rfl : _ = (callFunc 18 #[(.agg #[(.int .i64 U.channel), (.int .i64 U.frame), (.int .i64 U.version), (.int .i64 U.item), (.int .i64 U.index), (.bool U.key), (.string (bstr U.data)), (.int .i64 U.regions), (.int .i64 U.gain), (.string (bstr U.caption)), (.int .i64 U.os), (.int .i64 U.of), (.slice Bu U.al.length cu)])]).run Tryd.prog w_16) (Tryd.call18 _ _)) (uvalid_any ({ U with A := Bu, c := cu } : Un) w_16 (HP.fact 1 rfl) (Nat.le_trans hcau hcbu)) ?_
  rintro e w_17 ⟨rfl, hb⟩
  refine ⟨_, rfl, ?_⟩
  intro a H
  have HP := HP.next hb
  refine ⟨.inr (HP), ?_⟩
  refine An.one 15 (by kernel_rfl) ?_
  refine Op.call H 50 rfl (by kernel_rfl) (Eq.trans (by kernel_rfl : _ = (callFunc 19 #[(.agg #[(.int .i64 U.channel), (.int .i64 U.frame), (.int .i64 U.version), (.int .i64 U.item), (.int .i64 U.index), (.bool U.key), (.string (bstr U.data)), (.int .i64 U.regions), (.int .i64 U.gain), (.string (bstr U.caption)), (.int .i64 U.os), (.int .i64 U.of), (.slice Bu U.al.length cu)])]).run Tryd.prog w_17) (Tryd.call19 _ _)) (ruvalid_any ({ U with A := Bu, c := cu } : Un) w_17 (HP.fact 1 rfl) (Nat.le_trans hcau hcbu)) ?_
  rintro e w_18 ⟨rfl, hb⟩
  refine ⟨_, rfl, ?_⟩
  intro a H
  have HP := HP.next hb
  refine ⟨.inr (HP), ?_⟩
  refine An.pureE H (.inr (HP)) 16 51 (.bool ((validU U) == (validU U))) (.bool true) rfl (by kernel_rfl) (by kernel_rfl) (fun _ _ _ h => h) (fun _ => by kernel_rfl) ((congrArg Value.bool (beq_self_eq_true _))) ?_
  intro a H
  refine An.pure H (.inr (HP)) 17 52 (.bool true) rfl (by kernel_rfl) (by kernel_rfl) (fun _ _ _ h => h) (fun _ => by kernel_rfl) ?_
  intro a H
  refine An.pure H (.inr (HP)) 18 53 (.bool true) rfl (by kernel_rfl) (by kernel_rfl) (fun _ _ _ h => h) (fun _ => by kernel_rfl) ?_
  intro a H
  refine An.val H (HP) 19 54 (.agg #[(.int .i64 U.channel), (.int .i64 U.frame), (.int .i64 U.version), (.int .i64 U.item), (.int .i64 U.index), (.bool U.key), (.string (bstr U.data)), (.int .i64 U.regions), (.int .i64 U.gain), (.string (bstr U.caption)), (.int .i64 U.os), (.int .i64 U.of), (.slice Bu U.al.length cu)]) rfl (by kernel_rfl) (by kernel_rfl) (fun _ _ _ h => h) (fun _ hS => ex_loadN (vs := [(.int .i64 U.channel), (.int .i64 U.frame), (.int .i64 U.version), (.int .i64 U.item), (.int .i64 U.index), (.bool U.key), (.string (bstr U.data)), (.int .i64 U.regions), (.int .i64 U.gain), (.string (bstr U.caption)), (.int .i64 U.os), (.int .i64 U.of), (.slice Bu U.al.length cu)]) (by kernel_rfl) (by kernel_rfl) (by kernel_rfl) rfl (hS.cells 1 rfl 0 13 (by kernel_rfl))) ?_
  intro a H
  refine An.val H (HP) 20 55 (.agg #[(.int .i64 V.channel), (.int .i64 V.frame), (.int .i64 V.version), (.int .i64 V.item), (.int .i64 V.index), (.bool V.key), (.string (bstr V.data)), (.int .i64 V.regions), (.int .i64 V.gain), (.string (bstr V.caption)), (.int .i64 V.os), (.int .i64 V.of), (.slice Bv V.al.length cv)]) rfl (by kernel_rfl) (by kernel_rfl) (fun _ _ _ h => h) (fun _ hS => ex_loadN (vs := [(.int .i64 V.channel), (.int .i64 V.frame), (.int .i64 V.version), (.int .i64 V.item), (.int .i64 V.index), (.bool V.key), (.string (bstr V.data)), (.int .i64 V.regions), (.int .i64 V.gain), (.string (bstr V.caption)), (.int .i64 V.os), (.int .i64 V.of), (.slice Bv V.al.length cv)]) (by kernel_rfl) (by kernel_rfl) (by kernel_rfl) rfl (hS.cells 0 rfl 0 13 (by kernel_rfl))) ?_
  intro a H
  refine An.val H (HP) 22 57 (.agg #[(.int .i64 U.channel), (.int .i64 U.frame), (.int .i64 U.version), (.int .i64 U.item), (.int .i64 U.index), (.bool U.key), (.string (bstr U.data)), (.int .i64 U.regions), (.int .i64 U.gain), (.string (bstr U.caption)), (.int .i64 U.os), (.int .i64 U.of), (.slice Bu U.al.length cu)]) rfl (by kernel_rfl) (by kernel_rfl) (fun _ _ _ h => h) (fun _ hS => ex_loadN (vs := [(.int .i64 U.channel), (.int .i64 U.frame), (.int .i64 U.version), (.int .i64 U.item), (.int .i64 U.index), (.bool U.key), (.string (bstr U.data)), (.int .i64 U.regions), (.int .i64 U.gain), (.string (bstr U.caption)), (.int .i64 U.os), (.int .i64 U.of), (.slice Bu U.al.length cu)]) (by kernel_rfl) (by kernel_rfl) (by kernel_rfl) rfl (hS.cells 1 rfl 0 13 (by kernel_rfl))) ?_
  intro a H
  refine An.val H (HP) 23 58 (.agg #[(.int .i64 V.channel), (.int .i64 V.frame), (.int .i64 V.version), (.int .i64 V.item), (.int .i64 V.index), (.bool V.key), (.string (bstr V.data)), (.int .i64 V.regions), (.int .i64 V.gain), (.string (bstr V.caption)), (.int .i64 V.os), (.int .i64 V.of), (.slice Bv V.al.length cv)]) rfl (by kernel_rfl) (by kernel_rfl) (fun _ _ _ h => h) (fun _ hS => ex_loadN (vs := [(.int .i64 V.channel), (.int .i64 V.frame), (.int .i64 V.version), (.int .i64 V.item), (.int .i64 V.index), (.bool V.key), (.string (bstr V.data)), (.int .i64 V.regions), (.int .i64 V.gain), (.string (bstr V.caption)), (.int .i64 V.os), (.int .i64 V.of), (.slice Bv V.al.length cv)]) (by kernel_rfl) (by kernel_rfl) (by kernel_rfl) rfl (hS.cells 0 rfl 0 13 (by kernel_rfl))) ?_
  intro a H
  refine An.one 21 (by kernel_rfl) ?_
  refine Op.call H 56 rfl (by kernel_rfl) (Eq.trans (by kernel_rfl : _ = (callFunc 20 #[(.agg #[(.int .i64 U.channel), (.int .i64 U.frame), (.int .i64 U.version), (.int .i64 U.item), (.int .i64 U.index), (.bool U.key), (.string (bstr U.data)), (.int .i64 U.regions), (.int .i64 U.gain), (.string (bstr U.caption)), (.int .i64 U.os), (.int .i64 U.of), (.slice Bu U.al.length cu)]), (.agg #[(.int .i64 V.channel), (.int .i64 V.frame), (.int .i64 V.version), (.int .i64 V.item), (.int .i64 V.index), (.bool V.key), (.string (bstr V.data)), (.int .i64 V.regions), (.int .i64 V.gain), (.string (bstr V.caption)), (.int .i64 V.os), (.int .i64 V.of), (.slice Bv V.al.length cv)])]).run Tryd.prog w_18) (Tryd.call20 _ _)) (usame_any ({ U with A := Bu, c := cu } : Un) ({ V with A := Bv, c := cv } : Un) w_18 (HP.fact 1 rfl) (HP.fact 0 rfl) (Nat.le_trans hcau hcbu)) ?_
  rintro e w_19 ⟨rfl, hb⟩
  refine ⟨_, rfl, ?_⟩
  intro a H
  have HP := HP.next hb
  refine ⟨.inr (HP), ?_⟩
  refine An.one 24 (by kernel_rfl) ?_
  refine Op.call H 59 rfl (by kernel_rfl) (Eq.trans (by kernel_rfl : _ = (callFunc 21 #[(.agg #[(.int .i64 U.channel), (.int .i64 U.frame), (.int .i64 U.version), (.int .i64 U.item), (.int .i64 U.index), (.bool U.key), (.string (bstr U.data)), (.int .i64 U.regions), (.int .i64 U.gain), (.string (bstr U.caption)), (.int .i64 U.os), (.int .i64 U.of), (.slice Bu U.al.length cu)]), (.agg #[(.int .i64 V.channel), (.int .i64 V.frame), (.int .i64 V.version), (.int .i64 V.item), (.int .i64 V.index), (.bool V.key), (.string (bstr V.data)), (.int .i64 V.regions), (.int .i64 V.gain), (.string (bstr V.caption)), (.int .i64 V.os), (.int .i64 V.of), (.slice Bv V.al.length cv)])]).run Tryd.prog w_19) (Tryd.call21 _ _)) (rusame_any ({ U with A := Bu, c := cu } : Un) ({ V with A := Bv, c := cv } : Un) w_19 (HP.fact 1 rfl) (HP.fact 0 rfl) (Nat.le_trans hcau hcbu)) ?_
  rintro e w_20 ⟨rfl, hb⟩
  refine ⟨_, rfl, ?_⟩
  intro a H
  have HP := HP.next hb
  refine ⟨.inr (HP), ?_⟩
  refine An.pureE H (.inr (HP)) 25 60 (.bool ((sameU U V) == (sameU U V))) (.bool true) rfl (by kernel_rfl) (by kernel_rfl) (fun _ _ _ h => h) (fun _ => by kernel_rfl) ((congrArg Value.bool (beq_self_eq_true _))) ?_
  intro a H
  refine An.pure H (.inr (HP)) 26 61 (.bool true) rfl (by kernel_rfl) (by kernel_rfl) (fun _ _ _ h => h) (fun _ => by kernel_rfl) ?_
  intro a H
  refine An.pure H (.inr (HP)) 27 62 (.bool true) rfl (by kernel_rfl) (by kernel_rfl) (fun _ _ _ h => h) (fun _ => by kernel_rfl) ?_
  intro a H
  refine An.val H (HP) 28 63 (.agg #[(.int .i64 U.channel), (.int .i64 U.frame), (.int .i64 U.version), (.int .i64 U.item), (.int .i64 U.index), (.bool U.key), (.string (bstr U.data)), (.int .i64 U.regions), (.int .i64 U.gain), (.string (bstr U.caption)), (.int .i64 U.os), (.int .i64 U.of), (.slice Bu U.al.length cu)]) rfl (by kernel_rfl) (by kernel_rfl) (fun _ _ _ h => h) (fun _ hS => ex_loadN (vs := [(.int .i64 U.channel), (.int .i64 U.frame), (.int .i64 U.version), (.int .i64 U.item), (.int .i64 U.index), (.bool U.key), (.string (bstr U.data)), (.int .i64 U.regions), (.int .i64 U.gain), (.string (bstr U.caption)), (.int .i64 U.os), (.int .i64 U.of), (.slice Bu U.al.length cu)]) (by kernel_rfl) (by kernel_rfl) (by kernel_rfl) rfl (hS.cells 1 rfl 0 13 (by kernel_rfl))) ?_
  intro a H
  refine An.val H (HP) 29 64 (.agg #[(.int .i64 U.channel), (.int .i64 U.frame), (.int .i64 U.version), (.int .i64 U.item), (.int .i64 U.index), (.bool U.key), (.string (bstr U.data)), (.int .i64 U.regions), (.int .i64 U.gain), (.string (bstr U.caption)), (.int .i64 U.os), (.int .i64 U.of), (.slice Bu U.al.length cu)]) rfl (by kernel_rfl) (by kernel_rfl) (fun _ _ _ h => h) (fun _ hS => ex_loadN (vs := [(.int .i64 U.channel), (.int .i64 U.frame), (.int .i64 U.version), (.int .i64 U.item), (.int .i64 U.index), (.bool U.key), (.string (bstr U.data)), (.int .i64 U.regions), (.int .i64 U.gain), (.string (bstr U.caption)), (.int .i64 U.os), (.int .i64 U.of), (.slice Bu U.al.length cu)]) (by kernel_rfl) (by kernel_rfl) (by kernel_rfl) rfl (hS.cells 1 rfl 0 13 (by kernel_rfl))) ?_
  intro a H
  refine An.one 30 (by kernel_rfl) ?_
  refine Op.call H 65 rfl (by kernel_rfl) (Eq.trans (by kernel_rfl : _ = (callFunc 20 #[(.agg #[(.int .i64 U.channel), (.int .i64 U.frame), (.int .i64 U.version), (.int .i64 U.item), (.int .i64 U.index), (.bool U.key), (.string (bstr U.data)), (.int .i64 U.regions), (.int .i64 U.gain), (.string (bstr U.caption)), (.int .i64 U.os), (.int .i64 U.of), (.slice Bu U.al.length cu)]), (.agg #[(.int .i64 U.channel), (.int .i64 U.frame), (.int .i64 U.version), (.int .i64 U.item), (.int .i64 U.index), (.bool U.key), (.string (bstr U.data)), (.int .i64 U.regions), (.int .i64 U.gain), (.string (bstr U.caption)), (.int .i64 U.os), (.int .i64 U.of), (.slice Bu U.al.length cu)])]).run Tryd.prog w_20) (Tryd.call20 _ _)) ((by have hh := usame_any ({ U with A := Bu, c := cu } : Un) ({ U with A := Bu, c := cu } : Un) w_20 (HP.fact 1 rfl) (HP.fact 1 rfl) (Nat.le_trans hcau hcbu); rw [(same_bare _ _).2 rfl] at hh; exact hh)) ?_
  rintro e w_21 ⟨rfl, hb⟩
  refine ⟨_, rfl, ?_⟩
  intro a H
  have HP := HP.next hb
  refine ⟨.inr (HP), ?_⟩
  refine An.pure H (.inr (HP)) 31 66 (.bool true) rfl (by kernel_rfl) (by kernel_rfl) (fun _ _ _ h => h) (fun _ => by kernel_rfl) ?_
  intro a H
  refine An.pure H (.inr (HP)) 32 8 (.bool true) rfl (by kernel_rfl) (by kernel_rfl) (fun _ _ _ h => h) (fun _ => by kernel_rfl) ?_
  intro a H
  refine An.done (by kernel_rfl) ?_
  have H := H.keep (L' := [(8, (.bool true)), (13, (.int .i64 (if Z.isSome = true then 0 else 180 : Int))), (12, (.string (bstr (Z.getD [])))), (11, (.int .i64 (if Z.isSome = true then 0 else 180 : Int))), (10, (.string (bstr (Z.getD [])))), (22, (.agg #[(.int .i64 V.channel), (.int .i64 V.frame), (.int .i64 V.version), (.int .i64 V.item), (.int .i64 V.index), (.bool V.key), (.string (bstr V.data)), (.int .i64 V.regions), (.int .i64 V.gain), (.string (bstr V.caption)), (.int .i64 V.os), (.int .i64 V.of), (.slice Bv V.al.length cv)])), (21, (.agg #[(.int .i64 v.channel), (.int .i64 v.frame), (.int .i64 v.version), (.int .i64 v.item), (.int .i64 v.index), (.bool v.key), (.string (bstr v.data)), (.int .i64 v.regions), (.int .i64 v.gain), (.string (bstr v.caption)), (.int .i64 v.os), (.int .i64 v.of), (.slice v.A v.al.length v.c)])), (20, (.agg #[(.int .i64 U.channel), (.int .i64 U.frame), (.int .i64 U.version), (.int .i64 U.item), (.int .i64 U.index), (.bool U.key), (.string (bstr U.data)), (.int .i64 U.regions), (.int .i64 U.gain), (.string (bstr U.caption)), (.int .i64 U.os), (.int .i64 U.of), (.slice Bu U.al.length cu)])), (19, (.agg #[(.int .i64 u.channel), (.int .i64 u.frame), (.int .i64 u.version), (.int .i64 u.item), (.int .i64 u.index), (.bool u.key), (.string (bstr u.data)), (.int .i64 u.regions), (.int .i64 u.gain), (.string (bstr u.caption)), (.int .i64 u.os), (.int .i64 u.of), (.slice u.A u.al.length u.c)])), (18, (.agg #[(.int .i64 ((rateP c).1)), (.int .i64 ((rateP c).2))])), (17, (.int .i64 c)), (16, (.bool true)), (15, (.int .i64 c)), (9, (.bool true)), (14, (.bool true)), (7, (.pointer (some ⟨b_5, 0, none⟩))), (6, (.pointer (some ⟨b_3, 0, none⟩))), (4, (.pointer (some ⟨b_1, 0, none⟩))), (0, (.agg #[(.int .i64 rn), (.int .i64 rd)])), (1, (.int .i64 c)), (2, (.agg #[(.int .i64 u.channel), (.int .i64 u.frame), (.int .i64 u.version), (.int .i64 u.item), (.int .i64 u.index), (.bool u.key), (.string (bstr u.data)), (.int .i64 u.regions), (.int .i64 u.gain), (.string (bstr u.caption)), (.int .i64 u.os), (.int .i64 u.of), (.slice u.A u.al.length u.c)])), (3, (.agg #[(.int .i64 v.channel), (.int .i64 v.frame), (.int .i64 v.version), (.int .i64 v.item), (.int .i64 v.index), (.bool v.key), (.string (bstr v.data)), (.int .i64 v.regions), (.int .i64 v.gain), (.string (bstr v.caption)), (.int .i64 v.os), (.int .i64 v.of), (.slice v.A v.al.length v.c)]))]) (by kernel_rfl)
  refine then_normal ?_
  refine wp_ret ?_
  refine H.ret1 (fn := Tryd.f3) Tryd.results3 (RV.tmp_ (v := (.bool true)) (by kernel_rfl)) ?_
  exact ⟨rfl, (HP.below (by kernel_rfl))⟩
set_option maxRecDepth 100000 in
set_option maxHeartbeats 4000000 in
theorem pmr_n (rn rd c : Int) (u v U V : Un) (w : World) (hU : shortU u = U) (hV : shortU v = V) (hL : Laid w) (hc : -9223372036854775808 ≤ c ∧ c ≤ 9223372036854775807) (huu : IsAlts w u.A u.al.length u.al) (hcu : u.al.length ≤ u.c) (hAu : u.A = none → u.c = 0) (huv : IsAlts w v.A v.al.length v.al) (hcv : v.al.length ≤ v.c) (hAv : v.A = none → v.c = 0) (hpos : c < 0) (Z : Option (List UInt8)) (hZ : ∀ B c', packP rn rd ({ U with A := B, c := c' } : Un) = Z) :
    Calls Tryd.prog 3 #[.agg #[.int .i64 rn, .int .i64 rd], .int .i64 c, u.val, v.val] w fun e w' => e = .returned (.bool true) ∧ Below w.heap.size w w' := by
  have HP := Hp.start w
  refine w_enter 67 [(0, (.agg #[(.int .i64 rn), (.int .i64 rd)])), (1, (.int .i64 c)), (2, (.agg #[(.int .i64 u.channel), (.int .i64 u.frame), (.int .i64 u.version), (.int .i64 u.item), (.int .i64 u.index), (.bool u.key), (.string (bstr u.data)), (.int .i64 u.regions), (.int .i64 u.gain), (.string (bstr u.caption)), (.int .i64 u.os), (.int .i64 u.of), (.slice u.A u.al.length u.c)])), (3, (.agg #[(.int .i64 v.channel), (.int .i64 v.frame), (.int .i64 v.version), (.int .i64 v.item), (.int .i64 v.index), (.bool v.key), (.string (bstr v.data)), (.int .i64 v.regions), (.int .i64 v.gain), (.string (bstr v.caption)), (.int .i64 v.os), (.int .i64 v.of), (.slice v.A v.al.length v.c)]))] Tryd.func3 rfl Tryd.ntmps3 (by kernel_rfl) (by kernel_rfl) ?_
  intro a H
  refine wp_seq ?_
  refine w_region ?_
  refine H.alloc HP 4 (fun b => (.pointer (some ⟨b, 0, none⟩))) 23 [(.int .i64 rn), (.int .i64 rd)] (by kernel_rfl) (fun w => by kernel_rfl) ?_
  intro b_1 w_2 a H HP
  refine H.alloc HP 6 (fun b => (.pointer (some ⟨b, 0, none⟩))) 28 [(.int .i64 u.channel), (.int .i64 u.frame), (.int .i64 u.version), (.int .i64 u.item), (.int .i64 u.index), (.bool u.key), (.string (bstr u.data)), (.int .i64 u.regions), (.int .i64 u.gain), (.string (bstr u.caption)), (.int .i64 u.os), (.int .i64 u.of), (.slice u.A u.al.length u.c)] (by kernel_rfl) (fun w => by kernel_rfl) ?_
  intro b_3 w_4 a H HP
  refine H.alloc HP 7 (fun b => (.pointer (some ⟨b, 0, none⟩))) 28 [(.int .i64 v.channel), (.int .i64 v.frame), (.int .i64 v.version), (.int .i64 v.item), (.int .i64 v.index), (.bool v.key), (.string (bstr v.data)), (.int .i64 v.regions), (.int .i64 v.gain), (.string (bstr v.caption)), (.int .i64 v.os), (.int .i64 v.of), (.slice v.A v.al.length v.c)] (by kernel_rfl) (fun w => by kernel_rfl) ?_
  intro b_5 w_6 a H HP
  refine H.val 8 (.bool false) (by kernel_rfl) (by kernel_rfl) ?_
  intro a H
  refine wpList_nil ?_
  refine then_normal ?_
  refine wp_seq ?_
  refine w_region ?_
  refine H.call 14 (by kernel_rfl) (Eq.trans (by kernel_rfl : _ = (callFunc 13 #[]).run Tryd.prog w_6) (Tryd.call13 _ _)) (sane_any w_6 (hL.below (HP.below (by kernel_rfl)))) ?_
  rintro e w_7 ⟨rfl, hb⟩
  refine ⟨_, rfl, ?_⟩
  intro a H
  have HP := HP.next hb
  refine H.val 9 (.bool true) (by kernel_rfl) (by kernel_rfl) ?_
  intro a H
  refine wpList_nil ?_
  refine then_normal ?_
  refine wp_seq ?_
  refine wp_seq ?_
  refine w_region ?_
  refine H.val 15 (.int .i64 c) (by kernel_rfl) (by kernel_rfl) ?_
  intro a H
  refine H.valE 16 (.bool (decide (c ≥ 0))) (.bool false) (by kernel_rfl) (by kernel_rfl) ((congrArg Value.bool (decide_eq_false (by omega)))) ?_
  intro a H
  refine wpList_nil ?_
  refine then_normal ?_
  refine w_iff H rfl ?_
  refine wp_skip ?_
  refine then_normal ?_
  refine wp_seq ?_
  refine w_region ?_
  refine H.val 19 (.agg #[(.int .i64 u.channel), (.int .i64 u.frame), (.int .i64 u.version), (.int .i64 u.item), (.int .i64 u.index), (.bool u.key), (.string (bstr u.data)), (.int .i64 u.regions), (.int .i64 u.gain), (.string (bstr u.caption)), (.int .i64 u.os), (.int .i64 u.of), (.slice u.A u.al.length u.c)]) (by kernel_rfl) (ex_loadN (vs := [(.int .i64 u.channel), (.int .i64 u.frame), (.int .i64 u.version), (.int .i64 u.item), (.int .i64 u.index), (.bool u.key), (.string (bstr u.data)), (.int .i64 u.regions), (.int .i64 u.gain), (.string (bstr u.caption)), (.int .i64 u.os), (.int .i64 u.of), (.slice u.A u.al.length u.c)]) (by kernel_rfl) (by kernel_rfl) (by kernel_rfl) rfl (HP.cells 1 rfl 0 13 (by kernel_rfl))) ?_
  intro a H
  refine H.call 20 (by kernel_rfl) (Eq.trans (by kernel_rfl : _ = (callFunc 15 #[(.agg #[(.int .i64 u.channel), (.int .i64 u.frame), (.int .i64 u.version), (.int .i64 u.item), (.int .i64 u.index), (.bool u.key), (.string (bstr u.data)), (.int .i64 u.regions), (.int .i64 u.gain), (.string (bstr u.caption)), (.int .i64 u.os), (.int .i64 u.of), (.slice u.A u.al.length u.c)])]).run Tryd.prog w_7) (Tryd.call15 _ _)) (short_anyU hU (short_any u w_7 (huu.below (HP.below (by kernel_rfl))) hcu hAu)) ?_
  rintro e w_8 ⟨Bu, cu, rfl, halu, hcau, hcbu, hccu, hfru, hb⟩
  refine ⟨_, rfl, ?_⟩
  intro a H
  have HP := (HP.next hb).keepF ⟨rowFp U.al.length Bu, fun w => IsAlts w Bu U.al.length U.al⟩ halu (fun _ _ h hk hs => ⟨h.1, h.2.keep hk hs⟩) (fun j hj => row_sep HP halu.2 hfru hj)
  refine H.store HP 1 b_3 0 13 28 [(.int .i64 u.channel), (.int .i64 u.frame), (.int .i64 u.version), (.int .i64 u.item), (.int .i64 u.index), (.bool u.key), (.string (bstr u.data)), (.int .i64 u.regions), (.int .i64 u.gain), (.string (bstr u.caption)), (.int .i64 u.os), (.int .i64 u.of), (.slice u.A u.al.length u.c)] true (.agg #[(.int .i64 U.channel), (.int .i64 U.frame), (.int .i64 U.version), (.int .i64 U.item), (.int .i64 U.index), (.bool U.key), (.string (bstr U.data)), (.int .i64 U.regions), (.int .i64 U.gain), (.string (bstr U.caption)), (.int .i64 U.os), (.int .i64 U.of), (.slice Bu U.al.length cu)]) [bx b_5 28 [(.int .i64 v.channel), (.int .i64 v.frame), (.int .i64 v.version), (.int .i64 v.item), (.int .i64 v.index), (.bool v.key), (.string (bstr v.data)), (.int .i64 v.regions), (.int .i64 v.gain), (.string (bstr v.caption)), (.int .i64 v.os), (.int .i64 v.of), (.slice v.A v.al.length v.c)] true, bx b_3 28 [(.int .i64 U.channel), (.int .i64 U.frame), (.int .i64 U.version), (.int .i64 U.item), (.int .i64 U.index), (.bool U.key), (.string (bstr U.data)), (.int .i64 U.regions), (.int .i64 U.gain), (.string (bstr U.caption)), (.int .i64 U.os), (.int .i64 U.of), (.slice Bu U.al.length cu)] true, bx b_1 23 [(.int .i64 rn), (.int .i64 rd)] true] (by kernel_rfl) (by kernel_rfl) (by kernel_rfl) rfl (by kernel_rfl) (by kernel_rfl) (by kernel_rfl) (by kernel_rfl) (by kernel_rfl) ?_
  intro w_9 a H HP
  refine wpList_nil ?_
  refine then_normal ?_
  refine wp_seq ?_
  refine w_region ?_
  refine H.val 21 (.agg #[(.int .i64 v.channel), (.int .i64 v.frame), (.int .i64 v.version), (.int .i64 v.item), (.int .i64 v.index), (.bool v.key), (.string (bstr v.data)), (.int .i64 v.regions), (.int .i64 v.gain), (.string (bstr v.caption)), (.int .i64 v.os), (.int .i64 v.of), (.slice v.A v.al.length v.c)]) (by kernel_rfl) (ex_loadN (vs := [(.int .i64 v.channel), (.int .i64 v.frame), (.int .i64 v.version), (.int .i64 v.item), (.int .i64 v.index), (.bool v.key), (.string (bstr v.data)), (.int .i64 v.regions), (.int .i64 v.gain), (.string (bstr v.caption)), (.int .i64 v.os), (.int .i64 v.of), (.slice v.A v.al.length v.c)]) (by kernel_rfl) (by kernel_rfl) (by kernel_rfl) rfl (HP.cells 0 rfl 0 13 (by kernel_rfl))) ?_
  intro a H
  refine H.call 22 (by kernel_rfl) (Eq.trans (by kernel_rfl : _ = (callFunc 15 #[(.agg #[(.int .i64 v.channel), (.int .i64 v.frame), (.int .i64 v.version), (.int .i64 v.item), (.int .i64 v.index), (.bool v.key), (.string (bstr v.data)), (.int .i64 v.regions), (.int .i64 v.gain), (.string (bstr v.caption)), (.int .i64 v.os), (.int .i64 v.of), (.slice v.A v.al.length v.c)])]).run Tryd.prog w_9) (Tryd.call15 _ _)) (short_anyU hV (short_any v w_9 (huv.below (HP.below (by kernel_rfl))) hcv hAv)) ?_
  rintro e w_10 ⟨Bv, cv, rfl, halv, hcav, hcbv, hccv, hfrv, hb⟩
  refine ⟨_, rfl, ?_⟩
  intro a H
  have HP := (HP.next hb).keepF ⟨rowFp V.al.length Bv, fun w => IsAlts w Bv V.al.length V.al⟩ halv (fun _ _ h hk hs => ⟨h.1, h.2.keep hk hs⟩) (fun j hj => row_sep HP halv.2 hfrv hj)
  refine H.store HP 0 b_5 0 13 28 [(.int .i64 v.channel), (.int .i64 v.frame), (.int .i64 v.version), (.int .i64 v.item), (.int .i64 v.index), (.bool v.key), (.string (bstr v.data)), (.int .i64 v.regions), (.int .i64 v.gain), (.string (bstr v.caption)), (.int .i64 v.os), (.int .i64 v.of), (.slice v.A v.al.length v.c)] true (.agg #[(.int .i64 V.channel), (.int .i64 V.frame), (.int .i64 V.version), (.int .i64 V.item), (.int .i64 V.index), (.bool V.key), (.string (bstr V.data)), (.int .i64 V.regions), (.int .i64 V.gain), (.string (bstr V.caption)), (.int .i64 V.os), (.int .i64 V.of), (.slice Bv V.al.length cv)]) [bx b_5 28 [(.int .i64 V.channel), (.int .i64 V.frame), (.int .i64 V.version), (.int .i64 V.item), (.int .i64 V.index), (.bool V.key), (.string (bstr V.data)), (.int .i64 V.regions), (.int .i64 V.gain), (.string (bstr V.caption)), (.int .i64 V.os), (.int .i64 V.of), (.slice Bv V.al.length cv)] true, bx b_3 28 [(.int .i64 U.channel), (.int .i64 U.frame), (.int .i64 U.version), (.int .i64 U.item), (.int .i64 U.index), (.bool U.key), (.string (bstr U.data)), (.int .i64 U.regions), (.int .i64 U.gain), (.string (bstr U.caption)), (.int .i64 U.os), (.int .i64 U.of), (.slice Bu U.al.length cu)] true, bx b_1 23 [(.int .i64 rn), (.int .i64 rd)] true] (by kernel_rfl) (by kernel_rfl) (by kernel_rfl) rfl (by kernel_rfl) (by kernel_rfl) (by kernel_rfl) (by kernel_rfl) (by kernel_rfl) ?_
  intro w_11 a H HP
  refine wpList_nil ?_
  refine then_normal ?_
  refine wp_seq ?_
  refine w_region ?_
  refine H.val 24 (.agg #[(.int .i64 rn), (.int .i64 rd)]) (by kernel_rfl) (ex_loadN (vs := [(.int .i64 rn), (.int .i64 rd)]) (by kernel_rfl) (by kernel_rfl) (by kernel_rfl) rfl (HP.cells 2 rfl 0 2 (by kernel_rfl))) ?_
  intro a H
  refine H.val 25 (.agg #[(.int .i64 U.channel), (.int .i64 U.frame), (.int .i64 U.version), (.int .i64 U.item), (.int .i64 U.index), (.bool U.key), (.string (bstr U.data)), (.int .i64 U.regions), (.int .i64 U.gain), (.string (bstr U.caption)), (.int .i64 U.os), (.int .i64 U.of), (.slice Bu U.al.length cu)]) (by kernel_rfl) (ex_loadN (vs := [(.int .i64 U.channel), (.int .i64 U.frame), (.int .i64 U.version), (.int .i64 U.item), (.int .i64 U.index), (.bool U.key), (.string (bstr U.data)), (.int .i64 U.regions), (.int .i64 U.gain), (.string (bstr U.caption)), (.int .i64 U.os), (.int .i64 U.of), (.slice Bu U.al.length cu)]) (by kernel_rfl) (by kernel_rfl) (by kernel_rfl) rfl (HP.cells 1 rfl 0 13 (by kernel_rfl))) ?_
  intro a H
  refine H.call 26 (by kernel_rfl) (Eq.trans (by kernel_rfl : _ = (callFunc 16 #[(.agg #[(.int .i64 rn), (.int .i64 rd)]), (.agg #[(.int .i64 U.channel), (.int .i64 U.frame), (.int .i64 U.version), (.int .i64 U.item), (.int .i64 U.index), (.bool U.key), (.string (bstr U.data)), (.int .i64 U.regions), (.int .i64 U.gain), (.string (bstr U.caption)), (.int .i64 U.os), (.int .i64 U.of), (.slice Bu U.al.length cu)])]).run Tryd.prog w_11) (Tryd.call16 _ _)) ((by have hh := pack_any rn rd ({ U with A := Bu, c := cu } : Un) w_11 (hL.below (HP.below (by kernel_rfl))) (HP.fact 1 rfl) (Nat.le_trans hcau hcbu); rw [hZ Bu cu, packV_eq] at hh; exact hh)) ?_
  rintro e w_12 ⟨rfl, hb⟩
  refine ⟨_, rfl, ?_⟩
  intro a H
  have HP := HP.next hb
  refine H.val 23 (.tuple #[(.string (bstr (Z.getD []))), (.int .i64 (if Z.isSome = true then 0 else 180 : Int))]) (by kernel_rfl) (by kernel_rfl) ?_
  intro a H
  refine H.val 27 (.string (bstr (Z.getD []))) (by kernel_rfl) (by kernel_rfl) ?_
  intro a H
  refine H.val 28 (.int .i64 (if Z.isSome = true then 0 else 180 : Int)) (by kernel_rfl) (by kernel_rfl) ?_
  intro a H
  refine H.val 10 (.string (bstr (Z.getD []))) (by kernel_rfl) (by kernel_rfl) ?_
  intro a H
  refine H.val 11 (.int .i64 (if Z.isSome = true then 0 else 180 : Int)) (by kernel_rfl) (by kernel_rfl) ?_
  intro a H
  refine wpList_nil ?_
  have H := H.keep (L' := [(11, (.int .i64 (if Z.isSome = true then 0 else 180 : Int))), (10, (.string (bstr (Z.getD [])))), (22, (.agg #[(.int .i64 V.channel), (.int .i64 V.frame), (.int .i64 V.version), (.int .i64 V.item), (.int .i64 V.index), (.bool V.key), (.string (bstr V.data)), (.int .i64 V.regions), (.int .i64 V.gain), (.string (bstr V.caption)), (.int .i64 V.os), (.int .i64 V.of), (.slice Bv V.al.length cv)])), (21, (.agg #[(.int .i64 v.channel), (.int .i64 v.frame), (.int .i64 v.version), (.int .i64 v.item), (.int .i64 v.index), (.bool v.key), (.string (bstr v.data)), (.int .i64 v.regions), (.int .i64 v.gain), (.string (bstr v.caption)), (.int .i64 v.os), (.int .i64 v.of), (.slice v.A v.al.length v.c)])), (20, (.agg #[(.int .i64 U.channel), (.int .i64 U.frame), (.int .i64 U.version), (.int .i64 U.item), (.int .i64 U.index), (.bool U.key), (.string (bstr U.data)), (.int .i64 U.regions), (.int .i64 U.gain), (.string (bstr U.caption)), (.int .i64 U.os), (.int .i64 U.of), (.slice Bu U.al.length cu)])), (19, (.agg #[(.int .i64 u.channel), (.int .i64 u.frame), (.int .i64 u.version), (.int .i64 u.item), (.int .i64 u.index), (.bool u.key), (.string (bstr u.data)), (.int .i64 u.regions), (.int .i64 u.gain), (.string (bstr u.caption)), (.int .i64 u.os), (.int .i64 u.of), (.slice u.A u.al.length u.c)])), (16, (.bool false)), (15, (.int .i64 c)), (9, (.bool true)), (14, (.bool true)), (8, (.bool false)), (7, (.pointer (some ⟨b_5, 0, none⟩))), (6, (.pointer (some ⟨b_3, 0, none⟩))), (4, (.pointer (some ⟨b_1, 0, none⟩))), (0, (.agg #[(.int .i64 rn), (.int .i64 rd)])), (1, (.int .i64 c)), (2, (.agg #[(.int .i64 u.channel), (.int .i64 u.frame), (.int .i64 u.version), (.int .i64 u.item), (.int .i64 u.index), (.bool u.key), (.string (bstr u.data)), (.int .i64 u.regions), (.int .i64 u.gain), (.string (bstr u.caption)), (.int .i64 u.os), (.int .i64 u.of), (.slice u.A u.al.length u.c)])), (3, (.agg #[(.int .i64 v.channel), (.int .i64 v.frame), (.int .i64 v.version), (.int .i64 v.item), (.int .i64 v.index), (.bool v.key), (.string (bstr v.data)), (.int .i64 v.regions), (.int .i64 v.gain), (.string (bstr v.caption)), (.int .i64 v.os), (.int .i64 v.of), (.slice v.A v.al.length v.c)]))]) (by kernel_rfl)
  refine then_normal ?_
  refine wp_seq ?_
  refine w_region ?_
  refine H.val 30 (.agg #[(.int .i64 rn), (.int .i64 rd)]) (by kernel_rfl) (ex_loadN (vs := [(.int .i64 rn), (.int .i64 rd)]) (by kernel_rfl) (by kernel_rfl) (by kernel_rfl) rfl (HP.cells 2 rfl 0 2 (by kernel_rfl))) ?_
  intro a H
  refine H.val 31 (.agg #[(.int .i64 U.channel), (.int .i64 U.frame), (.int .i64 U.version), (.int .i64 U.item), (.int .i64 U.index), (.bool U.key), (.string (bstr U.data)), (.int .i64 U.regions), (.int .i64 U.gain), (.string (bstr U.caption)), (.int .i64 U.os), (.int .i64 U.of), (.slice Bu U.al.length cu)]) (by kernel_rfl) (ex_loadN (vs := [(.int .i64 U.channel), (.int .i64 U.frame), (.int .i64 U.version), (.int .i64 U.item), (.int .i64 U.index), (.bool U.key), (.string (bstr U.data)), (.int .i64 U.regions), (.int .i64 U.gain), (.string (bstr U.caption)), (.int .i64 U.os), (.int .i64 U.of), (.slice Bu U.al.length cu)]) (by kernel_rfl) (by kernel_rfl) (by kernel_rfl) rfl (HP.cells 1 rfl 0 13 (by kernel_rfl))) ?_
  intro a H
  refine H.call 32 (by kernel_rfl) (Eq.trans (by kernel_rfl : _ = (callFunc 17 #[(.agg #[(.int .i64 rn), (.int .i64 rd)]), (.agg #[(.int .i64 U.channel), (.int .i64 U.frame), (.int .i64 U.version), (.int .i64 U.item), (.int .i64 U.index), (.bool U.key), (.string (bstr U.data)), (.int .i64 U.regions), (.int .i64 U.gain), (.string (bstr U.caption)), (.int .i64 U.os), (.int .i64 U.of), (.slice Bu U.al.length cu)])]).run Tryd.prog w_12) (Tryd.call17 _ _)) ((by have hh := rpack_any rn rd ({ U with A := Bu, c := cu } : Un) w_12 (HP.fact 1 rfl) hcau hcbu; rw [hZ Bu cu, packV_eq] at hh; exact hh)) ?_
  rintro e w_13 ⟨rfl, hb⟩
  refine ⟨_, rfl, ?_⟩
  intro a H
  have HP := HP.next hb
  refine H.val 29 (.tuple #[(.string (bstr (Z.getD []))), (.int .i64 (if Z.isSome = true then 0 else 180 : Int))]) (by kernel_rfl) (by kernel_rfl) ?_
  intro a H
  refine H.val 33 (.string (bstr (Z.getD []))) (by kernel_rfl) (by kernel_rfl) ?_
  intro a H
  refine H.val 34 (.int .i64 (if Z.isSome = true then 0 else 180 : Int)) (by kernel_rfl) (by kernel_rfl) ?_
  intro a H
  refine H.val 12 (.string (bstr (Z.getD []))) (by kernel_rfl) (by kernel_rfl) ?_
  intro a H
  refine H.val 13 (.int .i64 (if Z.isSome = true then 0 else 180 : Int)) (by kernel_rfl) (by kernel_rfl) ?_
  intro a H
  refine wpList_nil ?_
  have H := H.keep (L' := [(13, (.int .i64 (if Z.isSome = true then 0 else 180 : Int))), (12, (.string (bstr (Z.getD [])))), (11, (.int .i64 (if Z.isSome = true then 0 else 180 : Int))), (10, (.string (bstr (Z.getD [])))), (22, (.agg #[(.int .i64 V.channel), (.int .i64 V.frame), (.int .i64 V.version), (.int .i64 V.item), (.int .i64 V.index), (.bool V.key), (.string (bstr V.data)), (.int .i64 V.regions), (.int .i64 V.gain), (.string (bstr V.caption)), (.int .i64 V.os), (.int .i64 V.of), (.slice Bv V.al.length cv)])), (21, (.agg #[(.int .i64 v.channel), (.int .i64 v.frame), (.int .i64 v.version), (.int .i64 v.item), (.int .i64 v.index), (.bool v.key), (.string (bstr v.data)), (.int .i64 v.regions), (.int .i64 v.gain), (.string (bstr v.caption)), (.int .i64 v.os), (.int .i64 v.of), (.slice v.A v.al.length v.c)])), (20, (.agg #[(.int .i64 U.channel), (.int .i64 U.frame), (.int .i64 U.version), (.int .i64 U.item), (.int .i64 U.index), (.bool U.key), (.string (bstr U.data)), (.int .i64 U.regions), (.int .i64 U.gain), (.string (bstr U.caption)), (.int .i64 U.os), (.int .i64 U.of), (.slice Bu U.al.length cu)])), (19, (.agg #[(.int .i64 u.channel), (.int .i64 u.frame), (.int .i64 u.version), (.int .i64 u.item), (.int .i64 u.index), (.bool u.key), (.string (bstr u.data)), (.int .i64 u.regions), (.int .i64 u.gain), (.string (bstr u.caption)), (.int .i64 u.os), (.int .i64 u.of), (.slice u.A u.al.length u.c)])), (16, (.bool false)), (15, (.int .i64 c)), (9, (.bool true)), (14, (.bool true)), (8, (.bool false)), (7, (.pointer (some ⟨b_5, 0, none⟩))), (6, (.pointer (some ⟨b_3, 0, none⟩))), (4, (.pointer (some ⟨b_1, 0, none⟩))), (0, (.agg #[(.int .i64 rn), (.int .i64 rd)])), (1, (.int .i64 c)), (2, (.agg #[(.int .i64 u.channel), (.int .i64 u.frame), (.int .i64 u.version), (.int .i64 u.item), (.int .i64 u.index), (.bool u.key), (.string (bstr u.data)), (.int .i64 u.regions), (.int .i64 u.gain), (.string (bstr u.caption)), (.int .i64 u.os), (.int .i64 u.of), (.slice u.A u.al.length u.c)])), (3, (.agg #[(.int .i64 v.channel), (.int .i64 v.frame), (.int .i64 v.version), (.int .i64 v.item), (.int .i64 v.index), (.bool v.key), (.string (bstr v.data)), (.int .i64 v.regions), (.int .i64 v.gain), (.string (bstr v.caption)), (.int .i64 v.os), (.int .i64 v.of), (.slice v.A v.al.length v.c)]))]) (by kernel_rfl)
  refine then_normal ?_
  refine wp_seq ?_
  refine An.start (fun v => Hp w v [bx b_5 28 [(.int .i64 V.channel), (.int .i64 V.frame), (.int .i64 V.version), (.int .i64 V.item), (.int .i64 V.index), (.bool V.key), (.string (bstr V.data)), (.int .i64 V.regions), (.int .i64 V.gain), (.string (bstr V.caption)), (.int .i64 V.os), (.int .i64 V.of), (.slice Bv V.al.length cv)] true, bx b_3 28 [(.int .i64 U.channel), (.int .i64 U.frame), (.int .i64 U.version), (.int .i64 U.item), (.int .i64 U.index), (.bool U.key), (.string (bstr U.data)), (.int .i64 U.regions), (.int .i64 U.gain), (.string (bstr U.caption)), (.int .i64 U.os), (.int .i64 U.of), (.slice Bu U.al.length cu)] true, bx b_1 23 [(.int .i64 rn), (.int .i64 rd)] true] [⟨rowFp V.al.length Bv, fun w => IsAlts w Bv V.al.length V.al⟩, ⟨rowFp U.al.length Bu, fun w => IsAlts w Bu U.al.length U.al⟩]) 33 33 HP wide_follows rfl ?_
  intro w_14 HP
  refine An.pure H (.inr (HP)) 0 35 (.bool true) rfl (by kernel_rfl) (by kernel_rfl) (fun _ _ _ h => h) (fun _ => by kernel_rfl) ?_
  intro a H
  refine An.pure H (.inr (HP)) 1 36 (.bool true) rfl (by kernel_rfl) (by kernel_rfl) (fun _ _ _ h => h) (fun _ => by kernel_rfl) ?_
  intro a H
  refine An.pure H (.inr (HP)) 2 37 (.string (bstr (Z.getD []))) rfl (by kernel_rfl) (by kernel_rfl) (fun _ _ _ h => h) (fun _ => by kernel_rfl) ?_
  intro a H
  refine An.pure H (.inr (HP)) 3 38 (.string (bstr (Z.getD []))) rfl (by kernel_rfl) (by kernel_rfl) (fun _ _ _ h => h) (fun _ => by kernel_rfl) ?_
  intro a H
  refine An.pureE H (.inr (HP)) 4 39 (.bool ((bstr (Z.getD [])).toList == (bstr (Z.getD [])).toList)) (.bool true) rfl (by kernel_rfl) (by kernel_rfl) (fun _ _ _ h => h) (fun _ => by kernel_rfl) ((congrArg Value.bool (beq_self_eq_true _))) ?_
  intro a H
  refine An.pure H (.inr (HP)) 5 40 (.bool true) rfl (by kernel_rfl) (by kernel_rfl) (fun _ _ _ h => h) (fun _ => by kernel_rfl) ?_
  intro a H
  refine An.pure H (.inr (HP)) 6 41 (.bool true) rfl (by kernel_rfl) (by kernel_rfl) (fun _ _ _ h => h) (fun _ => by kernel_rfl) ?_
  intro a H
  refine An.pure H (.inr (HP)) 7 42 (.int .i64 (if Z.isSome = true then 0 else 180 : Int)) rfl (by kernel_rfl) (by kernel_rfl) (fun _ _ _ h => h) (fun _ => by kernel_rfl) ?_
  intro a H
  refine An.pure H (.inr (HP)) 8 43 (.int .i64 (if Z.isSome = true then 0 else 180 : Int)) rfl (by kernel_rfl) (by kernel_rfl) (fun _ _ _ h => h) (fun _ => by kernel_rfl) ?_
  intro a H
  refine An.pureE H (.inr (HP)) 9 44 (.bool ((if Z.isSome = true then 0 else 180 : Int) == (if Z.isSome = true then 0 else 180 : Int))) (.bool true) rfl (by kernel_rfl) (by kernel_rfl) (fun _ _ _ h => h) (fun _ => by kernel_rfl) ((congrArg Value.bool (beq_self_eq_true _))) ?_
  intro a H
  refine An.pure H (.inr (HP)) 10 45 (.bool true) rfl (by kernel_rfl) (by kernel_rfl) (fun _ _ _ h => h) (fun _ => by kernel_rfl) ?_
  intro a H
  refine An.pure H (.inr (HP)) 11 46 (.bool true) rfl (by kernel_rfl) (by kernel_rfl) (fun _ _ _ h => h) (fun _ => by kernel_rfl) ?_
  intro a H
  refine An.val H (HP) 12 47 (.agg #[(.int .i64 U.channel), (.int .i64 U.frame), (.int .i64 U.version), (.int .i64 U.item), (.int .i64 U.index), (.bool U.key), (.string (bstr U.data)), (.int .i64 U.regions), (.int .i64 U.gain), (.string (bstr U.caption)), (.int .i64 U.os), (.int .i64 U.of), (.slice Bu U.al.length cu)]) rfl (by kernel_rfl) (by kernel_rfl) (fun _ _ _ h => h) (fun _ hS => ex_loadN (vs := [(.int .i64 U.channel), (.int .i64 U.frame), (.int .i64 U.version), (.int .i64 U.item), (.int .i64 U.index), (.bool U.key), (.string (bstr U.data)), (.int .i64 U.regions), (.int .i64 U.gain), (.string (bstr U.caption)), (.int .i64 U.os), (.int .i64 U.of), (.slice Bu U.al.length cu)]) (by kernel_rfl) (by kernel_rfl) (by kernel_rfl) rfl (hS.cells 1 rfl 0 13 (by kernel_rfl))) ?_
  intro a H
  refine An.val H (HP) 14 49 (.agg #[(.int .i64 U.channel), (.int .i64 U.frame), (.int .i64 U.version), (.int .i64 U.item), (.int .i64 U.index), (.bool U.key), (.string (bstr U.data)), (.int .i64 U.regions), (.int .i64 U.gain), (.string (bstr U.caption)), (.int .i64 U.os), (.int .i64 U.of), (.slice Bu U.al.length cu)]) rfl (by kernel_rfl) (by kernel_rfl) (fun _ _ _ h => h) (fun _ hS => ex_loadN (vs := [(.int .i64 U.channel), (.int .i64 U.frame), (.int .i64 U.version), (.int .i64 U.item), (.int .i64 U.index), (.bool U.key), (.string (bstr U.data)), (.int .i64 U.regions), (.int .i64 U.gain), (.string (bstr U.caption)), (.int .i64 U.os), (.int .i64 U.of), (.slice Bu U.al.length cu)]) (by kernel_rfl) (by kernel_rfl) (by kernel_rfl) rfl (hS.cells 1 rfl 0 13 (by kernel_rfl))) ?_
  intro a H
  refine An.one 13 (by kernel_rfl) ?_
  refine Op.call H 48 rfl (by kernel_rfl) (Eq.trans (by kernel_rfl : _ = (callFunc 18 #[(.agg #[(.int .i64 U.channel), (.int .i64 U.frame), (.int .i64 U.version), (.int .i64 U.item), (.int .i64 U.index), (.bool U.key), (.string (bstr U.data)), (.int .i64 U.regions), (.int .i64 U.gain), (.string (bstr U.caption)), (.int .i64 U.os), (.int .i64 U.of), (.slice Bu U.al.length cu)])]).run Tryd.prog w_14) (Tryd.call18 _ _)) (uvalid_any ({ U with A := Bu, c := cu } : Un) w_14 (HP.fact 1 rfl) (Nat.le_trans hcau hcbu)) ?_
  rintro e w_15 ⟨rfl, hb⟩
  refine ⟨_, rfl, ?_⟩
  intro a H
  have HP := HP.next hb
  refine ⟨.inr (HP), ?_⟩
  refine An.one 15 (by kernel_rfl) ?_
  refine Op.call H 50 rfl (by kernel_rfl) (Eq.trans (by kernel_rfl : _ = (callFunc 19 #[(.agg #[(.int .i64 U.channel), (.int .i64 U.frame), (.int .i64 U.version), (.int .i64 U.item), (.int .i64 U.index), (.bool U.key), (.string (bstr U.data)), (.int .i64 U.regions), (.int .i64 U.gain), (.string (bstr U.caption)), (.int .i64 U.os), (.int .i64 U.of), (.slice Bu U.al.length cu)])]).run Tryd.prog w_15) (Tryd.call19 _ _)) (ruvalid_any ({ U with A := Bu, c := cu } : Un) w_15 (HP.fact 1 rfl) (Nat.le_trans hcau hcbu)) ?_
  rintro e w_16 ⟨rfl, hb⟩
  refine ⟨_, rfl, ?_⟩
  intro a H
  have HP := HP.next hb
  refine ⟨.inr (HP), ?_⟩
  refine An.pureE H (.inr (HP)) 16 51 (.bool ((validU U) == (validU U))) (.bool true) rfl (by kernel_rfl) (by kernel_rfl) (fun _ _ _ h => h) (fun _ => by kernel_rfl) ((congrArg Value.bool (beq_self_eq_true _))) ?_
  intro a H
  refine An.pure H (.inr (HP)) 17 52 (.bool true) rfl (by kernel_rfl) (by kernel_rfl) (fun _ _ _ h => h) (fun _ => by kernel_rfl) ?_
  intro a H
  refine An.pure H (.inr (HP)) 18 53 (.bool true) rfl (by kernel_rfl) (by kernel_rfl) (fun _ _ _ h => h) (fun _ => by kernel_rfl) ?_
  intro a H
  refine An.val H (HP) 19 54 (.agg #[(.int .i64 U.channel), (.int .i64 U.frame), (.int .i64 U.version), (.int .i64 U.item), (.int .i64 U.index), (.bool U.key), (.string (bstr U.data)), (.int .i64 U.regions), (.int .i64 U.gain), (.string (bstr U.caption)), (.int .i64 U.os), (.int .i64 U.of), (.slice Bu U.al.length cu)]) rfl (by kernel_rfl) (by kernel_rfl) (fun _ _ _ h => h) (fun _ hS => ex_loadN (vs := [(.int .i64 U.channel), (.int .i64 U.frame), (.int .i64 U.version), (.int .i64 U.item), (.int .i64 U.index), (.bool U.key), (.string (bstr U.data)), (.int .i64 U.regions), (.int .i64 U.gain), (.string (bstr U.caption)), (.int .i64 U.os), (.int .i64 U.of), (.slice Bu U.al.length cu)]) (by kernel_rfl) (by kernel_rfl) (by kernel_rfl) rfl (hS.cells 1 rfl 0 13 (by kernel_rfl))) ?_
  intro a H
  refine An.val H (HP) 20 55 (.agg #[(.int .i64 V.channel), (.int .i64 V.frame), (.int .i64 V.version), (.int .i64 V.item), (.int .i64 V.index), (.bool V.key), (.string (bstr V.data)), (.int .i64 V.regions), (.int .i64 V.gain), (.string (bstr V.caption)), (.int .i64 V.os), (.int .i64 V.of), (.slice Bv V.al.length cv)]) rfl (by kernel_rfl) (by kernel_rfl) (fun _ _ _ h => h) (fun _ hS => ex_loadN (vs := [(.int .i64 V.channel), (.int .i64 V.frame), (.int .i64 V.version), (.int .i64 V.item), (.int .i64 V.index), (.bool V.key), (.string (bstr V.data)), (.int .i64 V.regions), (.int .i64 V.gain), (.string (bstr V.caption)), (.int .i64 V.os), (.int .i64 V.of), (.slice Bv V.al.length cv)]) (by kernel_rfl) (by kernel_rfl) (by kernel_rfl) rfl (hS.cells 0 rfl 0 13 (by kernel_rfl))) ?_
  intro a H
  refine An.val H (HP) 22 57 (.agg #[(.int .i64 U.channel), (.int .i64 U.frame), (.int .i64 U.version), (.int .i64 U.item), (.int .i64 U.index), (.bool U.key), (.string (bstr U.data)), (.int .i64 U.regions), (.int .i64 U.gain), (.string (bstr U.caption)), (.int .i64 U.os), (.int .i64 U.of), (.slice Bu U.al.length cu)]) rfl (by kernel_rfl) (by kernel_rfl) (fun _ _ _ h => h) (fun _ hS => ex_loadN (vs := [(.int .i64 U.channel), (.int .i64 U.frame), (.int .i64 U.version), (.int .i64 U.item), (.int .i64 U.index), (.bool U.key), (.string (bstr U.data)), (.int .i64 U.regions), (.int .i64 U.gain), (.string (bstr U.caption)), (.int .i64 U.os), (.int .i64 U.of), (.slice Bu U.al.length cu)]) (by kernel_rfl) (by kernel_rfl) (by kernel_rfl) rfl (hS.cells 1 rfl 0 13 (by kernel_rfl))) ?_
  intro a H
  refine An.val H (HP) 23 58 (.agg #[(.int .i64 V.channel), (.int .i64 V.frame), (.int .i64 V.version), (.int .i64 V.item), (.int .i64 V.index), (.bool V.key), (.string (bstr V.data)), (.int .i64 V.regions), (.int .i64 V.gain), (.string (bstr V.caption)), (.int .i64 V.os), (.int .i64 V.of), (.slice Bv V.al.length cv)]) rfl (by kernel_rfl) (by kernel_rfl) (fun _ _ _ h => h) (fun _ hS => ex_loadN (vs := [(.int .i64 V.channel), (.int .i64 V.frame), (.int .i64 V.version), (.int .i64 V.item), (.int .i64 V.index), (.bool V.key), (.string (bstr V.data)), (.int .i64 V.regions), (.int .i64 V.gain), (.string (bstr V.caption)), (.int .i64 V.os), (.int .i64 V.of), (.slice Bv V.al.length cv)]) (by kernel_rfl) (by kernel_rfl) (by kernel_rfl) rfl (hS.cells 0 rfl 0 13 (by kernel_rfl))) ?_
  intro a H
  refine An.one 21 (by kernel_rfl) ?_
  refine Op.call H 56 rfl (by kernel_rfl) (Eq.trans (by kernel_rfl : _ = (callFunc 20 #[(.agg #[(.int .i64 U.channel), (.int .i64 U.frame), (.int .i64 U.version), (.int .i64 U.item), (.int .i64 U.index), (.bool U.key), (.string (bstr U.data)), (.int .i64 U.regions), (.int .i64 U.gain), (.string (bstr U.caption)), (.int .i64 U.os), (.int .i64 U.of), (.slice Bu U.al.length cu)]), (.agg #[(.int .i64 V.channel), (.int .i64 V.frame), (.int .i64 V.version), (.int .i64 V.item), (.int .i64 V.index), (.bool V.key), (.string (bstr V.data)), (.int .i64 V.regions), (.int .i64 V.gain), (.string (bstr V.caption)), (.int .i64 V.os), (.int .i64 V.of), (.slice Bv V.al.length cv)])]).run Tryd.prog w_16) (Tryd.call20 _ _)) (usame_any ({ U with A := Bu, c := cu } : Un) ({ V with A := Bv, c := cv } : Un) w_16 (HP.fact 1 rfl) (HP.fact 0 rfl) (Nat.le_trans hcau hcbu)) ?_
  rintro e w_17 ⟨rfl, hb⟩
  refine ⟨_, rfl, ?_⟩
  intro a H
  have HP := HP.next hb
  refine ⟨.inr (HP), ?_⟩
  refine An.one 24 (by kernel_rfl) ?_
  refine Op.call H 59 rfl (by kernel_rfl) (Eq.trans (by kernel_rfl : _ = (callFunc 21 #[(.agg #[(.int .i64 U.channel), (.int .i64 U.frame), (.int .i64 U.version), (.int .i64 U.item), (.int .i64 U.index), (.bool U.key), (.string (bstr U.data)), (.int .i64 U.regions), (.int .i64 U.gain), (.string (bstr U.caption)), (.int .i64 U.os), (.int .i64 U.of), (.slice Bu U.al.length cu)]), (.agg #[(.int .i64 V.channel), (.int .i64 V.frame), (.int .i64 V.version), (.int .i64 V.item), (.int .i64 V.index), (.bool V.key), (.string (bstr V.data)), (.int .i64 V.regions), (.int .i64 V.gain), (.string (bstr V.caption)), (.int .i64 V.os), (.int .i64 V.of), (.slice Bv V.al.length cv)])]).run Tryd.prog w_17) (Tryd.call21 _ _)) (rusame_any ({ U with A := Bu, c := cu } : Un) ({ V with A := Bv, c := cv } : Un) w_17 (HP.fact 1 rfl) (HP.fact 0 rfl) (Nat.le_trans hcau hcbu)) ?_
  rintro e w_18 ⟨rfl, hb⟩
  refine ⟨_, rfl, ?_⟩
  intro a H
  have HP := HP.next hb
  refine ⟨.inr (HP), ?_⟩
  refine An.pureE H (.inr (HP)) 25 60 (.bool ((sameU U V) == (sameU U V))) (.bool true) rfl (by kernel_rfl) (by kernel_rfl) (fun _ _ _ h => h) (fun _ => by kernel_rfl) ((congrArg Value.bool (beq_self_eq_true _))) ?_
  intro a H
  refine An.pure H (.inr (HP)) 26 61 (.bool true) rfl (by kernel_rfl) (by kernel_rfl) (fun _ _ _ h => h) (fun _ => by kernel_rfl) ?_
  intro a H
  refine An.pure H (.inr (HP)) 27 62 (.bool true) rfl (by kernel_rfl) (by kernel_rfl) (fun _ _ _ h => h) (fun _ => by kernel_rfl) ?_
  intro a H
  refine An.val H (HP) 28 63 (.agg #[(.int .i64 U.channel), (.int .i64 U.frame), (.int .i64 U.version), (.int .i64 U.item), (.int .i64 U.index), (.bool U.key), (.string (bstr U.data)), (.int .i64 U.regions), (.int .i64 U.gain), (.string (bstr U.caption)), (.int .i64 U.os), (.int .i64 U.of), (.slice Bu U.al.length cu)]) rfl (by kernel_rfl) (by kernel_rfl) (fun _ _ _ h => h) (fun _ hS => ex_loadN (vs := [(.int .i64 U.channel), (.int .i64 U.frame), (.int .i64 U.version), (.int .i64 U.item), (.int .i64 U.index), (.bool U.key), (.string (bstr U.data)), (.int .i64 U.regions), (.int .i64 U.gain), (.string (bstr U.caption)), (.int .i64 U.os), (.int .i64 U.of), (.slice Bu U.al.length cu)]) (by kernel_rfl) (by kernel_rfl) (by kernel_rfl) rfl (hS.cells 1 rfl 0 13 (by kernel_rfl))) ?_
  intro a H
  refine An.val H (HP) 29 64 (.agg #[(.int .i64 U.channel), (.int .i64 U.frame), (.int .i64 U.version), (.int .i64 U.item), (.int .i64 U.index), (.bool U.key), (.string (bstr U.data)), (.int .i64 U.regions), (.int .i64 U.gain), (.string (bstr U.caption)), (.int .i64 U.os), (.int .i64 U.of), (.slice Bu U.al.length cu)]) rfl (by kernel_rfl) (by kernel_rfl) (fun _ _ _ h => h) (fun _ hS => ex_loadN (vs := [(.int .i64 U.channel), (.int .i64 U.frame), (.int .i64 U.version), (.int .i64 U.item), (.int .i64 U.index), (.bool U.key), (.string (bstr U.data)), (.int .i64 U.regions), (.int .i64 U.gain), (.string (bstr U.caption)), (.int .i64 U.os), (.int .i64 U.of), (.slice Bu U.al.length cu)]) (by kernel_rfl) (by kernel_rfl) (by kernel_rfl) rfl (hS.cells 1 rfl 0 13 (by kernel_rfl))) ?_
  intro a H
  refine An.one 30 (by kernel_rfl) ?_
  refine Op.call H 65 rfl (by kernel_rfl) (Eq.trans (by kernel_rfl : _ = (callFunc 20 #[(.agg #[(.int .i64 U.channel), (.int .i64 U.frame), (.int .i64 U.version), (.int .i64 U.item), (.int .i64 U.index), (.bool U.key), (.string (bstr U.data)), (.int .i64 U.regions), (.int .i64 U.gain), (.string (bstr U.caption)), (.int .i64 U.os), (.int .i64 U.of), (.slice Bu U.al.length cu)]), (.agg #[(.int .i64 U.channel), (.int .i64 U.frame), (.int .i64 U.version), (.int .i64 U.item), (.int .i64 U.index), (.bool U.key), (.string (bstr U.data)), (.int .i64 U.regions), (.int .i64 U.gain), (.string (bstr U.caption)), (.int .i64 U.os), (.int .i64 U.of), (.slice Bu U.al.length cu)])]).run Tryd.prog w_18) (Tryd.call20 _ _)) ((by have hh := usame_any ({ U with A := Bu, c := cu } : Un) ({ U with A := Bu, c := cu } : Un) w_18 (HP.fact 1 rfl) (HP.fact 1 rfl) (Nat.le_trans hcau hcbu); rw [(same_bare _ _).2 rfl] at hh; exact hh)) ?_
  rintro e w_19 ⟨rfl, hb⟩
  refine ⟨_, rfl, ?_⟩
  intro a H
  have HP := HP.next hb
  refine ⟨.inr (HP), ?_⟩
  refine An.pure H (.inr (HP)) 31 66 (.bool true) rfl (by kernel_rfl) (by kernel_rfl) (fun _ _ _ h => h) (fun _ => by kernel_rfl) ?_
  intro a H
  refine An.pure H (.inr (HP)) 32 8 (.bool true) rfl (by kernel_rfl) (by kernel_rfl) (fun _ _ _ h => h) (fun _ => by kernel_rfl) ?_
  intro a H
  refine An.done (by kernel_rfl) ?_
  have H := H.keep (L' := [(8, (.bool true)), (13, (.int .i64 (if Z.isSome = true then 0 else 180 : Int))), (12, (.string (bstr (Z.getD [])))), (11, (.int .i64 (if Z.isSome = true then 0 else 180 : Int))), (10, (.string (bstr (Z.getD [])))), (22, (.agg #[(.int .i64 V.channel), (.int .i64 V.frame), (.int .i64 V.version), (.int .i64 V.item), (.int .i64 V.index), (.bool V.key), (.string (bstr V.data)), (.int .i64 V.regions), (.int .i64 V.gain), (.string (bstr V.caption)), (.int .i64 V.os), (.int .i64 V.of), (.slice Bv V.al.length cv)])), (21, (.agg #[(.int .i64 v.channel), (.int .i64 v.frame), (.int .i64 v.version), (.int .i64 v.item), (.int .i64 v.index), (.bool v.key), (.string (bstr v.data)), (.int .i64 v.regions), (.int .i64 v.gain), (.string (bstr v.caption)), (.int .i64 v.os), (.int .i64 v.of), (.slice v.A v.al.length v.c)])), (20, (.agg #[(.int .i64 U.channel), (.int .i64 U.frame), (.int .i64 U.version), (.int .i64 U.item), (.int .i64 U.index), (.bool U.key), (.string (bstr U.data)), (.int .i64 U.regions), (.int .i64 U.gain), (.string (bstr U.caption)), (.int .i64 U.os), (.int .i64 U.of), (.slice Bu U.al.length cu)])), (19, (.agg #[(.int .i64 u.channel), (.int .i64 u.frame), (.int .i64 u.version), (.int .i64 u.item), (.int .i64 u.index), (.bool u.key), (.string (bstr u.data)), (.int .i64 u.regions), (.int .i64 u.gain), (.string (bstr u.caption)), (.int .i64 u.os), (.int .i64 u.of), (.slice u.A u.al.length u.c)])), (16, (.bool false)), (15, (.int .i64 c)), (9, (.bool true)), (14, (.bool true)), (7, (.pointer (some ⟨b_5, 0, none⟩))), (6, (.pointer (some ⟨b_3, 0, none⟩))), (4, (.pointer (some ⟨b_1, 0, none⟩))), (0, (.agg #[(.int .i64 rn), (.int .i64 rd)])), (1, (.int .i64 c)), (2, (.agg #[(.int .i64 u.channel), (.int .i64 u.frame), (.int .i64 u.version), (.int .i64 u.item), (.int .i64 u.index), (.bool u.key), (.string (bstr u.data)), (.int .i64 u.regions), (.int .i64 u.gain), (.string (bstr u.caption)), (.int .i64 u.os), (.int .i64 u.of), (.slice u.A u.al.length u.c)])), (3, (.agg #[(.int .i64 v.channel), (.int .i64 v.frame), (.int .i64 v.version), (.int .i64 v.item), (.int .i64 v.index), (.bool v.key), (.string (bstr v.data)), (.int .i64 v.regions), (.int .i64 v.gain), (.string (bstr v.caption)), (.int .i64 v.os), (.int .i64 v.of), (.slice v.A v.al.length v.c)]))]) (by kernel_rfl)
  refine then_normal ?_
  refine wp_ret ?_
  refine H.ret1 (fn := Tryd.f3) Tryd.results3 (RV.tmp_ (v := (.bool true)) (by kernel_rfl)) ?_
  exact ⟨rfl, (HP.below (by kernel_rfl))⟩
theorem pmr_all (rn rd c : Int) (u v : Un) (w : World) (hL : Laid w) (hc : -9223372036854775808 ≤ c ∧ c ≤ 9223372036854775807) (huu : IsAlts w u.A u.al.length u.al) (hcu : u.al.length ≤ u.c) (hAu : u.A = none → u.c = 0) (huv : IsAlts w v.A v.al.length v.al) (hcv : v.al.length ≤ v.c) (hAv : v.A = none → v.c = 0) :
    Calls Tryd.prog 3 #[.agg #[.int .i64 rn, .int .i64 rd], .int .i64 c, u.val, v.val] w fun e w' => e = .returned (.bool true) ∧ Below w.heap.size w w' := by
  by_cases hp : 0 ≤ c
  · obtain ⟨Z, hZ⟩ : ∃ Z, packP (rateP c).1 (rateP c).2 (shortU u) = Z := ⟨_, rfl⟩
    exact pmr_p rn rd c u v _ _ w rfl rfl hL hc huu hcu hAu huv hcv hAv hp Z (fun _ _ => hZ)
  · obtain ⟨Z, hZ⟩ : ∃ Z, packP rn rd (shortU u) = Z := ⟨_, rfl⟩
    exact pmr_n rn rd c u v _ _ w rfl rfl hL hc huu hcu hAu huv hcv hAv (by omega) Z (fun _ _ => hZ)
end Go.Proofs.YtgdjpaeclicdfaaDoor
