/- TransportRoundTrip: the walk. -/
import Derived.Test.YtgdjpaeclicdfaaDoorLwA
namespace Go.Proofs.YtgdjpaeclicdfaaDoor
open Go.ChangeShapes Go.WideShapes Go.ChangeAt Go.RowKit
set_option linter.unusedVariables false
set_option linter.unusedSimpArgs false

theorem pack_none {rn rd : Int} {u : Un} (hr : rateOk rn rd = true) (h : packP rn rd u = none) : validU u = false := by
  unfold packP at h
  rw [hr] at h
  cases hv : validU u with
  | false => rfl
  | true => rw [hv] at h; simp at h
set_option maxRecDepth 100000 in
set_option maxHeartbeats 4000000 in
theorem rt_nonenone (c : Int) (u U : Un) (s : List UInt8) (w : World) (hU : shortU u = U) (hL : Laid w) (hc : -9223372036854775808 ≤ c ∧ c ≤ 9223372036854775807) (huu : IsAlts w u.A u.al.length u.al) (hcu : u.al.length ≤ u.c) (hAu : u.A = none → u.c = 0) (hZu : ∀ B c', packP (rateP c).1 (rateP c).2 ({ U with A := B, c := c' } : Un) = none) (hX : unpackP (rateP c).1 (rateP c).2 (s.take 2000) = none) :
    Calls Tryd.prog 5 #[.int .i64 c, u.val, .string (bstr s)] w fun e w' => e = .returned (.bool true) ∧ Below w.heap.size w w' := by
  have HP := Hp.start w
  have hs2 : (s.take 2000).length ≤ 1000000 := by rw [List.length_take]; omega
  have hvu : validU U = false := pack_none (rateP_ok c) (hZu none 0)
  refine w_enter 100 [(0, (.int .i64 c)), (1, (.agg #[(.int .i64 u.channel), (.int .i64 u.frame), (.int .i64 u.version), (.int .i64 u.item), (.int .i64 u.index), (.bool u.key), (.string (bstr u.data)), (.int .i64 u.regions), (.int .i64 u.gain), (.string (bstr u.caption)), (.int .i64 u.os), (.int .i64 u.of), (.slice u.A u.al.length u.c)])), (2, (.string (bstr s)))] Tryd.func5 rfl Tryd.ntmps5 (by kernel_rfl) (by kernel_rfl) ?_
  intro a H
  refine wp_seq ?_
  refine w_region ?_
  refine H.alloc HP 4 (fun b => (.pointer (some ⟨b, 0, none⟩))) 28 [(.int .i64 u.channel), (.int .i64 u.frame), (.int .i64 u.version), (.int .i64 u.item), (.int .i64 u.index), (.bool u.key), (.string (bstr u.data)), (.int .i64 u.regions), (.int .i64 u.gain), (.string (bstr u.caption)), (.int .i64 u.os), (.int .i64 u.of), (.slice u.A u.al.length u.c)] (by kernel_rfl) (fun w => by kernel_rfl) ?_
  intro b_1 w_2 a H HP
  refine H.val 6 (.bool false) (by kernel_rfl) (by kernel_rfl) ?_
  intro a H
  refine wpList_nil ?_
  refine then_normal ?_
  refine wp_seq ?_
  refine w_region ?_
  refine H.call 17 (by kernel_rfl) (Eq.trans (by kernel_rfl : _ = (callFunc 13 #[]).run Tryd.prog w_2) (Tryd.call13 _ _)) (sane_any w_2 (hL.below (HP.below (by kernel_rfl)))) ?_
  rintro e w_3 ⟨rfl, hb⟩
  refine ⟨_, rfl, ?_⟩
  intro a H
  have HP := HP.next hb
  refine H.val 7 (.bool true) (by kernel_rfl) (by kernel_rfl) ?_
  intro a H
  refine wpList_nil ?_
  refine then_normal ?_
  refine wp_seq ?_
  refine w_region ?_
  refine H.val 18 (.int .i64 c) (by kernel_rfl) (by kernel_rfl) ?_
  intro a H
  refine H.call 19 (by kernel_rfl) (Eq.trans (by kernel_rfl : _ = (callFunc 14 #[(.int .i64 c)]).run Tryd.prog w_3) (Tryd.call14 _ _)) (rate_any c w_3 hc) ?_
  rintro e w_4 ⟨rfl, hb⟩
  refine ⟨_, rfl, ?_⟩
  intro a H
  have HP := HP.next hb
  refine H.alloc HP 8 (fun b => (.pointer (some ⟨b, 0, none⟩))) 23 [(.int .i64 0), (.int .i64 0)] (by kernel_rfl) (fun w => by kernel_rfl) ?_
  intro b_5 w_6 a H HP
  refine H.store HP 0 b_5 0 2 23 [(.int .i64 0), (.int .i64 0)] true (.agg #[(.int .i64 ((rateP c).1)), (.int .i64 ((rateP c).2))]) [bx b_5 23 [(.int .i64 ((rateP c).1)), (.int .i64 ((rateP c).2))] true, bx b_1 28 [(.int .i64 u.channel), (.int .i64 u.frame), (.int .i64 u.version), (.int .i64 u.item), (.int .i64 u.index), (.bool u.key), (.string (bstr u.data)), (.int .i64 u.regions), (.int .i64 u.gain), (.string (bstr u.caption)), (.int .i64 u.os), (.int .i64 u.of), (.slice u.A u.al.length u.c)] true] (by kernel_rfl) (by kernel_rfl) (by kernel_rfl) rfl (by kernel_rfl) (by kernel_rfl) (by kernel_rfl) (by kernel_rfl) (by kernel_rfl) ?_
  intro w_7 a H HP
  refine wpList_nil ?_
  refine then_normal ?_
  refine wp_seq ?_
  refine w_region ?_
  refine H.val 20 (.agg #[(.int .i64 u.channel), (.int .i64 u.frame), (.int .i64 u.version), (.int .i64 u.item), (.int .i64 u.index), (.bool u.key), (.string (bstr u.data)), (.int .i64 u.regions), (.int .i64 u.gain), (.string (bstr u.caption)), (.int .i64 u.os), (.int .i64 u.of), (.slice u.A u.al.length u.c)]) (by kernel_rfl) (ex_loadN (vs := [(.int .i64 u.channel), (.int .i64 u.frame), (.int .i64 u.version), (.int .i64 u.item), (.int .i64 u.index), (.bool u.key), (.string (bstr u.data)), (.int .i64 u.regions), (.int .i64 u.gain), (.string (bstr u.caption)), (.int .i64 u.os), (.int .i64 u.of), (.slice u.A u.al.length u.c)]) (by kernel_rfl) (by kernel_rfl) (by kernel_rfl) rfl (HP.cells 1 rfl 0 13 (by kernel_rfl))) ?_
  intro a H
  refine H.call 21 (by kernel_rfl) (Eq.trans (by kernel_rfl : _ = (callFunc 15 #[(.agg #[(.int .i64 u.channel), (.int .i64 u.frame), (.int .i64 u.version), (.int .i64 u.item), (.int .i64 u.index), (.bool u.key), (.string (bstr u.data)), (.int .i64 u.regions), (.int .i64 u.gain), (.string (bstr u.caption)), (.int .i64 u.os), (.int .i64 u.of), (.slice u.A u.al.length u.c)])]).run Tryd.prog w_7) (Tryd.call15 _ _)) (short_anyU hU (short_any u w_7 (huu.below (HP.below (by kernel_rfl))) hcu hAu)) ?_
  rintro e w_8 ⟨Bu, cu, rfl, halu, hcau, hcbu, hccu, hfru, hb⟩
  refine ⟨_, rfl, ?_⟩
  intro a H
  have HP := (HP.next hb).keepF ⟨rowFp U.al.length Bu, fun w => IsAlts w Bu U.al.length U.al⟩ halu (fun _ _ h hk hs => ⟨h.1, h.2.keep hk hs⟩) (fun j hj => row_sep HP halu.2 hfru hj)
  refine H.store HP 1 b_1 0 13 28 [(.int .i64 u.channel), (.int .i64 u.frame), (.int .i64 u.version), (.int .i64 u.item), (.int .i64 u.index), (.bool u.key), (.string (bstr u.data)), (.int .i64 u.regions), (.int .i64 u.gain), (.string (bstr u.caption)), (.int .i64 u.os), (.int .i64 u.of), (.slice u.A u.al.length u.c)] true (.agg #[(.int .i64 U.channel), (.int .i64 U.frame), (.int .i64 U.version), (.int .i64 U.item), (.int .i64 U.index), (.bool U.key), (.string (bstr U.data)), (.int .i64 U.regions), (.int .i64 U.gain), (.string (bstr U.caption)), (.int .i64 U.os), (.int .i64 U.of), (.slice Bu U.al.length cu)]) [bx b_5 23 [(.int .i64 ((rateP c).1)), (.int .i64 ((rateP c).2))] true, bx b_1 28 [(.int .i64 U.channel), (.int .i64 U.frame), (.int .i64 U.version), (.int .i64 U.item), (.int .i64 U.index), (.bool U.key), (.string (bstr U.data)), (.int .i64 U.regions), (.int .i64 U.gain), (.string (bstr U.caption)), (.int .i64 U.os), (.int .i64 U.of), (.slice Bu U.al.length cu)] true] (by kernel_rfl) (by kernel_rfl) (by kernel_rfl) rfl (by kernel_rfl) (by kernel_rfl) (by kernel_rfl) (by kernel_rfl) (by kernel_rfl) ?_
  intro w_9 a H HP
  refine wpList_nil ?_
  refine then_normal ?_
  refine wp_seq ?_
  refine w_region ?_
  refine H.val 23 (.agg #[(.int .i64 ((rateP c).1)), (.int .i64 ((rateP c).2))]) (by kernel_rfl) (ex_loadN (vs := [(.int .i64 ((rateP c).1)), (.int .i64 ((rateP c).2))]) (by kernel_rfl) (by kernel_rfl) (by kernel_rfl) rfl (HP.cells 0 rfl 0 2 (by kernel_rfl))) ?_
  intro a H
  refine H.val 24 (.agg #[(.int .i64 U.channel), (.int .i64 U.frame), (.int .i64 U.version), (.int .i64 U.item), (.int .i64 U.index), (.bool U.key), (.string (bstr U.data)), (.int .i64 U.regions), (.int .i64 U.gain), (.string (bstr U.caption)), (.int .i64 U.os), (.int .i64 U.of), (.slice Bu U.al.length cu)]) (by kernel_rfl) (ex_loadN (vs := [(.int .i64 U.channel), (.int .i64 U.frame), (.int .i64 U.version), (.int .i64 U.item), (.int .i64 U.index), (.bool U.key), (.string (bstr U.data)), (.int .i64 U.regions), (.int .i64 U.gain), (.string (bstr U.caption)), (.int .i64 U.os), (.int .i64 U.of), (.slice Bu U.al.length cu)]) (by kernel_rfl) (by kernel_rfl) (by kernel_rfl) rfl (HP.cells 1 rfl 0 13 (by kernel_rfl))) ?_
  intro a H
  refine H.call 25 (by kernel_rfl) (Eq.trans (by kernel_rfl : _ = (callFunc 16 #[(.agg #[(.int .i64 ((rateP c).1)), (.int .i64 ((rateP c).2))]), (.agg #[(.int .i64 U.channel), (.int .i64 U.frame), (.int .i64 U.version), (.int .i64 U.item), (.int .i64 U.index), (.bool U.key), (.string (bstr U.data)), (.int .i64 U.regions), (.int .i64 U.gain), (.string (bstr U.caption)), (.int .i64 U.os), (.int .i64 U.of), (.slice Bu U.al.length cu)])]).run Tryd.prog w_9) (Tryd.call16 _ _)) ((by have hh := pack_any ((rateP c).1) ((rateP c).2) (⟨U.channel, U.frame, U.version, U.item, U.index, U.key, U.data, U.regions, U.gain, U.caption, U.os, U.of, Bu, cu, U.al⟩ : Un) w_9 (hL.below (HP.below (by kernel_rfl))) (HP.fact 0 rfl) (Nat.le_trans hcau hcbu); rw [hZu Bu cu] at hh; exact hh)) ?_
  rintro e w_10 ⟨rfl, hb⟩
  refine ⟨_, rfl, ?_⟩
  intro a H
  have HP := HP.next hb
  refine H.val 22 (.tuple #[(.string (bstr ([]))), (.int .i64 180)]) (by kernel_rfl) (by kernel_rfl) ?_
  intro a H
  refine H.val 26 (.string (bstr ([]))) (by kernel_rfl) (by kernel_rfl) ?_
  intro a H
  refine H.val 27 (.int .i64 180) (by kernel_rfl) (by kernel_rfl) ?_
  intro a H
  refine H.val 9 (.string (bstr ([]))) (by kernel_rfl) (by kernel_rfl) ?_
  intro a H
  refine H.val 10 (.int .i64 180) (by kernel_rfl) (by kernel_rfl) ?_
  intro a H
  refine wpList_nil ?_
  have H := H.keep (L' := [(10, (.int .i64 180)), (9, (.string (bstr ([])))), (21, (.agg #[(.int .i64 U.channel), (.int .i64 U.frame), (.int .i64 U.version), (.int .i64 U.item), (.int .i64 U.index), (.bool U.key), (.string (bstr U.data)), (.int .i64 U.regions), (.int .i64 U.gain), (.string (bstr U.caption)), (.int .i64 U.os), (.int .i64 U.of), (.slice Bu U.al.length cu)])), (20, (.agg #[(.int .i64 u.channel), (.int .i64 u.frame), (.int .i64 u.version), (.int .i64 u.item), (.int .i64 u.index), (.bool u.key), (.string (bstr u.data)), (.int .i64 u.regions), (.int .i64 u.gain), (.string (bstr u.caption)), (.int .i64 u.os), (.int .i64 u.of), (.slice u.A u.al.length u.c)])), (8, (.pointer (some ⟨b_5, 0, none⟩))), (19, (.agg #[(.int .i64 ((rateP c).1)), (.int .i64 ((rateP c).2))])), (18, (.int .i64 c)), (7, (.bool true)), (17, (.bool true)), (6, (.bool false)), (4, (.pointer (some ⟨b_1, 0, none⟩))), (0, (.int .i64 c)), (1, (.agg #[(.int .i64 u.channel), (.int .i64 u.frame), (.int .i64 u.version), (.int .i64 u.item), (.int .i64 u.index), (.bool u.key), (.string (bstr u.data)), (.int .i64 u.regions), (.int .i64 u.gain), (.string (bstr u.caption)), (.int .i64 u.os), (.int .i64 u.of), (.slice u.A u.al.length u.c)])), (2, (.string (bstr s)))]) (by kernel_rfl)
  refine then_normal ?_
  refine wp_seq ?_
  refine wp_seq ?_
  refine w_region ?_
  refine H.val 28 (.int .i64 180) (by kernel_rfl) (by kernel_rfl) ?_
  intro a H
  refine H.val 29 (.bool false) (by kernel_rfl) (by kernel_rfl) ?_
  intro a H
  refine H.val 30 (.agg #[(.int .i64 U.channel), (.int .i64 U.frame), (.int .i64 U.version), (.int .i64 U.item), (.int .i64 U.index), (.bool U.key), (.string (bstr U.data)), (.int .i64 U.regions), (.int .i64 U.gain), (.string (bstr U.caption)), (.int .i64 U.os), (.int .i64 U.of), (.slice Bu U.al.length cu)]) (by kernel_rfl) (ex_loadN (vs := [(.int .i64 U.channel), (.int .i64 U.frame), (.int .i64 U.version), (.int .i64 U.item), (.int .i64 U.index), (.bool U.key), (.string (bstr U.data)), (.int .i64 U.regions), (.int .i64 U.gain), (.string (bstr U.caption)), (.int .i64 U.os), (.int .i64 U.of), (.slice Bu U.al.length cu)]) (by kernel_rfl) (by kernel_rfl) (by kernel_rfl) rfl (HP.cells 1 rfl 0 13 (by kernel_rfl))) ?_
  intro a H
  refine H.call 31 (by kernel_rfl) (Eq.trans (by kernel_rfl : _ = (callFunc 18 #[(.agg #[(.int .i64 U.channel), (.int .i64 U.frame), (.int .i64 U.version), (.int .i64 U.item), (.int .i64 U.index), (.bool U.key), (.string (bstr U.data)), (.int .i64 U.regions), (.int .i64 U.gain), (.string (bstr U.caption)), (.int .i64 U.os), (.int .i64 U.of), (.slice Bu U.al.length cu)])]).run Tryd.prog w_10) (Tryd.call18 _ _)) ((by have hh := uvalid_any ({ U with A := Bu, c := cu } : Un) w_10 (HP.fact 0 rfl) (Nat.le_trans hcau hcbu); rw [show validU ({ U with A := Bu, c := cu } : Un) = false from hvu] at hh; exact hh)) ?_
  rintro e w_11 ⟨rfl, hb⟩
  refine ⟨_, rfl, ?_⟩
  intro a H
  have HP := HP.next hb
  refine H.val 32 (.bool false) (by kernel_rfl) (by kernel_rfl) ?_
  intro a H
  refine H.val 33 (.bool false) (by kernel_rfl) (by kernel_rfl) ?_
  intro a H
  refine H.val 34 (.int .i64 180) (by kernel_rfl) (by kernel_rfl) ?_
  intro a H
  refine H.val 35 (.bool true) (by kernel_rfl) (by kernel_rfl) ?_
  intro a H
  refine H.val 36 (.bool true) (by kernel_rfl) (by kernel_rfl) ?_
  intro a H
  refine H.val 37 (.int .i64 180) (by kernel_rfl) (by kernel_rfl) ?_
  intro a H
  refine H.val 38 (.bool false) (by kernel_rfl) (by kernel_rfl) ?_
  intro a H
  refine H.val 39 (.bool false) (by kernel_rfl) (by kernel_rfl) ?_
  intro a H
  refine H.val 40 (.string (bstr ([]))) (by kernel_rfl) (by kernel_rfl) ?_
  intro a H
  refine H.valE 41 (.bool (!((bstr []).toList == (bstr []).toList))) (.bool false) (by kernel_rfl) (by kernel_rfl) ((by kernel_rfl)) ?_
  intro a H
  refine H.val 42 (.bool false) (by kernel_rfl) (by kernel_rfl) ?_
  intro a H
  refine H.val 43 (.bool false) (by kernel_rfl) (by kernel_rfl) ?_
  intro a H
  refine H.val 44 (.bool false) (by kernel_rfl) (by kernel_rfl) ?_
  intro a H
  refine wpList_nil ?_
  have H := H.keep (L' := [(44, (.bool false)), (10, (.int .i64 180)), (9, (.string (bstr ([])))), (21, (.agg #[(.int .i64 U.channel), (.int .i64 U.frame), (.int .i64 U.version), (.int .i64 U.item), (.int .i64 U.index), (.bool U.key), (.string (bstr U.data)), (.int .i64 U.regions), (.int .i64 U.gain), (.string (bstr U.caption)), (.int .i64 U.os), (.int .i64 U.of), (.slice Bu U.al.length cu)])), (20, (.agg #[(.int .i64 u.channel), (.int .i64 u.frame), (.int .i64 u.version), (.int .i64 u.item), (.int .i64 u.index), (.bool u.key), (.string (bstr u.data)), (.int .i64 u.regions), (.int .i64 u.gain), (.string (bstr u.caption)), (.int .i64 u.os), (.int .i64 u.of), (.slice u.A u.al.length u.c)])), (8, (.pointer (some ⟨b_5, 0, none⟩))), (19, (.agg #[(.int .i64 ((rateP c).1)), (.int .i64 ((rateP c).2))])), (18, (.int .i64 c)), (7, (.bool true)), (17, (.bool true)), (6, (.bool false)), (4, (.pointer (some ⟨b_1, 0, none⟩))), (0, (.int .i64 c)), (1, (.agg #[(.int .i64 u.channel), (.int .i64 u.frame), (.int .i64 u.version), (.int .i64 u.item), (.int .i64 u.index), (.bool u.key), (.string (bstr u.data)), (.int .i64 u.regions), (.int .i64 u.gain), (.string (bstr u.caption)), (.int .i64 u.os), (.int .i64 u.of), (.slice u.A u.al.length u.c)])), (2, (.string (bstr s)))]) (by kernel_rfl)
  refine then_normal ?_
  refine w_iff H rfl ?_
  refine wp_skip ?_
  refine then_normal ?_
  refine wp_seq ?_
  refine wp_seq ?_
  refine w_region ?_
  refine H.val 45 (.int .i64 180) (by kernel_rfl) (by kernel_rfl) ?_
  intro a H
  refine H.val 46 (.bool false) (by kernel_rfl) (by kernel_rfl) ?_
  intro a H
  refine wpList_nil ?_
  refine then_normal ?_
  refine w_iff H rfl ?_
  refine wp_skip ?_
  refine then_normal ?_
  refine wp_seq ?_
  refine w_region ?_
  refine H.val 61 (.string (bstr s)) (by kernel_rfl) (by kernel_rfl) ?_
  intro a H
  refine H.val 62 (.string (bstr s)) (by kernel_rfl) (by kernel_rfl) ?_
  intro a H
  refine H.val 63 (.int .i64 ((s.length : Nat) : Int)) (by kernel_rfl) (by kernel_rfl) ?_
  intro a H
  refine H.valE 64 (.int .i64 (if (2000 : Int) < ((s.length : Nat) : Int) then 2000 else ((s.length : Nat) : Int))) (.int .i64 ((min s.length 2000 : Nat) : Int)) (by kernel_rfl) (by kernel_rfl) ((congrArg (Value.int .i64) (by split <;> omega))) ?_
  intro a H
  refine H.valE 65 (.string (bstr (s.take (min s.length 2000)))) (.string (bstr (s.take 2000))) (by kernel_rfl) (ex_ssliceH (kk := .i64) (l := s) (j := ((min s.length 2000 : Nat) : Int)) (b := min s.length 2000) (by kernel_rfl) (by kernel_rfl) (by kernel_rfl) (by omega) (by omega)) ((congrArg (fun x => Value.string (bstr x)) (take_min _ _))) ?_
  intro a H
  refine H.val 2 (.string (bstr (s.take 2000))) (by kernel_rfl) (by kernel_rfl) ?_
  intro a H
  refine wpList_nil ?_
  have H := H.keep (L' := [(2, (.string (bstr (s.take 2000)))), (46, (.bool false)), (45, (.int .i64 180)), (44, (.bool false)), (10, (.int .i64 180)), (9, (.string (bstr ([])))), (21, (.agg #[(.int .i64 U.channel), (.int .i64 U.frame), (.int .i64 U.version), (.int .i64 U.item), (.int .i64 U.index), (.bool U.key), (.string (bstr U.data)), (.int .i64 U.regions), (.int .i64 U.gain), (.string (bstr U.caption)), (.int .i64 U.os), (.int .i64 U.of), (.slice Bu U.al.length cu)])), (20, (.agg #[(.int .i64 u.channel), (.int .i64 u.frame), (.int .i64 u.version), (.int .i64 u.item), (.int .i64 u.index), (.bool u.key), (.string (bstr u.data)), (.int .i64 u.regions), (.int .i64 u.gain), (.string (bstr u.caption)), (.int .i64 u.os), (.int .i64 u.of), (.slice u.A u.al.length u.c)])), (8, (.pointer (some ⟨b_5, 0, none⟩))), (19, (.agg #[(.int .i64 ((rateP c).1)), (.int .i64 ((rateP c).2))])), (18, (.int .i64 c)), (7, (.bool true)), (17, (.bool true)), (6, (.bool false)), (4, (.pointer (some ⟨b_1, 0, none⟩))), (0, (.int .i64 c)), (1, (.agg #[(.int .i64 u.channel), (.int .i64 u.frame), (.int .i64 u.version), (.int .i64 u.item), (.int .i64 u.index), (.bool u.key), (.string (bstr u.data)), (.int .i64 u.regions), (.int .i64 u.gain), (.string (bstr u.caption)), (.int .i64 u.os), (.int .i64 u.of), (.slice u.A u.al.length u.c)]))]) (by kernel_rfl)
  refine then_normal ?_
  refine wp_seq ?_
  refine w_region ?_
  refine H.val 67 (.agg #[(.int .i64 ((rateP c).1)), (.int .i64 ((rateP c).2))]) (by kernel_rfl) (ex_loadN (vs := [(.int .i64 ((rateP c).1)), (.int .i64 ((rateP c).2))]) (by kernel_rfl) (by kernel_rfl) (by kernel_rfl) rfl (HP.cells 0 rfl 0 2 (by kernel_rfl))) ?_
  intro a H
  refine H.val 68 (.string (bstr (s.take 2000))) (by kernel_rfl) (by kernel_rfl) ?_
  intro a H
  refine H.call 69 (by kernel_rfl) (Eq.trans (by kernel_rfl : _ = (callFunc 22 #[(.agg #[(.int .i64 ((rateP c).1)), (.int .i64 ((rateP c).2))]), (.string (bstr (s.take 2000)))]).run Tryd.prog w_11) (Tryd.call22 _ _)) ((by have hh := unpack_any (rateP c).1 (rateP c).2 (s.take 2000) w_11 (hL.below (HP.below (by kernel_rfl))) hs2; rw [hX] at hh; exact hh)) ?_
  rintro e w_12 ⟨rfl, hb⟩
  refine ⟨_, rfl, ?_⟩
  intro a H
  have HP := HP.next hb
  refine H.val 66 (.tuple #[(.agg #[(.int .i64 0), (.int .i64 0), (.int .i64 0), (.int .i64 0), (.int .i64 0), (.bool false), (.string (bstr ([]))), (.int .i64 0), (.int .i64 0), (.string (bstr ([]))), (.int .i64 0), (.int .i64 0), (.slice none 0 0)]), (.int .i64 180)]) (by kernel_rfl) (by kernel_rfl) ?_
  intro a H
  refine H.val 70 (.agg #[(.int .i64 0), (.int .i64 0), (.int .i64 0), (.int .i64 0), (.int .i64 0), (.bool false), (.string (bstr ([]))), (.int .i64 0), (.int .i64 0), (.string (bstr ([]))), (.int .i64 0), (.int .i64 0), (.slice none 0 0)]) (by kernel_rfl) (by kernel_rfl) ?_
  intro a H
  refine H.val 71 (.int .i64 180) (by kernel_rfl) (by kernel_rfl) ?_
  intro a H
  refine H.alloc HP 13 (fun b => (.pointer (some ⟨b, 0, none⟩))) 28 [(.int .i64 0), (.int .i64 0), (.int .i64 0), (.int .i64 0), (.int .i64 0), (.bool false), (.string (bstr ([]))), (.int .i64 0), (.int .i64 0), (.string (bstr ([]))), (.int .i64 0), (.int .i64 0), (.slice none 0 0)] (by kernel_rfl) (fun w => by kernel_rfl) ?_
  intro b_13 w_14 a H HP
  refine H.store HP 0 b_13 0 13 28 [(.int .i64 0), (.int .i64 0), (.int .i64 0), (.int .i64 0), (.int .i64 0), (.bool false), (.string (bstr ([]))), (.int .i64 0), (.int .i64 0), (.string (bstr ([]))), (.int .i64 0), (.int .i64 0), (.slice none 0 0)] true (.agg #[(.int .i64 0), (.int .i64 0), (.int .i64 0), (.int .i64 0), (.int .i64 0), (.bool false), (.string (bstr ([]))), (.int .i64 0), (.int .i64 0), (.string (bstr ([]))), (.int .i64 0), (.int .i64 0), (.slice none 0 0)]) [bx b_13 28 [(.int .i64 0), (.int .i64 0), (.int .i64 0), (.int .i64 0), (.int .i64 0), (.bool false), (.string (bstr ([]))), (.int .i64 0), (.int .i64 0), (.string (bstr ([]))), (.int .i64 0), (.int .i64 0), (.slice none 0 0)] true, bx b_5 23 [(.int .i64 ((rateP c).1)), (.int .i64 ((rateP c).2))] true, bx b_1 28 [(.int .i64 U.channel), (.int .i64 U.frame), (.int .i64 U.version), (.int .i64 U.item), (.int .i64 U.index), (.bool U.key), (.string (bstr U.data)), (.int .i64 U.regions), (.int .i64 U.gain), (.string (bstr U.caption)), (.int .i64 U.os), (.int .i64 U.of), (.slice Bu U.al.length cu)] true] (by kernel_rfl) (by kernel_rfl) (by kernel_rfl) rfl (by kernel_rfl) (by kernel_rfl) (by kernel_rfl) (by kernel_rfl) (by kernel_rfl) ?_
  intro w_15 a H HP
  refine H.val 14 (.int .i64 180) (by kernel_rfl) (by kernel_rfl) ?_
  intro a H
  refine wpList_nil ?_
  have H := H.keep (L' := [(14, (.int .i64 180)), (13, (.pointer (some ⟨b_13, 0, none⟩))), (2, (.string (bstr (s.take 2000)))), (46, (.bool false)), (45, (.int .i64 180)), (44, (.bool false)), (10, (.int .i64 180)), (9, (.string (bstr ([])))), (21, (.agg #[(.int .i64 U.channel), (.int .i64 U.frame), (.int .i64 U.version), (.int .i64 U.item), (.int .i64 U.index), (.bool U.key), (.string (bstr U.data)), (.int .i64 U.regions), (.int .i64 U.gain), (.string (bstr U.caption)), (.int .i64 U.os), (.int .i64 U.of), (.slice Bu U.al.length cu)])), (20, (.agg #[(.int .i64 u.channel), (.int .i64 u.frame), (.int .i64 u.version), (.int .i64 u.item), (.int .i64 u.index), (.bool u.key), (.string (bstr u.data)), (.int .i64 u.regions), (.int .i64 u.gain), (.string (bstr u.caption)), (.int .i64 u.os), (.int .i64 u.of), (.slice u.A u.al.length u.c)])), (8, (.pointer (some ⟨b_5, 0, none⟩))), (19, (.agg #[(.int .i64 ((rateP c).1)), (.int .i64 ((rateP c).2))])), (18, (.int .i64 c)), (7, (.bool true)), (17, (.bool true)), (6, (.bool false)), (4, (.pointer (some ⟨b_1, 0, none⟩))), (0, (.int .i64 c)), (1, (.agg #[(.int .i64 u.channel), (.int .i64 u.frame), (.int .i64 u.version), (.int .i64 u.item), (.int .i64 u.index), (.bool u.key), (.string (bstr u.data)), (.int .i64 u.regions), (.int .i64 u.gain), (.string (bstr u.caption)), (.int .i64 u.os), (.int .i64 u.of), (.slice u.A u.al.length u.c)]))]) (by kernel_rfl)
  refine then_normal ?_
  refine wp_seq ?_
  refine wp_seq ?_
  refine w_region ?_
  refine H.val 72 (.int .i64 180) (by kernel_rfl) (by kernel_rfl) ?_
  intro a H
  refine H.val 73 (.bool true) (by kernel_rfl) (by kernel_rfl) ?_
  intro a H
  refine wpList_nil ?_
  refine then_normal ?_
  refine w_ift H rfl ?_
  refine wp_seq ?_
  refine w_region ?_
  refine H.val 74 (.bool true) (by kernel_rfl) (by kernel_rfl) ?_
  intro a H
  refine H.val 75 (.bool true) (by kernel_rfl) (by kernel_rfl) ?_
  intro a H
  refine H.val 76 (.int .i64 180) (by kernel_rfl) (by kernel_rfl) ?_
  intro a H
  refine H.val 77 (.bool true) (by kernel_rfl) (by kernel_rfl) ?_
  intro a H
  refine H.val 78 (.bool true) (by kernel_rfl) (by kernel_rfl) ?_
  intro a H
  refine H.val 79 (.bool true) (by kernel_rfl) (by kernel_rfl) ?_
  intro a H
  refine H.val 80 (.agg #[(.int .i64 0), (.int .i64 0), (.int .i64 0), (.int .i64 0), (.int .i64 0), (.bool false), (.string (bstr ([]))), (.int .i64 0), (.int .i64 0), (.string (bstr ([]))), (.int .i64 0), (.int .i64 0), (.slice none 0 0)]) (by kernel_rfl) (ex_loadN (vs := [(.int .i64 0), (.int .i64 0), (.int .i64 0), (.int .i64 0), (.int .i64 0), (.bool false), (.string (bstr ([]))), (.int .i64 0), (.int .i64 0), (.string (bstr ([]))), (.int .i64 0), (.int .i64 0), (.slice none 0 0)]) (by kernel_rfl) (by kernel_rfl) (by kernel_rfl) rfl (HP.cells 0 rfl 0 13 (by kernel_rfl))) ?_
  intro a H
  refine H.val 81 (.agg #[(.int .i64 0), (.int .i64 0), (.int .i64 0), (.int .i64 0), (.int .i64 0), (.bool false), (.string (bstr ([]))), (.int .i64 0), (.int .i64 0), (.string (bstr ([]))), (.int .i64 0), (.int .i64 0), (.slice none 0 0)]) (by kernel_rfl) (by kernel_rfl) ?_
  intro a H
  refine H.call 82 (by kernel_rfl) (Eq.trans (by kernel_rfl : _ = (callFunc 20 #[(.agg #[(.int .i64 0), (.int .i64 0), (.int .i64 0), (.int .i64 0), (.int .i64 0), (.bool false), (.string (bstr ([]))), (.int .i64 0), (.int .i64 0), (.string (bstr ([]))), (.int .i64 0), (.int .i64 0), (.slice none 0 0)]), (.agg #[(.int .i64 0), (.int .i64 0), (.int .i64 0), (.int .i64 0), (.int .i64 0), (.bool false), (.string (bstr ([]))), (.int .i64 0), (.int .i64 0), (.string (bstr ([]))), (.int .i64 0), (.int .i64 0), (.slice none 0 0)])]).run Tryd.prog w_15) (Tryd.call20 _ _)) ((by have hh := usame_any zeroU zeroU w_15 (IsAlts.nil _ _) (IsAlts.nil _ _) (Nat.zero_le _); rw [show sameU zeroU zeroU = true from by kernel_rfl] at hh; exact hh)) ?_
  rintro e w_16 ⟨rfl, hb⟩
  refine ⟨_, rfl, ?_⟩
  intro a H
  have HP := HP.next hb
  refine H.val 83 (.bool true) (by kernel_rfl) (by kernel_rfl) ?_
  intro a H
  refine H.val 6 (.bool true) (by kernel_rfl) (by kernel_rfl) ?_
  intro a H
  refine wpList_nil ?_
  have H := H.keep (L' := [(6, (.bool true)), (73, (.bool true)), (72, (.int .i64 180)), (14, (.int .i64 180)), (13, (.pointer (some ⟨b_13, 0, none⟩))), (2, (.string (bstr (s.take 2000)))), (46, (.bool false)), (45, (.int .i64 180)), (44, (.bool false)), (10, (.int .i64 180)), (9, (.string (bstr ([])))), (21, (.agg #[(.int .i64 U.channel), (.int .i64 U.frame), (.int .i64 U.version), (.int .i64 U.item), (.int .i64 U.index), (.bool U.key), (.string (bstr U.data)), (.int .i64 U.regions), (.int .i64 U.gain), (.string (bstr U.caption)), (.int .i64 U.os), (.int .i64 U.of), (.slice Bu U.al.length cu)])), (20, (.agg #[(.int .i64 u.channel), (.int .i64 u.frame), (.int .i64 u.version), (.int .i64 u.item), (.int .i64 u.index), (.bool u.key), (.string (bstr u.data)), (.int .i64 u.regions), (.int .i64 u.gain), (.string (bstr u.caption)), (.int .i64 u.os), (.int .i64 u.of), (.slice u.A u.al.length u.c)])), (8, (.pointer (some ⟨b_5, 0, none⟩))), (19, (.agg #[(.int .i64 ((rateP c).1)), (.int .i64 ((rateP c).2))])), (18, (.int .i64 c)), (7, (.bool true)), (17, (.bool true)), (4, (.pointer (some ⟨b_1, 0, none⟩))), (0, (.int .i64 c)), (1, (.agg #[(.int .i64 u.channel), (.int .i64 u.frame), (.int .i64 u.version), (.int .i64 u.item), (.int .i64 u.index), (.bool u.key), (.string (bstr u.data)), (.int .i64 u.regions), (.int .i64 u.gain), (.string (bstr u.caption)), (.int .i64 u.os), (.int .i64 u.of), (.slice u.A u.al.length u.c)]))]) (by kernel_rfl)
  refine then_normal ?_
  refine wp_ret ?_
  refine then_ret ?_
  refine H.ret1 (fn := Tryd.f5) Tryd.results5 (RV.tmp_ (v := (.bool true)) (by kernel_rfl)) ?_
  exact ⟨rfl, (HP.below (by kernel_rfl))⟩
set_option maxRecDepth 100000 in
set_option maxHeartbeats 4000000 in
theorem rt_nonesome (c : Int) (u U : Un) (s : List UInt8) (w : World) (hU : shortU u = U) (hL : Laid w) (hc : -9223372036854775808 ≤ c ∧ c ≤ 9223372036854775807) (huu : IsAlts w u.A u.al.length u.al) (hcu : u.al.length ≤ u.c) (hAu : u.A = none → u.c = 0) (X : Un) (hZu : ∀ B c', packP (rateP c).1 (rateP c).2 ({ U with A := B, c := c' } : Un) = none) (hX : unpackP (rateP c).1 (rateP c).2 (s.take 2000) = some X) :
    Calls Tryd.prog 5 #[.int .i64 c, u.val, .string (bstr s)] w fun e w' => e = .returned (.bool true) ∧ Below w.heap.size w w' := by
  have HP := Hp.start w
  have hs2 : (s.take 2000).length ≤ 1000000 := by rw [List.length_take]; omega
  have hvu : validU U = false := pack_none (rateP_ok c) (hZu none 0)
  refine w_enter 100 [(0, (.int .i64 c)), (1, (.agg #[(.int .i64 u.channel), (.int .i64 u.frame), (.int .i64 u.version), (.int .i64 u.item), (.int .i64 u.index), (.bool u.key), (.string (bstr u.data)), (.int .i64 u.regions), (.int .i64 u.gain), (.string (bstr u.caption)), (.int .i64 u.os), (.int .i64 u.of), (.slice u.A u.al.length u.c)])), (2, (.string (bstr s)))] Tryd.func5 rfl Tryd.ntmps5 (by kernel_rfl) (by kernel_rfl) ?_
  intro a H
  refine wp_seq ?_
  refine w_region ?_
  refine H.alloc HP 4 (fun b => (.pointer (some ⟨b, 0, none⟩))) 28 [(.int .i64 u.channel), (.int .i64 u.frame), (.int .i64 u.version), (.int .i64 u.item), (.int .i64 u.index), (.bool u.key), (.string (bstr u.data)), (.int .i64 u.regions), (.int .i64 u.gain), (.string (bstr u.caption)), (.int .i64 u.os), (.int .i64 u.of), (.slice u.A u.al.length u.c)] (by kernel_rfl) (fun w => by kernel_rfl) ?_
  intro b_1 w_2 a H HP
  refine H.val 6 (.bool false) (by kernel_rfl) (by kernel_rfl) ?_
  intro a H
  refine wpList_nil ?_
  refine then_normal ?_
  refine wp_seq ?_
  refine w_region ?_
  refine H.call 17 (by kernel_rfl) (Eq.trans (by kernel_rfl : _ = (callFunc 13 #[]).run Tryd.prog w_2) (Tryd.call13 _ _)) (sane_any w_2 (hL.below (HP.below (by kernel_rfl)))) ?_
  rintro e w_3 ⟨rfl, hb⟩
  refine ⟨_, rfl, ?_⟩
  intro a H
  have HP := HP.next hb
  refine H.val 7 (.bool true) (by kernel_rfl) (by kernel_rfl) ?_
  intro a H
  refine wpList_nil ?_
  refine then_normal ?_
  refine wp_seq ?_
  refine w_region ?_
  refine H.val 18 (.int .i64 c) (by kernel_rfl) (by kernel_rfl) ?_
  intro a H
  refine H.call 19 (by kernel_rfl) (Eq.trans (by kernel_rfl : _ = (callFunc 14 #[(.int .i64 c)]).run Tryd.prog w_3) (Tryd.call14 _ _)) (rate_any c w_3 hc) ?_
  rintro e w_4 ⟨rfl, hb⟩
  refine ⟨_, rfl, ?_⟩
  intro a H
  have HP := HP.next hb
  refine H.alloc HP 8 (fun b => (.pointer (some ⟨b, 0, none⟩))) 23 [(.int .i64 0), (.int .i64 0)] (by kernel_rfl) (fun w => by kernel_rfl) ?_
  intro b_5 w_6 a H HP
  refine H.store HP 0 b_5 0 2 23 [(.int .i64 0), (.int .i64 0)] true (.agg #[(.int .i64 ((rateP c).1)), (.int .i64 ((rateP c).2))]) [bx b_5 23 [(.int .i64 ((rateP c).1)), (.int .i64 ((rateP c).2))] true, bx b_1 28 [(.int .i64 u.channel), (.int .i64 u.frame), (.int .i64 u.version), (.int .i64 u.item), (.int .i64 u.index), (.bool u.key), (.string (bstr u.data)), (.int .i64 u.regions), (.int .i64 u.gain), (.string (bstr u.caption)), (.int .i64 u.os), (.int .i64 u.of), (.slice u.A u.al.length u.c)] true] (by kernel_rfl) (by kernel_rfl) (by kernel_rfl) rfl (by kernel_rfl) (by kernel_rfl) (by kernel_rfl) (by kernel_rfl) (by kernel_rfl) ?_
  intro w_7 a H HP
  refine wpList_nil ?_
  refine then_normal ?_
  refine wp_seq ?_
  refine w_region ?_
  refine H.val 20 (.agg #[(.int .i64 u.channel), (.int .i64 u.frame), (.int .i64 u.version), (.int .i64 u.item), (.int .i64 u.index), (.bool u.key), (.string (bstr u.data)), (.int .i64 u.regions), (.int .i64 u.gain), (.string (bstr u.caption)), (.int .i64 u.os), (.int .i64 u.of), (.slice u.A u.al.length u.c)]) (by kernel_rfl) (ex_loadN (vs := [(.int .i64 u.channel), (.int .i64 u.frame), (.int .i64 u.version), (.int .i64 u.item), (.int .i64 u.index), (.bool u.key), (.string (bstr u.data)), (.int .i64 u.regions), (.int .i64 u.gain), (.string (bstr u.caption)), (.int .i64 u.os), (.int .i64 u.of), (.slice u.A u.al.length u.c)]) (by kernel_rfl) (by kernel_rfl) (by kernel_rfl) rfl (HP.cells 1 rfl 0 13 (by kernel_rfl))) ?_
  intro a H
  refine H.call 21 (by kernel_rfl) (Eq.trans (by kernel_rfl : _ = (callFunc 15 #[(.agg #[(.int .i64 u.channel), (.int .i64 u.frame), (.int .i64 u.version), (.int .i64 u.item), (.int .i64 u.index), (.bool u.key), (.string (bstr u.data)), (.int .i64 u.regions), (.int .i64 u.gain), (.string (bstr u.caption)), (.int .i64 u.os), (.int .i64 u.of), (.slice u.A u.al.length u.c)])]).run Tryd.prog w_7) (Tryd.call15 _ _)) (short_anyU hU (short_any u w_7 (huu.below (HP.below (by kernel_rfl))) hcu hAu)) ?_
  rintro e w_8 ⟨Bu, cu, rfl, halu, hcau, hcbu, hccu, hfru, hb⟩
  refine ⟨_, rfl, ?_⟩
  intro a H
  have HP := (HP.next hb).keepF ⟨rowFp U.al.length Bu, fun w => IsAlts w Bu U.al.length U.al⟩ halu (fun _ _ h hk hs => ⟨h.1, h.2.keep hk hs⟩) (fun j hj => row_sep HP halu.2 hfru hj)
  refine H.store HP 1 b_1 0 13 28 [(.int .i64 u.channel), (.int .i64 u.frame), (.int .i64 u.version), (.int .i64 u.item), (.int .i64 u.index), (.bool u.key), (.string (bstr u.data)), (.int .i64 u.regions), (.int .i64 u.gain), (.string (bstr u.caption)), (.int .i64 u.os), (.int .i64 u.of), (.slice u.A u.al.length u.c)] true (.agg #[(.int .i64 U.channel), (.int .i64 U.frame), (.int .i64 U.version), (.int .i64 U.item), (.int .i64 U.index), (.bool U.key), (.string (bstr U.data)), (.int .i64 U.regions), (.int .i64 U.gain), (.string (bstr U.caption)), (.int .i64 U.os), (.int .i64 U.of), (.slice Bu U.al.length cu)]) [bx b_5 23 [(.int .i64 ((rateP c).1)), (.int .i64 ((rateP c).2))] true, bx b_1 28 [(.int .i64 U.channel), (.int .i64 U.frame), (.int .i64 U.version), (.int .i64 U.item), (.int .i64 U.index), (.bool U.key), (.string (bstr U.data)), (.int .i64 U.regions), (.int .i64 U.gain), (.string (bstr U.caption)), (.int .i64 U.os), (.int .i64 U.of), (.slice Bu U.al.length cu)] true] (by kernel_rfl) (by kernel_rfl) (by kernel_rfl) rfl (by kernel_rfl) (by kernel_rfl) (by kernel_rfl) (by kernel_rfl) (by kernel_rfl) ?_
  intro w_9 a H HP
  refine wpList_nil ?_
  refine then_normal ?_
  refine wp_seq ?_
  refine w_region ?_
  refine H.val 23 (.agg #[(.int .i64 ((rateP c).1)), (.int .i64 ((rateP c).2))]) (by kernel_rfl) (ex_loadN (vs := [(.int .i64 ((rateP c).1)), (.int .i64 ((rateP c).2))]) (by kernel_rfl) (by kernel_rfl) (by kernel_rfl) rfl (HP.cells 0 rfl 0 2 (by kernel_rfl))) ?_
  intro a H
  refine H.val 24 (.agg #[(.int .i64 U.channel), (.int .i64 U.frame), (.int .i64 U.version), (.int .i64 U.item), (.int .i64 U.index), (.bool U.key), (.string (bstr U.data)), (.int .i64 U.regions), (.int .i64 U.gain), (.string (bstr U.caption)), (.int .i64 U.os), (.int .i64 U.of), (.slice Bu U.al.length cu)]) (by kernel_rfl) (ex_loadN (vs := [(.int .i64 U.channel), (.int .i64 U.frame), (.int .i64 U.version), (.int .i64 U.item), (.int .i64 U.index), (.bool U.key), (.string (bstr U.data)), (.int .i64 U.regions), (.int .i64 U.gain), (.string (bstr U.caption)), (.int .i64 U.os), (.int .i64 U.of), (.slice Bu U.al.length cu)]) (by kernel_rfl) (by kernel_rfl) (by kernel_rfl) rfl (HP.cells 1 rfl 0 13 (by kernel_rfl))) ?_
  intro a H
  refine H.call 25 (by kernel_rfl) (Eq.trans (by kernel_rfl : _ = (callFunc 16 #[(.agg #[(.int .i64 ((rateP c).1)), (.int .i64 ((rateP c).2))]), (.agg #[(.int .i64 U.channel), (.int .i64 U.frame), (.int .i64 U.version), (.int .i64 U.item), (.int .i64 U.index), (.bool U.key), (.string (bstr U.data)), (.int .i64 U.regions), (.int .i64 U.gain), (.string (bstr U.caption)), (.int .i64 U.os), (.int .i64 U.of), (.slice Bu U.al.length cu)])]).run Tryd.prog w_9) (Tryd.call16 _ _)) ((by have hh := pack_any ((rateP c).1) ((rateP c).2) (⟨U.channel, U.frame, U.version, U.item, U.index, U.key, U.data, U.regions, U.gain, U.caption, U.os, U.of, Bu, cu, U.al⟩ : Un) w_9 (hL.below (HP.below (by kernel_rfl))) (HP.fact 0 rfl) (Nat.le_trans hcau hcbu); rw [hZu Bu cu] at hh; exact hh)) ?_
  rintro e w_10 ⟨rfl, hb⟩
  refine ⟨_, rfl, ?_⟩
  intro a H
  have HP := HP.next hb
  refine H.val 22 (.tuple #[(.string (bstr ([]))), (.int .i64 180)]) (by kernel_rfl) (by kernel_rfl) ?_
  intro a H
  refine H.val 26 (.string (bstr ([]))) (by kernel_rfl) (by kernel_rfl) ?_
  intro a H
  refine H.val 27 (.int .i64 180) (by kernel_rfl) (by kernel_rfl) ?_
  intro a H
  refine H.val 9 (.string (bstr ([]))) (by kernel_rfl) (by kernel_rfl) ?_
  intro a H
  refine H.val 10 (.int .i64 180) (by kernel_rfl) (by kernel_rfl) ?_
  intro a H
  refine wpList_nil ?_
  have H := H.keep (L' := [(10, (.int .i64 180)), (9, (.string (bstr ([])))), (21, (.agg #[(.int .i64 U.channel), (.int .i64 U.frame), (.int .i64 U.version), (.int .i64 U.item), (.int .i64 U.index), (.bool U.key), (.string (bstr U.data)), (.int .i64 U.regions), (.int .i64 U.gain), (.string (bstr U.caption)), (.int .i64 U.os), (.int .i64 U.of), (.slice Bu U.al.length cu)])), (20, (.agg #[(.int .i64 u.channel), (.int .i64 u.frame), (.int .i64 u.version), (.int .i64 u.item), (.int .i64 u.index), (.bool u.key), (.string (bstr u.data)), (.int .i64 u.regions), (.int .i64 u.gain), (.string (bstr u.caption)), (.int .i64 u.os), (.int .i64 u.of), (.slice u.A u.al.length u.c)])), (8, (.pointer (some ⟨b_5, 0, none⟩))), (19, (.agg #[(.int .i64 ((rateP c).1)), (.int .i64 ((rateP c).2))])), (18, (.int .i64 c)), (7, (.bool true)), (17, (.bool true)), (6, (.bool false)), (4, (.pointer (some ⟨b_1, 0, none⟩))), (0, (.int .i64 c)), (1, (.agg #[(.int .i64 u.channel), (.int .i64 u.frame), (.int .i64 u.version), (.int .i64 u.item), (.int .i64 u.index), (.bool u.key), (.string (bstr u.data)), (.int .i64 u.regions), (.int .i64 u.gain), (.string (bstr u.caption)), (.int .i64 u.os), (.int .i64 u.of), (.slice u.A u.al.length u.c)])), (2, (.string (bstr s)))]) (by kernel_rfl)
  refine then_normal ?_
  refine wp_seq ?_
  refine wp_seq ?_
  refine w_region ?_
  refine H.val 28 (.int .i64 180) (by kernel_rfl) (by kernel_rfl) ?_
  intro a H
  refine H.val 29 (.bool false) (by kernel_rfl) (by kernel_rfl) ?_
  intro a H
  refine H.val 30 (.agg #[(.int .i64 U.channel), (.int .i64 U.frame), (.int .i64 U.version), (.int .i64 U.item), (.int .i64 U.index), (.bool U.key), (.string (bstr U.data)), (.int .i64 U.regions), (.int .i64 U.gain), (.string (bstr U.caption)), (.int .i64 U.os), (.int .i64 U.of), (.slice Bu U.al.length cu)]) (by kernel_rfl) (ex_loadN (vs := [(.int .i64 U.channel), (.int .i64 U.frame), (.int .i64 U.version), (.int .i64 U.item), (.int .i64 U.index), (.bool U.key), (.string (bstr U.data)), (.int .i64 U.regions), (.int .i64 U.gain), (.string (bstr U.caption)), (.int .i64 U.os), (.int .i64 U.of), (.slice Bu U.al.length cu)]) (by kernel_rfl) (by kernel_rfl) (by kernel_rfl) rfl (HP.cells 1 rfl 0 13 (by kernel_rfl))) ?_
  intro a H
  refine H.call 31 (by kernel_rfl) (Eq.trans (by kernel_rfl : _ = (callFunc 18 #[(.agg #[(.int .i64 U.channel), (.int .i64 U.frame), (.int .i64 U.version), (.int .i64 U.item), (.int .i64 U.index), (.bool U.key), (.string (bstr U.data)), (.int .i64 U.regions), (.int .i64 U.gain), (.string (bstr U.caption)), (.int .i64 U.os), (.int .i64 U.of), (.slice Bu U.al.length cu)])]).run Tryd.prog w_10) (Tryd.call18 _ _)) ((by have hh := uvalid_any ({ U with A := Bu, c := cu } : Un) w_10 (HP.fact 0 rfl) (Nat.le_trans hcau hcbu); rw [show validU ({ U with A := Bu, c := cu } : Un) = false from hvu] at hh; exact hh)) ?_
  rintro e w_11 ⟨rfl, hb⟩
  refine ⟨_, rfl, ?_⟩
  intro a H
  have HP := HP.next hb
  refine H.val 32 (.bool false) (by kernel_rfl) (by kernel_rfl) ?_
  intro a H
  refine H.val 33 (.bool false) (by kernel_rfl) (by kernel_rfl) ?_
  intro a H
  refine H.val 34 (.int .i64 180) (by kernel_rfl) (by kernel_rfl) ?_
  intro a H
  refine H.val 35 (.bool true) (by kernel_rfl) (by kernel_rfl) ?_
  intro a H
  refine H.val 36 (.bool true) (by kernel_rfl) (by kernel_rfl) ?_
  intro a H
  refine H.val 37 (.int .i64 180) (by kernel_rfl) (by kernel_rfl) ?_
  intro a H
  refine H.val 38 (.bool false) (by kernel_rfl) (by kernel_rfl) ?_
  intro a H
  refine H.val 39 (.bool false) (by kernel_rfl) (by kernel_rfl) ?_
  intro a H
  refine H.val 40 (.string (bstr ([]))) (by kernel_rfl) (by kernel_rfl) ?_
  intro a H
  refine H.valE 41 (.bool (!((bstr []).toList == (bstr []).toList))) (.bool false) (by kernel_rfl) (by kernel_rfl) ((by kernel_rfl)) ?_
  intro a H
  refine H.val 42 (.bool false) (by kernel_rfl) (by kernel_rfl) ?_
  intro a H
  refine H.val 43 (.bool false) (by kernel_rfl) (by kernel_rfl) ?_
  intro a H
  refine H.val 44 (.bool false) (by kernel_rfl) (by kernel_rfl) ?_
  intro a H
  refine wpList_nil ?_
  have H := H.keep (L' := [(44, (.bool false)), (10, (.int .i64 180)), (9, (.string (bstr ([])))), (21, (.agg #[(.int .i64 U.channel), (.int .i64 U.frame), (.int .i64 U.version), (.int .i64 U.item), (.int .i64 U.index), (.bool U.key), (.string (bstr U.data)), (.int .i64 U.regions), (.int .i64 U.gain), (.string (bstr U.caption)), (.int .i64 U.os), (.int .i64 U.of), (.slice Bu U.al.length cu)])), (20, (.agg #[(.int .i64 u.channel), (.int .i64 u.frame), (.int .i64 u.version), (.int .i64 u.item), (.int .i64 u.index), (.bool u.key), (.string (bstr u.data)), (.int .i64 u.regions), (.int .i64 u.gain), (.string (bstr u.caption)), (.int .i64 u.os), (.int .i64 u.of), (.slice u.A u.al.length u.c)])), (8, (.pointer (some ⟨b_5, 0, none⟩))), (19, (.agg #[(.int .i64 ((rateP c).1)), (.int .i64 ((rateP c).2))])), (18, (.int .i64 c)), (7, (.bool true)), (17, (.bool true)), (6, (.bool false)), (4, (.pointer (some ⟨b_1, 0, none⟩))), (0, (.int .i64 c)), (1, (.agg #[(.int .i64 u.channel), (.int .i64 u.frame), (.int .i64 u.version), (.int .i64 u.item), (.int .i64 u.index), (.bool u.key), (.string (bstr u.data)), (.int .i64 u.regions), (.int .i64 u.gain), (.string (bstr u.caption)), (.int .i64 u.os), (.int .i64 u.of), (.slice u.A u.al.length u.c)])), (2, (.string (bstr s)))]) (by kernel_rfl)
  refine then_normal ?_
  refine w_iff H rfl ?_
  refine wp_skip ?_
  refine then_normal ?_
  refine wp_seq ?_
  refine wp_seq ?_
  refine w_region ?_
  refine H.val 45 (.int .i64 180) (by kernel_rfl) (by kernel_rfl) ?_
  intro a H
  refine H.val 46 (.bool false) (by kernel_rfl) (by kernel_rfl) ?_
  intro a H
  refine wpList_nil ?_
  refine then_normal ?_
  refine w_iff H rfl ?_
  refine wp_skip ?_
  refine then_normal ?_
  refine wp_seq ?_
  refine w_region ?_
  refine H.val 61 (.string (bstr s)) (by kernel_rfl) (by kernel_rfl) ?_
  intro a H
  refine H.val 62 (.string (bstr s)) (by kernel_rfl) (by kernel_rfl) ?_
  intro a H
  refine H.val 63 (.int .i64 ((s.length : Nat) : Int)) (by kernel_rfl) (by kernel_rfl) ?_
  intro a H
  refine H.valE 64 (.int .i64 (if (2000 : Int) < ((s.length : Nat) : Int) then 2000 else ((s.length : Nat) : Int))) (.int .i64 ((min s.length 2000 : Nat) : Int)) (by kernel_rfl) (by kernel_rfl) ((congrArg (Value.int .i64) (by split <;> omega))) ?_
  intro a H
  refine H.valE 65 (.string (bstr (s.take (min s.length 2000)))) (.string (bstr (s.take 2000))) (by kernel_rfl) (ex_ssliceH (kk := .i64) (l := s) (j := ((min s.length 2000 : Nat) : Int)) (b := min s.length 2000) (by kernel_rfl) (by kernel_rfl) (by kernel_rfl) (by omega) (by omega)) ((congrArg (fun x => Value.string (bstr x)) (take_min _ _))) ?_
  intro a H
  refine H.val 2 (.string (bstr (s.take 2000))) (by kernel_rfl) (by kernel_rfl) ?_
  intro a H
  refine wpList_nil ?_
  have H := H.keep (L' := [(2, (.string (bstr (s.take 2000)))), (46, (.bool false)), (45, (.int .i64 180)), (44, (.bool false)), (10, (.int .i64 180)), (9, (.string (bstr ([])))), (21, (.agg #[(.int .i64 U.channel), (.int .i64 U.frame), (.int .i64 U.version), (.int .i64 U.item), (.int .i64 U.index), (.bool U.key), (.string (bstr U.data)), (.int .i64 U.regions), (.int .i64 U.gain), (.string (bstr U.caption)), (.int .i64 U.os), (.int .i64 U.of), (.slice Bu U.al.length cu)])), (20, (.agg #[(.int .i64 u.channel), (.int .i64 u.frame), (.int .i64 u.version), (.int .i64 u.item), (.int .i64 u.index), (.bool u.key), (.string (bstr u.data)), (.int .i64 u.regions), (.int .i64 u.gain), (.string (bstr u.caption)), (.int .i64 u.os), (.int .i64 u.of), (.slice u.A u.al.length u.c)])), (8, (.pointer (some ⟨b_5, 0, none⟩))), (19, (.agg #[(.int .i64 ((rateP c).1)), (.int .i64 ((rateP c).2))])), (18, (.int .i64 c)), (7, (.bool true)), (17, (.bool true)), (6, (.bool false)), (4, (.pointer (some ⟨b_1, 0, none⟩))), (0, (.int .i64 c)), (1, (.agg #[(.int .i64 u.channel), (.int .i64 u.frame), (.int .i64 u.version), (.int .i64 u.item), (.int .i64 u.index), (.bool u.key), (.string (bstr u.data)), (.int .i64 u.regions), (.int .i64 u.gain), (.string (bstr u.caption)), (.int .i64 u.os), (.int .i64 u.of), (.slice u.A u.al.length u.c)]))]) (by kernel_rfl)
  refine then_normal ?_
  refine wp_seq ?_
  refine w_region ?_
  refine H.val 67 (.agg #[(.int .i64 ((rateP c).1)), (.int .i64 ((rateP c).2))]) (by kernel_rfl) (ex_loadN (vs := [(.int .i64 ((rateP c).1)), (.int .i64 ((rateP c).2))]) (by kernel_rfl) (by kernel_rfl) (by kernel_rfl) rfl (HP.cells 0 rfl 0 2 (by kernel_rfl))) ?_
  intro a H
  refine H.val 68 (.string (bstr (s.take 2000))) (by kernel_rfl) (by kernel_rfl) ?_
  intro a H
  refine H.call 69 (by kernel_rfl) (Eq.trans (by kernel_rfl : _ = (callFunc 22 #[(.agg #[(.int .i64 ((rateP c).1)), (.int .i64 ((rateP c).2))]), (.string (bstr (s.take 2000)))]).run Tryd.prog w_11) (Tryd.call22 _ _)) ((by have hh := unpack_any (rateP c).1 (rateP c).2 (s.take 2000) w_11 (hL.below (HP.below (by kernel_rfl))) hs2; rw [hX] at hh; exact hh)) ?_
  rintro e w_12 ⟨By, cy, rfl, haly, hcay, hcby, hccy, hfry, hb⟩
  refine ⟨_, rfl, ?_⟩
  intro a H
  have HP := (HP.next hb).keepF ⟨rowFp X.al.length By, fun w => IsAlts w By X.al.length X.al⟩ haly (fun _ _ h hk hs => ⟨h.1, h.2.keep hk hs⟩) (fun j hj => row_sep HP haly.2 hfry hj)
  refine H.val 66 (.tuple #[(.agg #[(.int .i64 X.channel), (.int .i64 X.frame), (.int .i64 X.version), (.int .i64 X.item), (.int .i64 X.index), (.bool X.key), (.string (bstr X.data)), (.int .i64 X.regions), (.int .i64 X.gain), (.string (bstr X.caption)), (.int .i64 X.os), (.int .i64 X.of), (.slice By X.al.length cy)]), (.int .i64 0)]) (by kernel_rfl) (by kernel_rfl) ?_
  intro a H
  refine H.val 70 (.agg #[(.int .i64 X.channel), (.int .i64 X.frame), (.int .i64 X.version), (.int .i64 X.item), (.int .i64 X.index), (.bool X.key), (.string (bstr X.data)), (.int .i64 X.regions), (.int .i64 X.gain), (.string (bstr X.caption)), (.int .i64 X.os), (.int .i64 X.of), (.slice By X.al.length cy)]) (by kernel_rfl) (by kernel_rfl) ?_
  intro a H
  refine H.val 71 (.int .i64 0) (by kernel_rfl) (by kernel_rfl) ?_
  intro a H
  refine H.alloc HP 13 (fun b => (.pointer (some ⟨b, 0, none⟩))) 28 [(.int .i64 0), (.int .i64 0), (.int .i64 0), (.int .i64 0), (.int .i64 0), (.bool false), (.string (bstr ([]))), (.int .i64 0), (.int .i64 0), (.string (bstr ([]))), (.int .i64 0), (.int .i64 0), (.slice none 0 0)] (by kernel_rfl) (fun w => by kernel_rfl) ?_
  intro b_13 w_14 a H HP
  refine H.store HP 0 b_13 0 13 28 [(.int .i64 0), (.int .i64 0), (.int .i64 0), (.int .i64 0), (.int .i64 0), (.bool false), (.string (bstr ([]))), (.int .i64 0), (.int .i64 0), (.string (bstr ([]))), (.int .i64 0), (.int .i64 0), (.slice none 0 0)] true (.agg #[(.int .i64 X.channel), (.int .i64 X.frame), (.int .i64 X.version), (.int .i64 X.item), (.int .i64 X.index), (.bool X.key), (.string (bstr X.data)), (.int .i64 X.regions), (.int .i64 X.gain), (.string (bstr X.caption)), (.int .i64 X.os), (.int .i64 X.of), (.slice By X.al.length cy)]) [bx b_13 28 [(.int .i64 X.channel), (.int .i64 X.frame), (.int .i64 X.version), (.int .i64 X.item), (.int .i64 X.index), (.bool X.key), (.string (bstr X.data)), (.int .i64 X.regions), (.int .i64 X.gain), (.string (bstr X.caption)), (.int .i64 X.os), (.int .i64 X.of), (.slice By X.al.length cy)] true, bx b_5 23 [(.int .i64 ((rateP c).1)), (.int .i64 ((rateP c).2))] true, bx b_1 28 [(.int .i64 U.channel), (.int .i64 U.frame), (.int .i64 U.version), (.int .i64 U.item), (.int .i64 U.index), (.bool U.key), (.string (bstr U.data)), (.int .i64 U.regions), (.int .i64 U.gain), (.string (bstr U.caption)), (.int .i64 U.os), (.int .i64 U.of), (.slice Bu U.al.length cu)] true] (by kernel_rfl) (by kernel_rfl) (by kernel_rfl) rfl (by kernel_rfl) (by kernel_rfl) (by kernel_rfl) (by kernel_rfl) (by kernel_rfl) ?_
  intro w_15 a H HP
  refine H.val 14 (.int .i64 0) (by kernel_rfl) (by kernel_rfl) ?_
  intro a H
  refine wpList_nil ?_
  have H := H.keep (L' := [(14, (.int .i64 0)), (13, (.pointer (some ⟨b_13, 0, none⟩))), (2, (.string (bstr (s.take 2000)))), (46, (.bool false)), (45, (.int .i64 180)), (44, (.bool false)), (10, (.int .i64 180)), (9, (.string (bstr ([])))), (21, (.agg #[(.int .i64 U.channel), (.int .i64 U.frame), (.int .i64 U.version), (.int .i64 U.item), (.int .i64 U.index), (.bool U.key), (.string (bstr U.data)), (.int .i64 U.regions), (.int .i64 U.gain), (.string (bstr U.caption)), (.int .i64 U.os), (.int .i64 U.of), (.slice Bu U.al.length cu)])), (20, (.agg #[(.int .i64 u.channel), (.int .i64 u.frame), (.int .i64 u.version), (.int .i64 u.item), (.int .i64 u.index), (.bool u.key), (.string (bstr u.data)), (.int .i64 u.regions), (.int .i64 u.gain), (.string (bstr u.caption)), (.int .i64 u.os), (.int .i64 u.of), (.slice u.A u.al.length u.c)])), (8, (.pointer (some ⟨b_5, 0, none⟩))), (19, (.agg #[(.int .i64 ((rateP c).1)), (.int .i64 ((rateP c).2))])), (18, (.int .i64 c)), (7, (.bool true)), (17, (.bool true)), (6, (.bool false)), (4, (.pointer (some ⟨b_1, 0, none⟩))), (0, (.int .i64 c)), (1, (.agg #[(.int .i64 u.channel), (.int .i64 u.frame), (.int .i64 u.version), (.int .i64 u.item), (.int .i64 u.index), (.bool u.key), (.string (bstr u.data)), (.int .i64 u.regions), (.int .i64 u.gain), (.string (bstr u.caption)), (.int .i64 u.os), (.int .i64 u.of), (.slice u.A u.al.length u.c)]))]) (by kernel_rfl)
  refine then_normal ?_
  refine wp_seq ?_
  refine wp_seq ?_
  refine w_region ?_
  refine H.val 72 (.int .i64 0) (by kernel_rfl) (by kernel_rfl) ?_
  intro a H
  refine H.val 73 (.bool false) (by kernel_rfl) (by kernel_rfl) ?_
  intro a H
  refine wpList_nil ?_
  refine then_normal ?_
  refine w_iff H rfl ?_
  refine wp_skip ?_
  refine then_normal ?_
  refine wp_seq ?_
  refine w_region ?_
  refine H.val 85 (.agg #[(.int .i64 ((rateP c).1)), (.int .i64 ((rateP c).2))]) (by kernel_rfl) (ex_loadN (vs := [(.int .i64 ((rateP c).1)), (.int .i64 ((rateP c).2))]) (by kernel_rfl) (by kernel_rfl) (by kernel_rfl) rfl (HP.cells 1 rfl 0 2 (by kernel_rfl))) ?_
  intro a H
  refine H.val 86 (.agg #[(.int .i64 X.channel), (.int .i64 X.frame), (.int .i64 X.version), (.int .i64 X.item), (.int .i64 X.index), (.bool X.key), (.string (bstr X.data)), (.int .i64 X.regions), (.int .i64 X.gain), (.string (bstr X.caption)), (.int .i64 X.os), (.int .i64 X.of), (.slice By X.al.length cy)]) (by kernel_rfl) (ex_loadN (vs := [(.int .i64 X.channel), (.int .i64 X.frame), (.int .i64 X.version), (.int .i64 X.item), (.int .i64 X.index), (.bool X.key), (.string (bstr X.data)), (.int .i64 X.regions), (.int .i64 X.gain), (.string (bstr X.caption)), (.int .i64 X.os), (.int .i64 X.of), (.slice By X.al.length cy)]) (by kernel_rfl) (by kernel_rfl) (by kernel_rfl) rfl (HP.cells 0 rfl 0 13 (by kernel_rfl))) ?_
  intro a H
  refine H.call 87 (by kernel_rfl) (Eq.trans (by kernel_rfl : _ = (callFunc 16 #[(.agg #[(.int .i64 ((rateP c).1)), (.int .i64 ((rateP c).2))]), (.agg #[(.int .i64 X.channel), (.int .i64 X.frame), (.int .i64 X.version), (.int .i64 X.item), (.int .i64 X.index), (.bool X.key), (.string (bstr X.data)), (.int .i64 X.regions), (.int .i64 X.gain), (.string (bstr X.caption)), (.int .i64 X.os), (.int .i64 X.of), (.slice By X.al.length cy)])]).run Tryd.prog w_15) (Tryd.call16 _ _)) ((by have hh := pack_any (rateP c).1 (rateP c).2 ({ X with A := By, c := cy } : Un) w_15 (hL.below (HP.below (by kernel_rfl))) (HP.fact 0 rfl) (Nat.le_trans hcay hcby); rw [show packP (rateP c).1 (rateP c).2 ({ X with A := By, c := cy } : Un) = some (s.take 2000) from (show packP (rateP c).1 (rateP c).2 ({ X with A := By, c := cy } : Un) = packP (rateP c).1 (rateP c).2 X from rfl).trans (pack_unpack hX)] at hh; exact hh)) ?_
  rintro e w_16 ⟨rfl, hb⟩
  refine ⟨_, rfl, ?_⟩
  intro a H
  have HP := HP.next hb
  refine H.val 84 (.tuple #[(.string (bstr (s.take 2000))), (.int .i64 0)]) (by kernel_rfl) (by kernel_rfl) ?_
  intro a H
  refine H.val 88 (.string (bstr (s.take 2000))) (by kernel_rfl) (by kernel_rfl) ?_
  intro a H
  refine H.val 89 (.int .i64 0) (by kernel_rfl) (by kernel_rfl) ?_
  intro a H
  refine H.val 15 (.string (bstr (s.take 2000))) (by kernel_rfl) (by kernel_rfl) ?_
  intro a H
  refine H.val 16 (.int .i64 0) (by kernel_rfl) (by kernel_rfl) ?_
  intro a H
  refine wpList_nil ?_
  have H := H.keep (L' := [(16, (.int .i64 0)), (15, (.string (bstr (s.take 2000)))), (73, (.bool false)), (72, (.int .i64 0)), (14, (.int .i64 0)), (13, (.pointer (some ⟨b_13, 0, none⟩))), (2, (.string (bstr (s.take 2000)))), (46, (.bool false)), (45, (.int .i64 180)), (44, (.bool false)), (10, (.int .i64 180)), (9, (.string (bstr ([])))), (21, (.agg #[(.int .i64 U.channel), (.int .i64 U.frame), (.int .i64 U.version), (.int .i64 U.item), (.int .i64 U.index), (.bool U.key), (.string (bstr U.data)), (.int .i64 U.regions), (.int .i64 U.gain), (.string (bstr U.caption)), (.int .i64 U.os), (.int .i64 U.of), (.slice Bu U.al.length cu)])), (20, (.agg #[(.int .i64 u.channel), (.int .i64 u.frame), (.int .i64 u.version), (.int .i64 u.item), (.int .i64 u.index), (.bool u.key), (.string (bstr u.data)), (.int .i64 u.regions), (.int .i64 u.gain), (.string (bstr u.caption)), (.int .i64 u.os), (.int .i64 u.of), (.slice u.A u.al.length u.c)])), (8, (.pointer (some ⟨b_5, 0, none⟩))), (19, (.agg #[(.int .i64 ((rateP c).1)), (.int .i64 ((rateP c).2))])), (18, (.int .i64 c)), (7, (.bool true)), (17, (.bool true)), (6, (.bool false)), (4, (.pointer (some ⟨b_1, 0, none⟩))), (0, (.int .i64 c)), (1, (.agg #[(.int .i64 u.channel), (.int .i64 u.frame), (.int .i64 u.version), (.int .i64 u.item), (.int .i64 u.index), (.bool u.key), (.string (bstr u.data)), (.int .i64 u.regions), (.int .i64 u.gain), (.string (bstr u.caption)), (.int .i64 u.os), (.int .i64 u.of), (.slice u.A u.al.length u.c)]))]) (by kernel_rfl)
  refine then_normal ?_
  refine wp_seq ?_
  refine w_region ?_
  refine H.val 90 (.bool true) (by kernel_rfl) (by kernel_rfl) ?_
  intro a H
  refine H.val 91 (.bool true) (by kernel_rfl) (by kernel_rfl) ?_
  intro a H
  refine H.val 92 (.int .i64 0) (by kernel_rfl) (by kernel_rfl) ?_
  intro a H
  refine H.val 93 (.bool true) (by kernel_rfl) (by kernel_rfl) ?_
  intro a H
  refine H.val 94 (.bool true) (by kernel_rfl) (by kernel_rfl) ?_
  intro a H
  refine H.val 95 (.bool true) (by kernel_rfl) (by kernel_rfl) ?_
  intro a H
  refine H.val 96 (.string (bstr (s.take 2000))) (by kernel_rfl) (by kernel_rfl) ?_
  intro a H
  refine H.val 97 (.string (bstr (s.take 2000))) (by kernel_rfl) (by kernel_rfl) ?_
  intro a H
  refine H.valE 98 (.bool ((bstr (s.take 2000)).toList == (bstr (s.take 2000)).toList)) (.bool true) (by kernel_rfl) (by kernel_rfl) ((congrArg Value.bool (beq_self_eq_true _))) ?_
  intro a H
  refine H.val 99 (.bool true) (by kernel_rfl) (by kernel_rfl) ?_
  intro a H
  refine H.val 6 (.bool true) (by kernel_rfl) (by kernel_rfl) ?_
  intro a H
  refine wpList_nil ?_
  have H := H.keep (L' := [(6, (.bool true)), (16, (.int .i64 0)), (15, (.string (bstr (s.take 2000)))), (73, (.bool false)), (72, (.int .i64 0)), (14, (.int .i64 0)), (13, (.pointer (some ⟨b_13, 0, none⟩))), (2, (.string (bstr (s.take 2000)))), (46, (.bool false)), (45, (.int .i64 180)), (44, (.bool false)), (10, (.int .i64 180)), (9, (.string (bstr ([])))), (21, (.agg #[(.int .i64 U.channel), (.int .i64 U.frame), (.int .i64 U.version), (.int .i64 U.item), (.int .i64 U.index), (.bool U.key), (.string (bstr U.data)), (.int .i64 U.regions), (.int .i64 U.gain), (.string (bstr U.caption)), (.int .i64 U.os), (.int .i64 U.of), (.slice Bu U.al.length cu)])), (20, (.agg #[(.int .i64 u.channel), (.int .i64 u.frame), (.int .i64 u.version), (.int .i64 u.item), (.int .i64 u.index), (.bool u.key), (.string (bstr u.data)), (.int .i64 u.regions), (.int .i64 u.gain), (.string (bstr u.caption)), (.int .i64 u.os), (.int .i64 u.of), (.slice u.A u.al.length u.c)])), (8, (.pointer (some ⟨b_5, 0, none⟩))), (19, (.agg #[(.int .i64 ((rateP c).1)), (.int .i64 ((rateP c).2))])), (18, (.int .i64 c)), (7, (.bool true)), (17, (.bool true)), (4, (.pointer (some ⟨b_1, 0, none⟩))), (0, (.int .i64 c)), (1, (.agg #[(.int .i64 u.channel), (.int .i64 u.frame), (.int .i64 u.version), (.int .i64 u.item), (.int .i64 u.index), (.bool u.key), (.string (bstr u.data)), (.int .i64 u.regions), (.int .i64 u.gain), (.string (bstr u.caption)), (.int .i64 u.os), (.int .i64 u.of), (.slice u.A u.al.length u.c)]))]) (by kernel_rfl)
  refine then_normal ?_
  refine wp_ret ?_
  refine H.ret1 (fn := Tryd.f5) Tryd.results5 (RV.tmp_ (v := (.bool true)) (by kernel_rfl)) ?_
  exact ⟨rfl, (HP.below (by kernel_rfl))⟩
set_option maxRecDepth 100000 in
set_option maxHeartbeats 4000000 in
theorem rt_somenone (c : Int) (u U : Un) (s : List UInt8) (w : World) (hU : shortU u = U) (hL : Laid w) (hc : -9223372036854775808 ≤ c ∧ c ≤ 9223372036854775807) (huu : IsAlts w u.A u.al.length u.al) (hcu : u.al.length ≤ u.c) (hAu : u.A = none → u.c = 0) (lu : List UInt8) (hZu : ∀ B c', packP (rateP c).1 (rateP c).2 ({ U with A := B, c := c' } : Un) = some lu) (hX : unpackP (rateP c).1 (rateP c).2 (s.take 2000) = none) :
    Calls Tryd.prog 5 #[.int .i64 c, u.val, .string (bstr s)] w fun e w' => e = .returned (.bool true) ∧ Below w.heap.size w w' := by
  have HP := Hp.start w
  have hs2 : (s.take 2000).length ≤ 1000000 := by rw [List.length_take]; omega
  have hUn : unpackP (rateP c).1 (rateP c).2 lu = some (bareU U) := unpack_pack (hZu none 0)
  have hlu2 : lu.length ≤ 1000000 := by have := pack_len (hZu none 0); omega
  have hvu : validU U = true := (packP_some (hZu none 0)).2.1
  refine w_enter 100 [(0, (.int .i64 c)), (1, (.agg #[(.int .i64 u.channel), (.int .i64 u.frame), (.int .i64 u.version), (.int .i64 u.item), (.int .i64 u.index), (.bool u.key), (.string (bstr u.data)), (.int .i64 u.regions), (.int .i64 u.gain), (.string (bstr u.caption)), (.int .i64 u.os), (.int .i64 u.of), (.slice u.A u.al.length u.c)])), (2, (.string (bstr s)))] Tryd.func5 rfl Tryd.ntmps5 (by kernel_rfl) (by kernel_rfl) ?_
  intro a H
  refine wp_seq ?_
  refine w_region ?_
  refine H.alloc HP 4 (fun b => (.pointer (some ⟨b, 0, none⟩))) 28 [(.int .i64 u.channel), (.int .i64 u.frame), (.int .i64 u.version), (.int .i64 u.item), (.int .i64 u.index), (.bool u.key), (.string (bstr u.data)), (.int .i64 u.regions), (.int .i64 u.gain), (.string (bstr u.caption)), (.int .i64 u.os), (.int .i64 u.of), (.slice u.A u.al.length u.c)] (by kernel_rfl) (fun w => by kernel_rfl) ?_
  intro b_1 w_2 a H HP
  refine H.val 6 (.bool false) (by kernel_rfl) (by kernel_rfl) ?_
  intro a H
  refine wpList_nil ?_
  refine then_normal ?_
  refine wp_seq ?_
  refine w_region ?_
  refine H.call 17 (by kernel_rfl) (Eq.trans (by kernel_rfl : _ = (callFunc 13 #[]).run Tryd.prog w_2) (Tryd.call13 _ _)) (sane_any w_2 (hL.below (HP.below (by kernel_rfl)))) ?_
  rintro e w_3 ⟨rfl, hb⟩
  refine ⟨_, rfl, ?_⟩
  intro a H
  have HP := HP.next hb
  refine H.val 7 (.bool true) (by kernel_rfl) (by kernel_rfl) ?_
  intro a H
  refine wpList_nil ?_
  refine then_normal ?_
  refine wp_seq ?_
  refine w_region ?_
  refine H.val 18 (.int .i64 c) (by kernel_rfl) (by kernel_rfl) ?_
  intro a H
  refine H.call 19 (by kernel_rfl) (Eq.trans (by kernel_rfl : _ = (callFunc 14 #[(.int .i64 c)]).run Tryd.prog w_3) (Tryd.call14 _ _)) (rate_any c w_3 hc) ?_
  rintro e w_4 ⟨rfl, hb⟩
  refine ⟨_, rfl, ?_⟩
  intro a H
  have HP := HP.next hb
  refine H.alloc HP 8 (fun b => (.pointer (some ⟨b, 0, none⟩))) 23 [(.int .i64 0), (.int .i64 0)] (by kernel_rfl) (fun w => by kernel_rfl) ?_
  intro b_5 w_6 a H HP
  refine H.store HP 0 b_5 0 2 23 [(.int .i64 0), (.int .i64 0)] true (.agg #[(.int .i64 ((rateP c).1)), (.int .i64 ((rateP c).2))]) [bx b_5 23 [(.int .i64 ((rateP c).1)), (.int .i64 ((rateP c).2))] true, bx b_1 28 [(.int .i64 u.channel), (.int .i64 u.frame), (.int .i64 u.version), (.int .i64 u.item), (.int .i64 u.index), (.bool u.key), (.string (bstr u.data)), (.int .i64 u.regions), (.int .i64 u.gain), (.string (bstr u.caption)), (.int .i64 u.os), (.int .i64 u.of), (.slice u.A u.al.length u.c)] true] (by kernel_rfl) (by kernel_rfl) (by kernel_rfl) rfl (by kernel_rfl) (by kernel_rfl) (by kernel_rfl) (by kernel_rfl) (by kernel_rfl) ?_
  intro w_7 a H HP
  refine wpList_nil ?_
  refine then_normal ?_
  refine wp_seq ?_
  refine w_region ?_
  refine H.val 20 (.agg #[(.int .i64 u.channel), (.int .i64 u.frame), (.int .i64 u.version), (.int .i64 u.item), (.int .i64 u.index), (.bool u.key), (.string (bstr u.data)), (.int .i64 u.regions), (.int .i64 u.gain), (.string (bstr u.caption)), (.int .i64 u.os), (.int .i64 u.of), (.slice u.A u.al.length u.c)]) (by kernel_rfl) (ex_loadN (vs := [(.int .i64 u.channel), (.int .i64 u.frame), (.int .i64 u.version), (.int .i64 u.item), (.int .i64 u.index), (.bool u.key), (.string (bstr u.data)), (.int .i64 u.regions), (.int .i64 u.gain), (.string (bstr u.caption)), (.int .i64 u.os), (.int .i64 u.of), (.slice u.A u.al.length u.c)]) (by kernel_rfl) (by kernel_rfl) (by kernel_rfl) rfl (HP.cells 1 rfl 0 13 (by kernel_rfl))) ?_
  intro a H
  refine H.call 21 (by kernel_rfl) (Eq.trans (by kernel_rfl : _ = (callFunc 15 #[(.agg #[(.int .i64 u.channel), (.int .i64 u.frame), (.int .i64 u.version), (.int .i64 u.item), (.int .i64 u.index), (.bool u.key), (.string (bstr u.data)), (.int .i64 u.regions), (.int .i64 u.gain), (.string (bstr u.caption)), (.int .i64 u.os), (.int .i64 u.of), (.slice u.A u.al.length u.c)])]).run Tryd.prog w_7) (Tryd.call15 _ _)) (short_anyU hU (short_any u w_7 (huu.below (HP.below (by kernel_rfl))) hcu hAu)) ?_
  rintro e w_8 ⟨Bu, cu, rfl, halu, hcau, hcbu, hccu, hfru, hb⟩
  refine ⟨_, rfl, ?_⟩
  intro a H
  have HP := (HP.next hb).keepF ⟨rowFp U.al.length Bu, fun w => IsAlts w Bu U.al.length U.al⟩ halu (fun _ _ h hk hs => ⟨h.1, h.2.keep hk hs⟩) (fun j hj => row_sep HP halu.2 hfru hj)
  refine H.store HP 1 b_1 0 13 28 [(.int .i64 u.channel), (.int .i64 u.frame), (.int .i64 u.version), (.int .i64 u.item), (.int .i64 u.index), (.bool u.key), (.string (bstr u.data)), (.int .i64 u.regions), (.int .i64 u.gain), (.string (bstr u.caption)), (.int .i64 u.os), (.int .i64 u.of), (.slice u.A u.al.length u.c)] true (.agg #[(.int .i64 U.channel), (.int .i64 U.frame), (.int .i64 U.version), (.int .i64 U.item), (.int .i64 U.index), (.bool U.key), (.string (bstr U.data)), (.int .i64 U.regions), (.int .i64 U.gain), (.string (bstr U.caption)), (.int .i64 U.os), (.int .i64 U.of), (.slice Bu U.al.length cu)]) [bx b_5 23 [(.int .i64 ((rateP c).1)), (.int .i64 ((rateP c).2))] true, bx b_1 28 [(.int .i64 U.channel), (.int .i64 U.frame), (.int .i64 U.version), (.int .i64 U.item), (.int .i64 U.index), (.bool U.key), (.string (bstr U.data)), (.int .i64 U.regions), (.int .i64 U.gain), (.string (bstr U.caption)), (.int .i64 U.os), (.int .i64 U.of), (.slice Bu U.al.length cu)] true] (by kernel_rfl) (by kernel_rfl) (by kernel_rfl) rfl (by kernel_rfl) (by kernel_rfl) (by kernel_rfl) (by kernel_rfl) (by kernel_rfl) ?_
  intro w_9 a H HP
  refine wpList_nil ?_
  refine then_normal ?_
  refine wp_seq ?_
  refine w_region ?_
  refine H.val 23 (.agg #[(.int .i64 ((rateP c).1)), (.int .i64 ((rateP c).2))]) (by kernel_rfl) (ex_loadN (vs := [(.int .i64 ((rateP c).1)), (.int .i64 ((rateP c).2))]) (by kernel_rfl) (by kernel_rfl) (by kernel_rfl) rfl (HP.cells 0 rfl 0 2 (by kernel_rfl))) ?_
  intro a H
  refine H.val 24 (.agg #[(.int .i64 U.channel), (.int .i64 U.frame), (.int .i64 U.version), (.int .i64 U.item), (.int .i64 U.index), (.bool U.key), (.string (bstr U.data)), (.int .i64 U.regions), (.int .i64 U.gain), (.string (bstr U.caption)), (.int .i64 U.os), (.int .i64 U.of), (.slice Bu U.al.length cu)]) (by kernel_rfl) (ex_loadN (vs := [(.int .i64 U.channel), (.int .i64 U.frame), (.int .i64 U.version), (.int .i64 U.item), (.int .i64 U.index), (.bool U.key), (.string (bstr U.data)), (.int .i64 U.regions), (.int .i64 U.gain), (.string (bstr U.caption)), (.int .i64 U.os), (.int .i64 U.of), (.slice Bu U.al.length cu)]) (by kernel_rfl) (by kernel_rfl) (by kernel_rfl) rfl (HP.cells 1 rfl 0 13 (by kernel_rfl))) ?_
  intro a H
  refine H.call 25 (by kernel_rfl) (Eq.trans (by kernel_rfl : _ = (callFunc 16 #[(.agg #[(.int .i64 ((rateP c).1)), (.int .i64 ((rateP c).2))]), (.agg #[(.int .i64 U.channel), (.int .i64 U.frame), (.int .i64 U.version), (.int .i64 U.item), (.int .i64 U.index), (.bool U.key), (.string (bstr U.data)), (.int .i64 U.regions), (.int .i64 U.gain), (.string (bstr U.caption)), (.int .i64 U.os), (.int .i64 U.of), (.slice Bu U.al.length cu)])]).run Tryd.prog w_9) (Tryd.call16 _ _)) ((by have hh := pack_any ((rateP c).1) ((rateP c).2) (⟨U.channel, U.frame, U.version, U.item, U.index, U.key, U.data, U.regions, U.gain, U.caption, U.os, U.of, Bu, cu, U.al⟩ : Un) w_9 (hL.below (HP.below (by kernel_rfl))) (HP.fact 0 rfl) (Nat.le_trans hcau hcbu); rw [hZu Bu cu] at hh; exact hh)) ?_
  rintro e w_10 ⟨rfl, hb⟩
  refine ⟨_, rfl, ?_⟩
  intro a H
  have HP := HP.next hb
  refine H.val 22 (.tuple #[(.string (bstr lu)), (.int .i64 0)]) (by kernel_rfl) (by kernel_rfl) ?_
  intro a H
  refine H.val 26 (.string (bstr lu)) (by kernel_rfl) (by kernel_rfl) ?_
  intro a H
  refine H.val 27 (.int .i64 0) (by kernel_rfl) (by kernel_rfl) ?_
  intro a H
  refine H.val 9 (.string (bstr lu)) (by kernel_rfl) (by kernel_rfl) ?_
  intro a H
  refine H.val 10 (.int .i64 0) (by kernel_rfl) (by kernel_rfl) ?_
  intro a H
  refine wpList_nil ?_
  have H := H.keep (L' := [(10, (.int .i64 0)), (9, (.string (bstr lu))), (21, (.agg #[(.int .i64 U.channel), (.int .i64 U.frame), (.int .i64 U.version), (.int .i64 U.item), (.int .i64 U.index), (.bool U.key), (.string (bstr U.data)), (.int .i64 U.regions), (.int .i64 U.gain), (.string (bstr U.caption)), (.int .i64 U.os), (.int .i64 U.of), (.slice Bu U.al.length cu)])), (20, (.agg #[(.int .i64 u.channel), (.int .i64 u.frame), (.int .i64 u.version), (.int .i64 u.item), (.int .i64 u.index), (.bool u.key), (.string (bstr u.data)), (.int .i64 u.regions), (.int .i64 u.gain), (.string (bstr u.caption)), (.int .i64 u.os), (.int .i64 u.of), (.slice u.A u.al.length u.c)])), (8, (.pointer (some ⟨b_5, 0, none⟩))), (19, (.agg #[(.int .i64 ((rateP c).1)), (.int .i64 ((rateP c).2))])), (18, (.int .i64 c)), (7, (.bool true)), (17, (.bool true)), (6, (.bool false)), (4, (.pointer (some ⟨b_1, 0, none⟩))), (0, (.int .i64 c)), (1, (.agg #[(.int .i64 u.channel), (.int .i64 u.frame), (.int .i64 u.version), (.int .i64 u.item), (.int .i64 u.index), (.bool u.key), (.string (bstr u.data)), (.int .i64 u.regions), (.int .i64 u.gain), (.string (bstr u.caption)), (.int .i64 u.os), (.int .i64 u.of), (.slice u.A u.al.length u.c)])), (2, (.string (bstr s)))]) (by kernel_rfl)
  refine then_normal ?_
  refine wp_seq ?_
  refine wp_seq ?_
  refine w_region ?_
  refine H.val 28 (.int .i64 0) (by kernel_rfl) (by kernel_rfl) ?_
  intro a H
  refine H.val 29 (.bool true) (by kernel_rfl) (by kernel_rfl) ?_
  intro a H
  refine H.val 30 (.agg #[(.int .i64 U.channel), (.int .i64 U.frame), (.int .i64 U.version), (.int .i64 U.item), (.int .i64 U.index), (.bool U.key), (.string (bstr U.data)), (.int .i64 U.regions), (.int .i64 U.gain), (.string (bstr U.caption)), (.int .i64 U.os), (.int .i64 U.of), (.slice Bu U.al.length cu)]) (by kernel_rfl) (ex_loadN (vs := [(.int .i64 U.channel), (.int .i64 U.frame), (.int .i64 U.version), (.int .i64 U.item), (.int .i64 U.index), (.bool U.key), (.string (bstr U.data)), (.int .i64 U.regions), (.int .i64 U.gain), (.string (bstr U.caption)), (.int .i64 U.os), (.int .i64 U.of), (.slice Bu U.al.length cu)]) (by kernel_rfl) (by kernel_rfl) (by kernel_rfl) rfl (HP.cells 1 rfl 0 13 (by kernel_rfl))) ?_
  intro a H
  refine H.call 31 (by kernel_rfl) (Eq.trans (by kernel_rfl : _ = (callFunc 18 #[(.agg #[(.int .i64 U.channel), (.int .i64 U.frame), (.int .i64 U.version), (.int .i64 U.item), (.int .i64 U.index), (.bool U.key), (.string (bstr U.data)), (.int .i64 U.regions), (.int .i64 U.gain), (.string (bstr U.caption)), (.int .i64 U.os), (.int .i64 U.of), (.slice Bu U.al.length cu)])]).run Tryd.prog w_10) (Tryd.call18 _ _)) ((by have hh := uvalid_any ({ U with A := Bu, c := cu } : Un) w_10 (HP.fact 0 rfl) (Nat.le_trans hcau hcbu); rw [show validU ({ U with A := Bu, c := cu } : Un) = true from hvu] at hh; exact hh)) ?_
  rintro e w_11 ⟨rfl, hb⟩
  refine ⟨_, rfl, ?_⟩
  intro a H
  have HP := HP.next hb
  refine H.val 32 (.bool false) (by kernel_rfl) (by kernel_rfl) ?_
  intro a H
  refine H.val 33 (.bool false) (by kernel_rfl) (by kernel_rfl) ?_
  intro a H
  refine H.val 34 (.int .i64 0) (by kernel_rfl) (by kernel_rfl) ?_
  intro a H
  refine H.val 35 (.bool false) (by kernel_rfl) (by kernel_rfl) ?_
  intro a H
  refine H.val 36 (.bool false) (by kernel_rfl) (by kernel_rfl) ?_
  intro a H
  refine H.skip 37 (by kernel_rfl) ?_
  intro a H
  refine H.skip 38 (by kernel_rfl) ?_
  intro a H
  refine H.skip 39 (by kernel_rfl) ?_
  intro a H
  refine H.skip 40 (by kernel_rfl) ?_
  intro a H
  refine H.skip 41 (by kernel_rfl) ?_
  intro a H
  refine H.skip 42 (by kernel_rfl) ?_
  intro a H
  refine H.val 43 (.bool false) (by kernel_rfl) (by kernel_rfl) ?_
  intro a H
  refine H.val 44 (.bool false) (by kernel_rfl) (by kernel_rfl) ?_
  intro a H
  refine wpList_nil ?_
  have H := H.keep (L' := [(44, (.bool false)), (10, (.int .i64 0)), (9, (.string (bstr lu))), (21, (.agg #[(.int .i64 U.channel), (.int .i64 U.frame), (.int .i64 U.version), (.int .i64 U.item), (.int .i64 U.index), (.bool U.key), (.string (bstr U.data)), (.int .i64 U.regions), (.int .i64 U.gain), (.string (bstr U.caption)), (.int .i64 U.os), (.int .i64 U.of), (.slice Bu U.al.length cu)])), (20, (.agg #[(.int .i64 u.channel), (.int .i64 u.frame), (.int .i64 u.version), (.int .i64 u.item), (.int .i64 u.index), (.bool u.key), (.string (bstr u.data)), (.int .i64 u.regions), (.int .i64 u.gain), (.string (bstr u.caption)), (.int .i64 u.os), (.int .i64 u.of), (.slice u.A u.al.length u.c)])), (8, (.pointer (some ⟨b_5, 0, none⟩))), (19, (.agg #[(.int .i64 ((rateP c).1)), (.int .i64 ((rateP c).2))])), (18, (.int .i64 c)), (7, (.bool true)), (17, (.bool true)), (6, (.bool false)), (4, (.pointer (some ⟨b_1, 0, none⟩))), (0, (.int .i64 c)), (1, (.agg #[(.int .i64 u.channel), (.int .i64 u.frame), (.int .i64 u.version), (.int .i64 u.item), (.int .i64 u.index), (.bool u.key), (.string (bstr u.data)), (.int .i64 u.regions), (.int .i64 u.gain), (.string (bstr u.caption)), (.int .i64 u.os), (.int .i64 u.of), (.slice u.A u.al.length u.c)])), (2, (.string (bstr s)))]) (by kernel_rfl)
  refine then_normal ?_
  refine w_iff H rfl ?_
  refine wp_skip ?_
  refine then_normal ?_
  refine wp_seq ?_
  refine wp_seq ?_
  refine w_region ?_
  refine H.val 45 (.int .i64 0) (by kernel_rfl) (by kernel_rfl) ?_
  intro a H
  refine H.val 46 (.bool true) (by kernel_rfl) (by kernel_rfl) ?_
  intro a H
  refine wpList_nil ?_
  refine then_normal ?_
  refine w_ift H rfl ?_
  refine wp_seq ?_
  refine w_region ?_
  refine H.val 48 (.agg #[(.int .i64 ((rateP c).1)), (.int .i64 ((rateP c).2))]) (by kernel_rfl) (ex_loadN (vs := [(.int .i64 ((rateP c).1)), (.int .i64 ((rateP c).2))]) (by kernel_rfl) (by kernel_rfl) (by kernel_rfl) rfl (HP.cells 0 rfl 0 2 (by kernel_rfl))) ?_
  intro a H
  refine H.val 49 (.string (bstr lu)) (by kernel_rfl) (by kernel_rfl) ?_
  intro a H
  refine H.call 50 (by kernel_rfl) (Eq.trans (by kernel_rfl : _ = (callFunc 22 #[(.agg #[(.int .i64 ((rateP c).1)), (.int .i64 ((rateP c).2))]), (.string (bstr lu))]).run Tryd.prog w_11) (Tryd.call22 _ _)) ((by have hh := unpack_any (rateP c).1 (rateP c).2 lu w_11 (hL.below (HP.below (by kernel_rfl))) hlu2; rw [hUn] at hh; exact hh)) ?_
  rintro e w_12 ⟨Bx, cx, rfl, halx, hcax, hcbx, hccx, hfrx, hb⟩
  refine ⟨_, rfl, ?_⟩
  intro a H
  have HP := (HP.next hb).keepF ⟨rowFp U.al.length Bx, fun w => IsAlts w Bx U.al.length U.al⟩ halx (fun _ _ h hk hs => ⟨h.1, h.2.keep hk hs⟩) (fun j hj => row_sep HP halx.2 hfrx hj)
  refine H.val 47 (.tuple #[(.agg #[(.int .i64 U.channel), (.int .i64 U.frame), (.int .i64 U.version), (.int .i64 U.item), (.int .i64 U.index), (.bool U.key), (.string (bstr U.data)), (.int .i64 U.regions), (.int .i64 U.gain), (.string (bstr U.caption)), (.int .i64 U.os), (.int .i64 U.of), (.slice Bx U.al.length cx)]), (.int .i64 0)]) (by kernel_rfl) (by kernel_rfl) ?_
  intro a H
  refine H.val 51 (.agg #[(.int .i64 U.channel), (.int .i64 U.frame), (.int .i64 U.version), (.int .i64 U.item), (.int .i64 U.index), (.bool U.key), (.string (bstr U.data)), (.int .i64 U.regions), (.int .i64 U.gain), (.string (bstr U.caption)), (.int .i64 U.os), (.int .i64 U.of), (.slice Bx U.al.length cx)]) (by kernel_rfl) (by kernel_rfl) ?_
  intro a H
  refine H.val 52 (.int .i64 0) (by kernel_rfl) (by kernel_rfl) ?_
  intro a H
  refine H.alloc HP 11 (fun b => (.pointer (some ⟨b, 0, none⟩))) 28 [(.int .i64 0), (.int .i64 0), (.int .i64 0), (.int .i64 0), (.int .i64 0), (.bool false), (.string (bstr ([]))), (.int .i64 0), (.int .i64 0), (.string (bstr ([]))), (.int .i64 0), (.int .i64 0), (.slice none 0 0)] (by kernel_rfl) (fun w => by kernel_rfl) ?_
  intro b_13 w_14 a H HP
  refine H.store HP 0 b_13 0 13 28 [(.int .i64 0), (.int .i64 0), (.int .i64 0), (.int .i64 0), (.int .i64 0), (.bool false), (.string (bstr ([]))), (.int .i64 0), (.int .i64 0), (.string (bstr ([]))), (.int .i64 0), (.int .i64 0), (.slice none 0 0)] true (.agg #[(.int .i64 U.channel), (.int .i64 U.frame), (.int .i64 U.version), (.int .i64 U.item), (.int .i64 U.index), (.bool U.key), (.string (bstr U.data)), (.int .i64 U.regions), (.int .i64 U.gain), (.string (bstr U.caption)), (.int .i64 U.os), (.int .i64 U.of), (.slice Bx U.al.length cx)]) [bx b_13 28 [(.int .i64 U.channel), (.int .i64 U.frame), (.int .i64 U.version), (.int .i64 U.item), (.int .i64 U.index), (.bool U.key), (.string (bstr U.data)), (.int .i64 U.regions), (.int .i64 U.gain), (.string (bstr U.caption)), (.int .i64 U.os), (.int .i64 U.of), (.slice Bx U.al.length cx)] true, bx b_5 23 [(.int .i64 ((rateP c).1)), (.int .i64 ((rateP c).2))] true, bx b_1 28 [(.int .i64 U.channel), (.int .i64 U.frame), (.int .i64 U.version), (.int .i64 U.item), (.int .i64 U.index), (.bool U.key), (.string (bstr U.data)), (.int .i64 U.regions), (.int .i64 U.gain), (.string (bstr U.caption)), (.int .i64 U.os), (.int .i64 U.of), (.slice Bu U.al.length cu)] true] (by kernel_rfl) (by kernel_rfl) (by kernel_rfl) rfl (by kernel_rfl) (by kernel_rfl) (by kernel_rfl) (by kernel_rfl) (by kernel_rfl) ?_
  intro w_15 a H HP
  refine H.val 12 (.int .i64 0) (by kernel_rfl) (by kernel_rfl) ?_
  intro a H
  refine wpList_nil ?_
  have H := H.keep (L' := [(12, (.int .i64 0)), (11, (.pointer (some ⟨b_13, 0, none⟩))), (46, (.bool true)), (45, (.int .i64 0)), (44, (.bool false)), (10, (.int .i64 0)), (9, (.string (bstr lu))), (21, (.agg #[(.int .i64 U.channel), (.int .i64 U.frame), (.int .i64 U.version), (.int .i64 U.item), (.int .i64 U.index), (.bool U.key), (.string (bstr U.data)), (.int .i64 U.regions), (.int .i64 U.gain), (.string (bstr U.caption)), (.int .i64 U.os), (.int .i64 U.of), (.slice Bu U.al.length cu)])), (20, (.agg #[(.int .i64 u.channel), (.int .i64 u.frame), (.int .i64 u.version), (.int .i64 u.item), (.int .i64 u.index), (.bool u.key), (.string (bstr u.data)), (.int .i64 u.regions), (.int .i64 u.gain), (.string (bstr u.caption)), (.int .i64 u.os), (.int .i64 u.of), (.slice u.A u.al.length u.c)])), (8, (.pointer (some ⟨b_5, 0, none⟩))), (19, (.agg #[(.int .i64 ((rateP c).1)), (.int .i64 ((rateP c).2))])), (18, (.int .i64 c)), (7, (.bool true)), (17, (.bool true)), (6, (.bool false)), (4, (.pointer (some ⟨b_1, 0, none⟩))), (0, (.int .i64 c)), (1, (.agg #[(.int .i64 u.channel), (.int .i64 u.frame), (.int .i64 u.version), (.int .i64 u.item), (.int .i64 u.index), (.bool u.key), (.string (bstr u.data)), (.int .i64 u.regions), (.int .i64 u.gain), (.string (bstr u.caption)), (.int .i64 u.os), (.int .i64 u.of), (.slice u.A u.al.length u.c)])), (2, (.string (bstr s)))]) (by kernel_rfl)
  refine then_normal ?_
  refine wp_seq ?_
  refine w_region ?_
  refine H.val 53 (.int .i64 0) (by kernel_rfl) (by kernel_rfl) ?_
  intro a H
  refine H.val 54 (.bool false) (by kernel_rfl) (by kernel_rfl) ?_
  intro a H
  refine H.val 55 (.bool false) (by kernel_rfl) (by kernel_rfl) ?_
  intro a H
  refine H.val 56 (.agg #[(.int .i64 U.channel), (.int .i64 U.frame), (.int .i64 U.version), (.int .i64 U.item), (.int .i64 U.index), (.bool U.key), (.string (bstr U.data)), (.int .i64 U.regions), (.int .i64 U.gain), (.string (bstr U.caption)), (.int .i64 U.os), (.int .i64 U.of), (.slice Bu U.al.length cu)]) (by kernel_rfl) (ex_loadN (vs := [(.int .i64 U.channel), (.int .i64 U.frame), (.int .i64 U.version), (.int .i64 U.item), (.int .i64 U.index), (.bool U.key), (.string (bstr U.data)), (.int .i64 U.regions), (.int .i64 U.gain), (.string (bstr U.caption)), (.int .i64 U.os), (.int .i64 U.of), (.slice Bu U.al.length cu)]) (by kernel_rfl) (by kernel_rfl) (by kernel_rfl) rfl (HP.cells 2 rfl 0 13 (by kernel_rfl))) ?_
  intro a H
  refine H.val 57 (.agg #[(.int .i64 U.channel), (.int .i64 U.frame), (.int .i64 U.version), (.int .i64 U.item), (.int .i64 U.index), (.bool U.key), (.string (bstr U.data)), (.int .i64 U.regions), (.int .i64 U.gain), (.string (bstr U.caption)), (.int .i64 U.os), (.int .i64 U.of), (.slice Bx U.al.length cx)]) (by kernel_rfl) (ex_loadN (vs := [(.int .i64 U.channel), (.int .i64 U.frame), (.int .i64 U.version), (.int .i64 U.item), (.int .i64 U.index), (.bool U.key), (.string (bstr U.data)), (.int .i64 U.regions), (.int .i64 U.gain), (.string (bstr U.caption)), (.int .i64 U.os), (.int .i64 U.of), (.slice Bx U.al.length cx)]) (by kernel_rfl) (by kernel_rfl) (by kernel_rfl) rfl (HP.cells 0 rfl 0 13 (by kernel_rfl))) ?_
  intro a H
  refine H.call 58 (by kernel_rfl) (Eq.trans (by kernel_rfl : _ = (callFunc 20 #[(.agg #[(.int .i64 U.channel), (.int .i64 U.frame), (.int .i64 U.version), (.int .i64 U.item), (.int .i64 U.index), (.bool U.key), (.string (bstr U.data)), (.int .i64 U.regions), (.int .i64 U.gain), (.string (bstr U.caption)), (.int .i64 U.os), (.int .i64 U.of), (.slice Bu U.al.length cu)]), (.agg #[(.int .i64 U.channel), (.int .i64 U.frame), (.int .i64 U.version), (.int .i64 U.item), (.int .i64 U.index), (.bool U.key), (.string (bstr U.data)), (.int .i64 U.regions), (.int .i64 U.gain), (.string (bstr U.caption)), (.int .i64 U.os), (.int .i64 U.of), (.slice Bx U.al.length cx)])]).run Tryd.prog w_15) (Tryd.call20 _ _)) ((by have hh := usame_any ({ U with A := Bu, c := cu } : Un) ({ U with A := Bx, c := cx } : Un) w_15 (HP.fact 1 rfl) (HP.fact 0 rfl) (Nat.le_trans hcau hcbu); rw [(same_bare _ _).2 (show bareU ({ U with A := Bu, c := cu } : Un) = bareU ({ U with A := Bx, c := cx } : Un) from rfl)] at hh; exact hh)) ?_
  rintro e w_16 ⟨rfl, hb⟩
  refine ⟨_, rfl, ?_⟩
  intro a H
  have HP := HP.next hb
  refine H.val 59 (.bool false) (by kernel_rfl) (by kernel_rfl) ?_
  intro a H
  refine H.val 60 (.bool false) (by kernel_rfl) (by kernel_rfl) ?_
  intro a H
  refine wpList_nil ?_
  have H := H.keep (L' := [(60, (.bool false)), (12, (.int .i64 0)), (11, (.pointer (some ⟨b_13, 0, none⟩))), (46, (.bool true)), (45, (.int .i64 0)), (44, (.bool false)), (10, (.int .i64 0)), (9, (.string (bstr lu))), (21, (.agg #[(.int .i64 U.channel), (.int .i64 U.frame), (.int .i64 U.version), (.int .i64 U.item), (.int .i64 U.index), (.bool U.key), (.string (bstr U.data)), (.int .i64 U.regions), (.int .i64 U.gain), (.string (bstr U.caption)), (.int .i64 U.os), (.int .i64 U.of), (.slice Bu U.al.length cu)])), (20, (.agg #[(.int .i64 u.channel), (.int .i64 u.frame), (.int .i64 u.version), (.int .i64 u.item), (.int .i64 u.index), (.bool u.key), (.string (bstr u.data)), (.int .i64 u.regions), (.int .i64 u.gain), (.string (bstr u.caption)), (.int .i64 u.os), (.int .i64 u.of), (.slice u.A u.al.length u.c)])), (8, (.pointer (some ⟨b_5, 0, none⟩))), (19, (.agg #[(.int .i64 ((rateP c).1)), (.int .i64 ((rateP c).2))])), (18, (.int .i64 c)), (7, (.bool true)), (17, (.bool true)), (6, (.bool false)), (4, (.pointer (some ⟨b_1, 0, none⟩))), (0, (.int .i64 c)), (1, (.agg #[(.int .i64 u.channel), (.int .i64 u.frame), (.int .i64 u.version), (.int .i64 u.item), (.int .i64 u.index), (.bool u.key), (.string (bstr u.data)), (.int .i64 u.regions), (.int .i64 u.gain), (.string (bstr u.caption)), (.int .i64 u.os), (.int .i64 u.of), (.slice u.A u.al.length u.c)])), (2, (.string (bstr s)))]) (by kernel_rfl)
  refine then_normal ?_
  refine w_iff H rfl ?_
  refine wp_skip ?_
  refine then_normal ?_
  refine wp_seq ?_
  refine w_region ?_
  refine H.val 61 (.string (bstr s)) (by kernel_rfl) (by kernel_rfl) ?_
  intro a H
  refine H.val 62 (.string (bstr s)) (by kernel_rfl) (by kernel_rfl) ?_
  intro a H
  refine H.val 63 (.int .i64 ((s.length : Nat) : Int)) (by kernel_rfl) (by kernel_rfl) ?_
  intro a H
  refine H.valE 64 (.int .i64 (if (2000 : Int) < ((s.length : Nat) : Int) then 2000 else ((s.length : Nat) : Int))) (.int .i64 ((min s.length 2000 : Nat) : Int)) (by kernel_rfl) (by kernel_rfl) ((congrArg (Value.int .i64) (by split <;> omega))) ?_
  intro a H
  refine H.valE 65 (.string (bstr (s.take (min s.length 2000)))) (.string (bstr (s.take 2000))) (by kernel_rfl) (ex_ssliceH (kk := .i64) (l := s) (j := ((min s.length 2000 : Nat) : Int)) (b := min s.length 2000) (by kernel_rfl) (by kernel_rfl) (by kernel_rfl) (by omega) (by omega)) ((congrArg (fun x => Value.string (bstr x)) (take_min _ _))) ?_
  intro a H
  refine H.val 2 (.string (bstr (s.take 2000))) (by kernel_rfl) (by kernel_rfl) ?_
  intro a H
  refine wpList_nil ?_
  have H := H.keep (L' := [(2, (.string (bstr (s.take 2000)))), (60, (.bool false)), (12, (.int .i64 0)), (11, (.pointer (some ⟨b_13, 0, none⟩))), (46, (.bool true)), (45, (.int .i64 0)), (44, (.bool false)), (10, (.int .i64 0)), (9, (.string (bstr lu))), (21, (.agg #[(.int .i64 U.channel), (.int .i64 U.frame), (.int .i64 U.version), (.int .i64 U.item), (.int .i64 U.index), (.bool U.key), (.string (bstr U.data)), (.int .i64 U.regions), (.int .i64 U.gain), (.string (bstr U.caption)), (.int .i64 U.os), (.int .i64 U.of), (.slice Bu U.al.length cu)])), (20, (.agg #[(.int .i64 u.channel), (.int .i64 u.frame), (.int .i64 u.version), (.int .i64 u.item), (.int .i64 u.index), (.bool u.key), (.string (bstr u.data)), (.int .i64 u.regions), (.int .i64 u.gain), (.string (bstr u.caption)), (.int .i64 u.os), (.int .i64 u.of), (.slice u.A u.al.length u.c)])), (8, (.pointer (some ⟨b_5, 0, none⟩))), (19, (.agg #[(.int .i64 ((rateP c).1)), (.int .i64 ((rateP c).2))])), (18, (.int .i64 c)), (7, (.bool true)), (17, (.bool true)), (6, (.bool false)), (4, (.pointer (some ⟨b_1, 0, none⟩))), (0, (.int .i64 c)), (1, (.agg #[(.int .i64 u.channel), (.int .i64 u.frame), (.int .i64 u.version), (.int .i64 u.item), (.int .i64 u.index), (.bool u.key), (.string (bstr u.data)), (.int .i64 u.regions), (.int .i64 u.gain), (.string (bstr u.caption)), (.int .i64 u.os), (.int .i64 u.of), (.slice u.A u.al.length u.c)]))]) (by kernel_rfl)
  refine then_normal ?_
  refine wp_seq ?_
  refine w_region ?_
  refine H.val 67 (.agg #[(.int .i64 ((rateP c).1)), (.int .i64 ((rateP c).2))]) (by kernel_rfl) (ex_loadN (vs := [(.int .i64 ((rateP c).1)), (.int .i64 ((rateP c).2))]) (by kernel_rfl) (by kernel_rfl) (by kernel_rfl) rfl (HP.cells 1 rfl 0 2 (by kernel_rfl))) ?_
  intro a H
  refine H.val 68 (.string (bstr (s.take 2000))) (by kernel_rfl) (by kernel_rfl) ?_
  intro a H
  refine H.call 69 (by kernel_rfl) (Eq.trans (by kernel_rfl : _ = (callFunc 22 #[(.agg #[(.int .i64 ((rateP c).1)), (.int .i64 ((rateP c).2))]), (.string (bstr (s.take 2000)))]).run Tryd.prog w_16) (Tryd.call22 _ _)) ((by have hh := unpack_any (rateP c).1 (rateP c).2 (s.take 2000) w_16 (hL.below (HP.below (by kernel_rfl))) hs2; rw [hX] at hh; exact hh)) ?_
  rintro e w_17 ⟨rfl, hb⟩
  refine ⟨_, rfl, ?_⟩
  intro a H
  have HP := HP.next hb
  refine H.val 66 (.tuple #[(.agg #[(.int .i64 0), (.int .i64 0), (.int .i64 0), (.int .i64 0), (.int .i64 0), (.bool false), (.string (bstr ([]))), (.int .i64 0), (.int .i64 0), (.string (bstr ([]))), (.int .i64 0), (.int .i64 0), (.slice none 0 0)]), (.int .i64 180)]) (by kernel_rfl) (by kernel_rfl) ?_
  intro a H
  refine H.val 70 (.agg #[(.int .i64 0), (.int .i64 0), (.int .i64 0), (.int .i64 0), (.int .i64 0), (.bool false), (.string (bstr ([]))), (.int .i64 0), (.int .i64 0), (.string (bstr ([]))), (.int .i64 0), (.int .i64 0), (.slice none 0 0)]) (by kernel_rfl) (by kernel_rfl) ?_
  intro a H
  refine H.val 71 (.int .i64 180) (by kernel_rfl) (by kernel_rfl) ?_
  intro a H
  refine H.alloc HP 13 (fun b => (.pointer (some ⟨b, 0, none⟩))) 28 [(.int .i64 0), (.int .i64 0), (.int .i64 0), (.int .i64 0), (.int .i64 0), (.bool false), (.string (bstr ([]))), (.int .i64 0), (.int .i64 0), (.string (bstr ([]))), (.int .i64 0), (.int .i64 0), (.slice none 0 0)] (by kernel_rfl) (fun w => by kernel_rfl) ?_
  intro b_18 w_19 a H HP
  refine H.store HP 0 b_18 0 13 28 [(.int .i64 0), (.int .i64 0), (.int .i64 0), (.int .i64 0), (.int .i64 0), (.bool false), (.string (bstr ([]))), (.int .i64 0), (.int .i64 0), (.string (bstr ([]))), (.int .i64 0), (.int .i64 0), (.slice none 0 0)] true (.agg #[(.int .i64 0), (.int .i64 0), (.int .i64 0), (.int .i64 0), (.int .i64 0), (.bool false), (.string (bstr ([]))), (.int .i64 0), (.int .i64 0), (.string (bstr ([]))), (.int .i64 0), (.int .i64 0), (.slice none 0 0)]) [bx b_18 28 [(.int .i64 0), (.int .i64 0), (.int .i64 0), (.int .i64 0), (.int .i64 0), (.bool false), (.string (bstr ([]))), (.int .i64 0), (.int .i64 0), (.string (bstr ([]))), (.int .i64 0), (.int .i64 0), (.slice none 0 0)] true, bx b_13 28 [(.int .i64 U.channel), (.int .i64 U.frame), (.int .i64 U.version), (.int .i64 U.item), (.int .i64 U.index), (.bool U.key), (.string (bstr U.data)), (.int .i64 U.regions), (.int .i64 U.gain), (.string (bstr U.caption)), (.int .i64 U.os), (.int .i64 U.of), (.slice Bx U.al.length cx)] true, bx b_5 23 [(.int .i64 ((rateP c).1)), (.int .i64 ((rateP c).2))] true, bx b_1 28 [(.int .i64 U.channel), (.int .i64 U.frame), (.int .i64 U.version), (.int .i64 U.item), (.int .i64 U.index), (.bool U.key), (.string (bstr U.data)), (.int .i64 U.regions), (.int .i64 U.gain), (.string (bstr U.caption)), (.int .i64 U.os), (.int .i64 U.of), (.slice Bu U.al.length cu)] true] (by kernel_rfl) (by kernel_rfl) (by kernel_rfl) rfl (by kernel_rfl) (by kernel_rfl) (by kernel_rfl) (by kernel_rfl) (by kernel_rfl) ?_
  intro w_20 a H HP
  refine H.val 14 (.int .i64 180) (by kernel_rfl) (by kernel_rfl) ?_
  intro a H
  refine wpList_nil ?_
  have H := H.keep (L' := [(14, (.int .i64 180)), (13, (.pointer (some ⟨b_18, 0, none⟩))), (2, (.string (bstr (s.take 2000)))), (60, (.bool false)), (12, (.int .i64 0)), (11, (.pointer (some ⟨b_13, 0, none⟩))), (46, (.bool true)), (45, (.int .i64 0)), (44, (.bool false)), (10, (.int .i64 0)), (9, (.string (bstr lu))), (21, (.agg #[(.int .i64 U.channel), (.int .i64 U.frame), (.int .i64 U.version), (.int .i64 U.item), (.int .i64 U.index), (.bool U.key), (.string (bstr U.data)), (.int .i64 U.regions), (.int .i64 U.gain), (.string (bstr U.caption)), (.int .i64 U.os), (.int .i64 U.of), (.slice Bu U.al.length cu)])), (20, (.agg #[(.int .i64 u.channel), (.int .i64 u.frame), (.int .i64 u.version), (.int .i64 u.item), (.int .i64 u.index), (.bool u.key), (.string (bstr u.data)), (.int .i64 u.regions), (.int .i64 u.gain), (.string (bstr u.caption)), (.int .i64 u.os), (.int .i64 u.of), (.slice u.A u.al.length u.c)])), (8, (.pointer (some ⟨b_5, 0, none⟩))), (19, (.agg #[(.int .i64 ((rateP c).1)), (.int .i64 ((rateP c).2))])), (18, (.int .i64 c)), (7, (.bool true)), (17, (.bool true)), (6, (.bool false)), (4, (.pointer (some ⟨b_1, 0, none⟩))), (0, (.int .i64 c)), (1, (.agg #[(.int .i64 u.channel), (.int .i64 u.frame), (.int .i64 u.version), (.int .i64 u.item), (.int .i64 u.index), (.bool u.key), (.string (bstr u.data)), (.int .i64 u.regions), (.int .i64 u.gain), (.string (bstr u.caption)), (.int .i64 u.os), (.int .i64 u.of), (.slice u.A u.al.length u.c)]))]) (by kernel_rfl)
  refine then_normal ?_
  refine wp_seq ?_
  refine wp_seq ?_
  refine w_region ?_
  refine H.val 72 (.int .i64 180) (by kernel_rfl) (by kernel_rfl) ?_
  intro a H
  refine H.val 73 (.bool true) (by kernel_rfl) (by kernel_rfl) ?_
  intro a H
  refine wpList_nil ?_
  refine then_normal ?_
  refine w_ift H rfl ?_
  refine wp_seq ?_
  refine w_region ?_
  refine H.val 74 (.bool true) (by kernel_rfl) (by kernel_rfl) ?_
  intro a H
  refine H.val 75 (.bool true) (by kernel_rfl) (by kernel_rfl) ?_
  intro a H
  refine H.val 76 (.int .i64 180) (by kernel_rfl) (by kernel_rfl) ?_
  intro a H
  refine H.val 77 (.bool true) (by kernel_rfl) (by kernel_rfl) ?_
  intro a H
  refine H.val 78 (.bool true) (by kernel_rfl) (by kernel_rfl) ?_
  intro a H
  refine H.val 79 (.bool true) (by kernel_rfl) (by kernel_rfl) ?_
  intro a H
  refine H.val 80 (.agg #[(.int .i64 0), (.int .i64 0), (.int .i64 0), (.int .i64 0), (.int .i64 0), (.bool false), (.string (bstr ([]))), (.int .i64 0), (.int .i64 0), (.string (bstr ([]))), (.int .i64 0), (.int .i64 0), (.slice none 0 0)]) (by kernel_rfl) (ex_loadN (vs := [(.int .i64 0), (.int .i64 0), (.int .i64 0), (.int .i64 0), (.int .i64 0), (.bool false), (.string (bstr ([]))), (.int .i64 0), (.int .i64 0), (.string (bstr ([]))), (.int .i64 0), (.int .i64 0), (.slice none 0 0)]) (by kernel_rfl) (by kernel_rfl) (by kernel_rfl) rfl (HP.cells 0 rfl 0 13 (by kernel_rfl))) ?_
  intro a H
  refine H.val 81 (.agg #[(.int .i64 0), (.int .i64 0), (.int .i64 0), (.int .i64 0), (.int .i64 0), (.bool false), (.string (bstr ([]))), (.int .i64 0), (.int .i64 0), (.string (bstr ([]))), (.int .i64 0), (.int .i64 0), (.slice none 0 0)]) (by kernel_rfl) (by kernel_rfl) ?_
  intro a H
  refine H.call 82 (by kernel_rfl) (Eq.trans (by kernel_rfl : _ = (callFunc 20 #[(.agg #[(.int .i64 0), (.int .i64 0), (.int .i64 0), (.int .i64 0), (.int .i64 0), (.bool false), (.string (bstr ([]))), (.int .i64 0), (.int .i64 0), (.string (bstr ([]))), (.int .i64 0), (.int .i64 0), (.slice none 0 0)]), (.agg #[(.int .i64 0), (.int .i64 0), (.int .i64 0), (.int .i64 0), (.int .i64 0), (.bool false), (.string (bstr ([]))), (.int .i64 0), (.int .i64 0), (.string (bstr ([]))), (.int .i64 0), (.int .i64 0), (.slice none 0 0)])]).run Tryd.prog w_20) (Tryd.call20 _ _)) ((by have hh := usame_any zeroU zeroU w_20 (IsAlts.nil _ _) (IsAlts.nil _ _) (Nat.zero_le _); rw [show sameU zeroU zeroU = true from by kernel_rfl] at hh; exact hh)) ?_
  rintro e w_21 ⟨rfl, hb⟩
  refine ⟨_, rfl, ?_⟩
  intro a H
  have HP := HP.next hb
  refine H.val 83 (.bool true) (by kernel_rfl) (by kernel_rfl) ?_
  intro a H
  refine H.val 6 (.bool true) (by kernel_rfl) (by kernel_rfl) ?_
  intro a H
  refine wpList_nil ?_
  have H := H.keep (L' := [(6, (.bool true)), (73, (.bool true)), (72, (.int .i64 180)), (14, (.int .i64 180)), (13, (.pointer (some ⟨b_18, 0, none⟩))), (2, (.string (bstr (s.take 2000)))), (60, (.bool false)), (12, (.int .i64 0)), (11, (.pointer (some ⟨b_13, 0, none⟩))), (46, (.bool true)), (45, (.int .i64 0)), (44, (.bool false)), (10, (.int .i64 0)), (9, (.string (bstr lu))), (21, (.agg #[(.int .i64 U.channel), (.int .i64 U.frame), (.int .i64 U.version), (.int .i64 U.item), (.int .i64 U.index), (.bool U.key), (.string (bstr U.data)), (.int .i64 U.regions), (.int .i64 U.gain), (.string (bstr U.caption)), (.int .i64 U.os), (.int .i64 U.of), (.slice Bu U.al.length cu)])), (20, (.agg #[(.int .i64 u.channel), (.int .i64 u.frame), (.int .i64 u.version), (.int .i64 u.item), (.int .i64 u.index), (.bool u.key), (.string (bstr u.data)), (.int .i64 u.regions), (.int .i64 u.gain), (.string (bstr u.caption)), (.int .i64 u.os), (.int .i64 u.of), (.slice u.A u.al.length u.c)])), (8, (.pointer (some ⟨b_5, 0, none⟩))), (19, (.agg #[(.int .i64 ((rateP c).1)), (.int .i64 ((rateP c).2))])), (18, (.int .i64 c)), (7, (.bool true)), (17, (.bool true)), (4, (.pointer (some ⟨b_1, 0, none⟩))), (0, (.int .i64 c)), (1, (.agg #[(.int .i64 u.channel), (.int .i64 u.frame), (.int .i64 u.version), (.int .i64 u.item), (.int .i64 u.index), (.bool u.key), (.string (bstr u.data)), (.int .i64 u.regions), (.int .i64 u.gain), (.string (bstr u.caption)), (.int .i64 u.os), (.int .i64 u.of), (.slice u.A u.al.length u.c)]))]) (by kernel_rfl)
  refine then_normal ?_
  refine wp_ret ?_
  refine then_ret ?_
  refine H.ret1 (fn := Tryd.f5) Tryd.results5 (RV.tmp_ (v := (.bool true)) (by kernel_rfl)) ?_
  exact ⟨rfl, (HP.below (by kernel_rfl))⟩
set_option maxRecDepth 100000 in
set_option maxHeartbeats 4000000 in
theorem rt_somesome (c : Int) (u U : Un) (s : List UInt8) (w : World) (hU : shortU u = U) (hL : Laid w) (hc : -9223372036854775808 ≤ c ∧ c ≤ 9223372036854775807) (huu : IsAlts w u.A u.al.length u.al) (hcu : u.al.length ≤ u.c) (hAu : u.A = none → u.c = 0) (lu : List UInt8) (X : Un) (hZu : ∀ B c', packP (rateP c).1 (rateP c).2 ({ U with A := B, c := c' } : Un) = some lu) (hX : unpackP (rateP c).1 (rateP c).2 (s.take 2000) = some X) :
    Calls Tryd.prog 5 #[.int .i64 c, u.val, .string (bstr s)] w fun e w' => e = .returned (.bool true) ∧ Below w.heap.size w w' := by
  have HP := Hp.start w
  have hs2 : (s.take 2000).length ≤ 1000000 := by rw [List.length_take]; omega
  have hUn : unpackP (rateP c).1 (rateP c).2 lu = some (bareU U) := unpack_pack (hZu none 0)
  have hlu2 : lu.length ≤ 1000000 := by have := pack_len (hZu none 0); omega
  have hvu : validU U = true := (packP_some (hZu none 0)).2.1
  refine w_enter 100 [(0, (.int .i64 c)), (1, (.agg #[(.int .i64 u.channel), (.int .i64 u.frame), (.int .i64 u.version), (.int .i64 u.item), (.int .i64 u.index), (.bool u.key), (.string (bstr u.data)), (.int .i64 u.regions), (.int .i64 u.gain), (.string (bstr u.caption)), (.int .i64 u.os), (.int .i64 u.of), (.slice u.A u.al.length u.c)])), (2, (.string (bstr s)))] Tryd.func5 rfl Tryd.ntmps5 (by kernel_rfl) (by kernel_rfl) ?_
  intro a H
  refine wp_seq ?_
  refine w_region ?_
  refine H.alloc HP 4 (fun b => (.pointer (some ⟨b, 0, none⟩))) 28 [(.int .i64 u.channel), (.int .i64 u.frame), (.int .i64 u.version), (.int .i64 u.item), (.int .i64 u.index), (.bool u.key), (.string (bstr u.data)), (.int .i64 u.regions), (.int .i64 u.gain), (.string (bstr u.caption)), (.int .i64 u.os), (.int .i64 u.of), (.slice u.A u.al.length u.c)] (by kernel_rfl) (fun w => by kernel_rfl) ?_
  intro b_1 w_2 a H HP
  refine H.val 6 (.bool false) (by kernel_rfl) (by kernel_rfl) ?_
  intro a H
  refine wpList_nil ?_
  refine then_normal ?_
  refine wp_seq ?_
  refine w_region ?_
  refine H.call 17 (by kernel_rfl) (Eq.trans (by kernel_rfl : _ = (callFunc 13 #[]).run Tryd.prog w_2) (Tryd.call13 _ _)) (sane_any w_2 (hL.below (HP.below (by kernel_rfl)))) ?_
  rintro e w_3 ⟨rfl, hb⟩
  refine ⟨_, rfl, ?_⟩
  intro a H
  have HP := HP.next hb
  refine H.val 7 (.bool true) (by kernel_rfl) (by kernel_rfl) ?_
  intro a H
  refine wpList_nil ?_
  refine then_normal ?_
  refine wp_seq ?_
  refine w_region ?_
  refine H.val 18 (.int .i64 c) (by kernel_rfl) (by kernel_rfl) ?_
  intro a H
  refine H.call 19 (by kernel_rfl) (Eq.trans (by kernel_rfl : _ = (callFunc 14 #[(.int .i64 c)]).run Tryd.prog w_3) (Tryd.call14 _ _)) (rate_any c w_3 hc) ?_
  rintro e w_4 ⟨rfl, hb⟩
  refine ⟨_, rfl, ?_⟩
  intro a H
  have HP := HP.next hb
  refine H.alloc HP 8 (fun b => (.pointer (some ⟨b, 0, none⟩))) 23 [(.int .i64 0), (.int .i64 0)] (by kernel_rfl) (fun w => by kernel_rfl) ?_
  intro b_5 w_6 a H HP
  refine H.store HP 0 b_5 0 2 23 [(.int .i64 0), (.int .i64 0)] true (.agg #[(.int .i64 ((rateP c).1)), (.int .i64 ((rateP c).2))]) [bx b_5 23 [(.int .i64 ((rateP c).1)), (.int .i64 ((rateP c).2))] true, bx b_1 28 [(.int .i64 u.channel), (.int .i64 u.frame), (.int .i64 u.version), (.int .i64 u.item), (.int .i64 u.index), (.bool u.key), (.string (bstr u.data)), (.int .i64 u.regions), (.int .i64 u.gain), (.string (bstr u.caption)), (.int .i64 u.os), (.int .i64 u.of), (.slice u.A u.al.length u.c)] true] (by kernel_rfl) (by kernel_rfl) (by kernel_rfl) rfl (by kernel_rfl) (by kernel_rfl) (by kernel_rfl) (by kernel_rfl) (by kernel_rfl) ?_
  intro w_7 a H HP
  refine wpList_nil ?_
  refine then_normal ?_
  refine wp_seq ?_
  refine w_region ?_
  refine H.val 20 (.agg #[(.int .i64 u.channel), (.int .i64 u.frame), (.int .i64 u.version), (.int .i64 u.item), (.int .i64 u.index), (.bool u.key), (.string (bstr u.data)), (.int .i64 u.regions), (.int .i64 u.gain), (.string (bstr u.caption)), (.int .i64 u.os), (.int .i64 u.of), (.slice u.A u.al.length u.c)]) (by kernel_rfl) (ex_loadN (vs := [(.int .i64 u.channel), (.int .i64 u.frame), (.int .i64 u.version), (.int .i64 u.item), (.int .i64 u.index), (.bool u.key), (.string (bstr u.data)), (.int .i64 u.regions), (.int .i64 u.gain), (.string (bstr u.caption)), (.int .i64 u.os), (.int .i64 u.of), (.slice u.A u.al.length u.c)]) (by kernel_rfl) (by kernel_rfl) (by kernel_rfl) rfl (HP.cells 1 rfl 0 13 (by kernel_rfl))) ?_
  intro a H
  refine H.call 21 (by kernel_rfl) (Eq.trans (by kernel_rfl : _ = (callFunc 15 #[(.agg #[(.int .i64 u.channel), (.int .i64 u.frame), (.int .i64 u.version), (.int .i64 u.item), (.int .i64 u.index), (.bool u.key), (.string (bstr u.data)), (.int .i64 u.regions), (.int .i64 u.gain), (.string (bstr u.caption)), (.int .i64 u.os), (.int .i64 u.of), (.slice u.A u.al.length u.c)])]).run Tryd.prog w_7) (Tryd.call15 _ _)) (short_anyU hU (short_any u w_7 (huu.below (HP.below (by kernel_rfl))) hcu hAu)) ?_
  rintro e w_8 ⟨Bu, cu, rfl, halu, hcau, hcbu, hccu, hfru, hb⟩
  refine ⟨_, rfl, ?_⟩
  intro a H
  have HP := (HP.next hb).keepF ⟨rowFp U.al.length Bu, fun w => IsAlts w Bu U.al.length U.al⟩ halu (fun _ _ h hk hs => ⟨h.1, h.2.keep hk hs⟩) (fun j hj => row_sep HP halu.2 hfru hj)
  refine H.store HP 1 b_1 0 13 28 [(.int .i64 u.channel), (.int .i64 u.frame), (.int .i64 u.version), (.int .i64 u.item), (.int .i64 u.index), (.bool u.key), (.string (bstr u.data)), (.int .i64 u.regions), (.int .i64 u.gain), (.string (bstr u.caption)), (.int .i64 u.os), (.int .i64 u.of), (.slice u.A u.al.length u.c)] true (.agg #[(.int .i64 U.channel), (.int .i64 U.frame), (.int .i64 U.version), (.int .i64 U.item), (.int .i64 U.index), (.bool U.key), (.string (bstr U.data)), (.int .i64 U.regions), (.int .i64 U.gain), (.string (bstr U.caption)), (.int .i64 U.os), (.int .i64 U.of), (.slice Bu U.al.length cu)]) [bx b_5 23 [(.int .i64 ((rateP c).1)), (.int .i64 ((rateP c).2))] true, bx b_1 28 [(.int .i64 U.channel), (.int .i64 U.frame), (.int .i64 U.version), (.int .i64 U.item), (.int .i64 U.index), (.bool U.key), (.string (bstr U.data)), (.int .i64 U.regions), (.int .i64 U.gain), (.string (bstr U.caption)), (.int .i64 U.os), (.int .i64 U.of), (.slice Bu U.al.length cu)] true] (by kernel_rfl) (by kernel_rfl) (by kernel_rfl) rfl (by kernel_rfl) (by kernel_rfl) (by kernel_rfl) (by kernel_rfl) (by kernel_rfl) ?_
  intro w_9 a H HP
  refine wpList_nil ?_
  refine then_normal ?_
  refine wp_seq ?_
  refine w_region ?_
  refine H.val 23 (.agg #[(.int .i64 ((rateP c).1)), (.int .i64 ((rateP c).2))]) (by kernel_rfl) (ex_loadN (vs := [(.int .i64 ((rateP c).1)), (.int .i64 ((rateP c).2))]) (by kernel_rfl) (by kernel_rfl) (by kernel_rfl) rfl (HP.cells 0 rfl 0 2 (by kernel_rfl))) ?_
  intro a H
  refine H.val 24 (.agg #[(.int .i64 U.channel), (.int .i64 U.frame), (.int .i64 U.version), (.int .i64 U.item), (.int .i64 U.index), (.bool U.key), (.string (bstr U.data)), (.int .i64 U.regions), (.int .i64 U.gain), (.string (bstr U.caption)), (.int .i64 U.os), (.int .i64 U.of), (.slice Bu U.al.length cu)]) (by kernel_rfl) (ex_loadN (vs := [(.int .i64 U.channel), (.int .i64 U.frame), (.int .i64 U.version), (.int .i64 U.item), (.int .i64 U.index), (.bool U.key), (.string (bstr U.data)), (.int .i64 U.regions), (.int .i64 U.gain), (.string (bstr U.caption)), (.int .i64 U.os), (.int .i64 U.of), (.slice Bu U.al.length cu)]) (by kernel_rfl) (by kernel_rfl) (by kernel_rfl) rfl (HP.cells 1 rfl 0 13 (by kernel_rfl))) ?_
  intro a H
  refine H.call 25 (by kernel_rfl) (Eq.trans (by kernel_rfl : _ = (callFunc 16 #[(.agg #[(.int .i64 ((rateP c).1)), (.int .i64 ((rateP c).2))]), (.agg #[(.int .i64 U.channel), (.int .i64 U.frame), (.int .i64 U.version), (.int .i64 U.item), (.int .i64 U.index), (.bool U.key), (.string (bstr U.data)), (.int .i64 U.regions), (.int .i64 U.gain), (.string (bstr U.caption)), (.int .i64 U.os), (.int .i64 U.of), (.slice Bu U.al.length cu)])]).run Tryd.prog w_9) (Tryd.call16 _ _)) ((by have hh := pack_any ((rateP c).1) ((rateP c).2) (⟨U.channel, U.frame, U.version, U.item, U.index, U.key, U.data, U.regions, U.gain, U.caption, U.os, U.of, Bu, cu, U.al⟩ : Un) w_9 (hL.below (HP.below (by kernel_rfl))) (HP.fact 0 rfl) (Nat.le_trans hcau hcbu); rw [hZu Bu cu] at hh; exact hh)) ?_
  rintro e w_10 ⟨rfl, hb⟩
  refine ⟨_, rfl, ?_⟩
  intro a H
  have HP := HP.next hb
  refine H.val 22 (.tuple #[(.string (bstr lu)), (.int .i64 0)]) (by kernel_rfl) (by kernel_rfl) ?_
  intro a H
  refine H.val 26 (.string (bstr lu)) (by kernel_rfl) (by kernel_rfl) ?_
  intro a H
  refine H.val 27 (.int .i64 0) (by kernel_rfl) (by kernel_rfl) ?_
  intro a H
  refine H.val 9 (.string (bstr lu)) (by kernel_rfl) (by kernel_rfl) ?_
  intro a H
  refine H.val 10 (.int .i64 0) (by kernel_rfl) (by kernel_rfl) ?_
  intro a H
  refine wpList_nil ?_
  have H := H.keep (L' := [(10, (.int .i64 0)), (9, (.string (bstr lu))), (21, (.agg #[(.int .i64 U.channel), (.int .i64 U.frame), (.int .i64 U.version), (.int .i64 U.item), (.int .i64 U.index), (.bool U.key), (.string (bstr U.data)), (.int .i64 U.regions), (.int .i64 U.gain), (.string (bstr U.caption)), (.int .i64 U.os), (.int .i64 U.of), (.slice Bu U.al.length cu)])), (20, (.agg #[(.int .i64 u.channel), (.int .i64 u.frame), (.int .i64 u.version), (.int .i64 u.item), (.int .i64 u.index), (.bool u.key), (.string (bstr u.data)), (.int .i64 u.regions), (.int .i64 u.gain), (.string (bstr u.caption)), (.int .i64 u.os), (.int .i64 u.of), (.slice u.A u.al.length u.c)])), (8, (.pointer (some ⟨b_5, 0, none⟩))), (19, (.agg #[(.int .i64 ((rateP c).1)), (.int .i64 ((rateP c).2))])), (18, (.int .i64 c)), (7, (.bool true)), (17, (.bool true)), (6, (.bool false)), (4, (.pointer (some ⟨b_1, 0, none⟩))), (0, (.int .i64 c)), (1, (.agg #[(.int .i64 u.channel), (.int .i64 u.frame), (.int .i64 u.version), (.int .i64 u.item), (.int .i64 u.index), (.bool u.key), (.string (bstr u.data)), (.int .i64 u.regions), (.int .i64 u.gain), (.string (bstr u.caption)), (.int .i64 u.os), (.int .i64 u.of), (.slice u.A u.al.length u.c)])), (2, (.string (bstr s)))]) (by kernel_rfl)
  refine then_normal ?_
  refine wp_seq ?_
  refine wp_seq ?_
  refine w_region ?_
  refine H.val 28 (.int .i64 0) (by kernel_rfl) (by kernel_rfl) ?_
  intro a H
  refine H.val 29 (.bool true) (by kernel_rfl) (by kernel_rfl) ?_
  intro a H
  refine H.val 30 (.agg #[(.int .i64 U.channel), (.int .i64 U.frame), (.int .i64 U.version), (.int .i64 U.item), (.int .i64 U.index), (.bool U.key), (.string (bstr U.data)), (.int .i64 U.regions), (.int .i64 U.gain), (.string (bstr U.caption)), (.int .i64 U.os), (.int .i64 U.of), (.slice Bu U.al.length cu)]) (by kernel_rfl) (ex_loadN (vs := [(.int .i64 U.channel), (.int .i64 U.frame), (.int .i64 U.version), (.int .i64 U.item), (.int .i64 U.index), (.bool U.key), (.string (bstr U.data)), (.int .i64 U.regions), (.int .i64 U.gain), (.string (bstr U.caption)), (.int .i64 U.os), (.int .i64 U.of), (.slice Bu U.al.length cu)]) (by kernel_rfl) (by kernel_rfl) (by kernel_rfl) rfl (HP.cells 1 rfl 0 13 (by kernel_rfl))) ?_
  intro a H
  refine H.call 31 (by kernel_rfl) (Eq.trans (by kernel_rfl : _ = (callFunc 18 #[(.agg #[(.int .i64 U.channel), (.int .i64 U.frame), (.int .i64 U.version), (.int .i64 U.item), (.int .i64 U.index), (.bool U.key), (.string (bstr U.data)), (.int .i64 U.regions), (.int .i64 U.gain), (.string (bstr U.caption)), (.int .i64 U.os), (.int .i64 U.of), (.slice Bu U.al.length cu)])]).run Tryd.prog w_10) (Tryd.call18 _ _)) ((by have hh := uvalid_any ({ U with A := Bu, c := cu } : Un) w_10 (HP.fact 0 rfl) (Nat.le_trans hcau hcbu); rw [show validU ({ U with A := Bu, c := cu } : Un) = true from hvu] at hh; exact hh)) ?_
  rintro e w_11 ⟨rfl, hb⟩
  refine ⟨_, rfl, ?_⟩
  intro a H
  have HP := HP.next hb
  refine H.val 32 (.bool false) (by kernel_rfl) (by kernel_rfl) ?_
  intro a H
  refine H.val 33 (.bool false) (by kernel_rfl) (by kernel_rfl) ?_
  intro a H
  refine H.val 34 (.int .i64 0) (by kernel_rfl) (by kernel_rfl) ?_
  intro a H
  refine H.val 35 (.bool false) (by kernel_rfl) (by kernel_rfl) ?_
  intro a H
  refine H.val 36 (.bool false) (by kernel_rfl) (by kernel_rfl) ?_
  intro a H
  refine H.skip 37 (by kernel_rfl) ?_
  intro a H
  refine H.skip 38 (by kernel_rfl) ?_
  intro a H
  refine H.skip 39 (by kernel_rfl) ?_
  intro a H
  refine H.skip 40 (by kernel_rfl) ?_
  intro a H
  refine H.skip 41 (by kernel_rfl) ?_
  intro a H
  refine H.skip 42 (by kernel_rfl) ?_
  intro a H
  refine H.val 43 (.bool false) (by kernel_rfl) (by kernel_rfl) ?_
  intro a H
  refine H.val 44 (.bool false) (by kernel_rfl) (by kernel_rfl) ?_
  intro a H
  refine wpList_nil ?_
  have H := H.keep (L' := [(44, (.bool false)), (10, (.int .i64 0)), (9, (.string (bstr lu))), (21, (.agg #[(.int .i64 U.channel), (.int .i64 U.frame), (.int .i64 U.version), (.int .i64 U.item), (.int .i64 U.index), (.bool U.key), (.string (bstr U.data)), (.int .i64 U.regions), (.int .i64 U.gain), (.string (bstr U.caption)), (.int .i64 U.os), (.int .i64 U.of), (.slice Bu U.al.length cu)])), (20, (.agg #[(.int .i64 u.channel), (.int .i64 u.frame), (.int .i64 u.version), (.int .i64 u.item), (.int .i64 u.index), (.bool u.key), (.string (bstr u.data)), (.int .i64 u.regions), (.int .i64 u.gain), (.string (bstr u.caption)), (.int .i64 u.os), (.int .i64 u.of), (.slice u.A u.al.length u.c)])), (8, (.pointer (some ⟨b_5, 0, none⟩))), (19, (.agg #[(.int .i64 ((rateP c).1)), (.int .i64 ((rateP c).2))])), (18, (.int .i64 c)), (7, (.bool true)), (17, (.bool true)), (6, (.bool false)), (4, (.pointer (some ⟨b_1, 0, none⟩))), (0, (.int .i64 c)), (1, (.agg #[(.int .i64 u.channel), (.int .i64 u.frame), (.int .i64 u.version), (.int .i64 u.item), (.int .i64 u.index), (.bool u.key), (.string (bstr u.data)), (.int .i64 u.regions), (.int .i64 u.gain), (.string (bstr u.caption)), (.int .i64 u.os), (.int .i64 u.of), (.slice u.A u.al.length u.c)])), (2, (.string (bstr s)))]) (by kernel_rfl)
  refine then_normal ?_
  refine w_iff H rfl ?_
  refine wp_skip ?_
  refine then_normal ?_
  refine wp_seq ?_
  refine wp_seq ?_
  refine w_region ?_
  refine H.val 45 (.int .i64 0) (by kernel_rfl) (by kernel_rfl) ?_
  intro a H
  refine H.val 46 (.bool true) (by kernel_rfl) (by kernel_rfl) ?_
  intro a H
  refine wpList_nil ?_
  refine then_normal ?_
  refine w_ift H rfl ?_
  refine wp_seq ?_
  refine w_region ?_
  refine H.val 48 (.agg #[(.int .i64 ((rateP c).1)), (.int .i64 ((rateP c).2))]) (by kernel_rfl) (ex_loadN (vs := [(.int .i64 ((rateP c).1)), (.int .i64 ((rateP c).2))]) (by kernel_rfl) (by kernel_rfl) (by kernel_rfl) rfl (HP.cells 0 rfl 0 2 (by kernel_rfl))) ?_
  intro a H
  refine H.val 49 (.string (bstr lu)) (by kernel_rfl) (by kernel_rfl) ?_
  intro a H
  refine H.call 50 (by kernel_rfl) (Eq.trans (by kernel_rfl : _ = (callFunc 22 #[(.agg #[(.int .i64 ((rateP c).1)), (.int .i64 ((rateP c).2))]), (.string (bstr lu))]).run Tryd.prog w_11) (Tryd.call22 _ _)) ((by have hh := unpack_any (rateP c).1 (rateP c).2 lu w_11 (hL.below (HP.below (by kernel_rfl))) hlu2; rw [hUn] at hh; exact hh)) ?_
  rintro e w_12 ⟨Bx, cx, rfl, halx, hcax, hcbx, hccx, hfrx, hb⟩
  refine ⟨_, rfl, ?_⟩
  intro a H
  have HP := (HP.next hb).keepF ⟨rowFp U.al.length Bx, fun w => IsAlts w Bx U.al.length U.al⟩ halx (fun _ _ h hk hs => ⟨h.1, h.2.keep hk hs⟩) (fun j hj => row_sep HP halx.2 hfrx hj)
  refine H.val 47 (.tuple #[(.agg #[(.int .i64 U.channel), (.int .i64 U.frame), (.int .i64 U.version), (.int .i64 U.item), (.int .i64 U.index), (.bool U.key), (.string (bstr U.data)), (.int .i64 U.regions), (.int .i64 U.gain), (.string (bstr U.caption)), (.int .i64 U.os), (.int .i64 U.of), (.slice Bx U.al.length cx)]), (.int .i64 0)]) (by kernel_rfl) (by kernel_rfl) ?_
  intro a H
  refine H.val 51 (.agg #[(.int .i64 U.channel), (.int .i64 U.frame), (.int .i64 U.version), (.int .i64 U.item), (.int .i64 U.index), (.bool U.key), (.string (bstr U.data)), (.int .i64 U.regions), (.int .i64 U.gain), (.string (bstr U.caption)), (.int .i64 U.os), (.int .i64 U.of), (.slice Bx U.al.length cx)]) (by kernel_rfl) (by kernel_rfl) ?_
  intro a H
  refine H.val 52 (.int .i64 0) (by kernel_rfl) (by kernel_rfl) ?_
  intro a H
  refine H.alloc HP 11 (fun b => (.pointer (some ⟨b, 0, none⟩))) 28 [(.int .i64 0), (.int .i64 0), (.int .i64 0), (.int .i64 0), (.int .i64 0), (.bool false), (.string (bstr ([]))), (.int .i64 0), (.int .i64 0), (.string (bstr ([]))), (.int .i64 0), (.int .i64 0), (.slice none 0 0)] (by kernel_rfl) (fun w => by kernel_rfl) ?_
  intro b_13 w_14 a H HP
  refine H.store HP 0 b_13 0 13 28 [(.int .i64 0), (.int .i64 0), (.int .i64 0), (.int .i64 0), (.int .i64 0), (.bool false), (.string (bstr ([]))), (.int .i64 0), (.int .i64 0), (.string (bstr ([]))), (.int .i64 0), (.int .i64 0), (.slice none 0 0)] true (.agg #[(.int .i64 U.channel), (.int .i64 U.frame), (.int .i64 U.version), (.int .i64 U.item), (.int .i64 U.index), (.bool U.key), (.string (bstr U.data)), (.int .i64 U.regions), (.int .i64 U.gain), (.string (bstr U.caption)), (.int .i64 U.os), (.int .i64 U.of), (.slice Bx U.al.length cx)]) [bx b_13 28 [(.int .i64 U.channel), (.int .i64 U.frame), (.int .i64 U.version), (.int .i64 U.item), (.int .i64 U.index), (.bool U.key), (.string (bstr U.data)), (.int .i64 U.regions), (.int .i64 U.gain), (.string (bstr U.caption)), (.int .i64 U.os), (.int .i64 U.of), (.slice Bx U.al.length cx)] true, bx b_5 23 [(.int .i64 ((rateP c).1)), (.int .i64 ((rateP c).2))] true, bx b_1 28 [(.int .i64 U.channel), (.int .i64 U.frame), (.int .i64 U.version), (.int .i64 U.item), (.int .i64 U.index), (.bool U.key), (.string (bstr U.data)), (.int .i64 U.regions), (.int .i64 U.gain), (.string (bstr U.caption)), (.int .i64 U.os), (.int .i64 U.of), (.slice Bu U.al.length cu)] true] (by kernel_rfl) (by kernel_rfl) (by kernel_rfl) rfl (by kernel_rfl) (by kernel_rfl) (by kernel_rfl) (by kernel_rfl) (by kernel_rfl) ?_
  intro w_15 a H HP
  refine H.val 12 (.int .i64 0) (by kernel_rfl) (by kernel_rfl) ?_
  intro a H
  refine wpList_nil ?_
  have H := H.keep (L' := [(12, (.int .i64 0)), (11, (.pointer (some ⟨b_13, 0, none⟩))), (46, (.bool true)), (45, (.int .i64 0)), (44, (.bool false)), (10, (.int .i64 0)), (9, (.string (bstr lu))), (21, (.agg #[(.int .i64 U.channel), (.int .i64 U.frame), (.int .i64 U.version), (.int .i64 U.item), (.int .i64 U.index), (.bool U.key), (.string (bstr U.data)), (.int .i64 U.regions), (.int .i64 U.gain), (.string (bstr U.caption)), (.int .i64 U.os), (.int .i64 U.of), (.slice Bu U.al.length cu)])), (20, (.agg #[(.int .i64 u.channel), (.int .i64 u.frame), (.int .i64 u.version), (.int .i64 u.item), (.int .i64 u.index), (.bool u.key), (.string (bstr u.data)), (.int .i64 u.regions), (.int .i64 u.gain), (.string (bstr u.caption)), (.int .i64 u.os), (.int .i64 u.of), (.slice u.A u.al.length u.c)])), (8, (.pointer (some ⟨b_5, 0, none⟩))), (19, (.agg #[(.int .i64 ((rateP c).1)), (.int .i64 ((rateP c).2))])), (18, (.int .i64 c)), (7, (.bool true)), (17, (.bool true)), (6, (.bool false)), (4, (.pointer (some ⟨b_1, 0, none⟩))), (0, (.int .i64 c)), (1, (.agg #[(.int .i64 u.channel), (.int .i64 u.frame), (.int .i64 u.version), (.int .i64 u.item), (.int .i64 u.index), (.bool u.key), (.string (bstr u.data)), (.int .i64 u.regions), (.int .i64 u.gain), (.string (bstr u.caption)), (.int .i64 u.os), (.int .i64 u.of), (.slice u.A u.al.length u.c)])), (2, (.string (bstr s)))]) (by kernel_rfl)
  refine then_normal ?_
  refine wp_seq ?_
  refine w_region ?_
  refine H.val 53 (.int .i64 0) (by kernel_rfl) (by kernel_rfl) ?_
  intro a H
  refine H.val 54 (.bool false) (by kernel_rfl) (by kernel_rfl) ?_
  intro a H
  refine H.val 55 (.bool false) (by kernel_rfl) (by kernel_rfl) ?_
  intro a H
  refine H.val 56 (.agg #[(.int .i64 U.channel), (.int .i64 U.frame), (.int .i64 U.version), (.int .i64 U.item), (.int .i64 U.index), (.bool U.key), (.string (bstr U.data)), (.int .i64 U.regions), (.int .i64 U.gain), (.string (bstr U.caption)), (.int .i64 U.os), (.int .i64 U.of), (.slice Bu U.al.length cu)]) (by kernel_rfl) (ex_loadN (vs := [(.int .i64 U.channel), (.int .i64 U.frame), (.int .i64 U.version), (.int .i64 U.item), (.int .i64 U.index), (.bool U.key), (.string (bstr U.data)), (.int .i64 U.regions), (.int .i64 U.gain), (.string (bstr U.caption)), (.int .i64 U.os), (.int .i64 U.of), (.slice Bu U.al.length cu)]) (by kernel_rfl) (by kernel_rfl) (by kernel_rfl) rfl (HP.cells 2 rfl 0 13 (by kernel_rfl))) ?_
  intro a H
  refine H.val 57 (.agg #[(.int .i64 U.channel), (.int .i64 U.frame), (.int .i64 U.version), (.int .i64 U.item), (.int .i64 U.index), (.bool U.key), (.string (bstr U.data)), (.int .i64 U.regions), (.int .i64 U.gain), (.string (bstr U.caption)), (.int .i64 U.os), (.int .i64 U.of), (.slice Bx U.al.length cx)]) (by kernel_rfl) (ex_loadN (vs := [(.int .i64 U.channel), (.int .i64 U.frame), (.int .i64 U.version), (.int .i64 U.item), (.int .i64 U.index), (.bool U.key), (.string (bstr U.data)), (.int .i64 U.regions), (.int .i64 U.gain), (.string (bstr U.caption)), (.int .i64 U.os), (.int .i64 U.of), (.slice Bx U.al.length cx)]) (by kernel_rfl) (by kernel_rfl) (by kernel_rfl) rfl (HP.cells 0 rfl 0 13 (by kernel_rfl))) ?_
  intro a H
  refine H.call 58 (by kernel_rfl) (Eq.trans (by kernel_rfl : _ = (callFunc 20 #[(.agg #[(.int .i64 U.channel), (.int .i64 U.frame), (.int .i64 U.version), (.int .i64 U.item), (.int .i64 U.index), (.bool U.key), (.string (bstr U.data)), (.int .i64 U.regions), (.int .i64 U.gain), (.string (bstr U.caption)), (.int .i64 U.os), (.int .i64 U.of), (.slice Bu U.al.length cu)]), (.agg #[(.int .i64 U.channel), (.int .i64 U.frame), (.int .i64 U.version), (.int .i64 U.item), (.int .i64 U.index), (.bool U.key), (.string (bstr U.data)), (.int .i64 U.regions), (.int .i64 U.gain), (.string (bstr U.caption)), (.int .i64 U.os), (.int .i64 U.of), (.slice Bx U.al.length cx)])]).run Tryd.prog w_15) (Tryd.call20 _ _)) ((by have hh := usame_any ({ U with A := Bu, c := cu } : Un) ({ U with A := Bx, c := cx } : Un) w_15 (HP.fact 1 rfl) (HP.fact 0 rfl) (Nat.le_trans hcau hcbu); rw [(same_bare _ _).2 (show bareU ({ U with A := Bu, c := cu } : Un) = bareU ({ U with A := Bx, c := cx } : Un) from rfl)] at hh; exact hh)) ?_
  rintro e w_16 ⟨rfl, hb⟩
  refine ⟨_, rfl, ?_⟩
  intro a H
  have HP := HP.next hb
  refine H.val 59 (.bool false) (by kernel_rfl) (by kernel_rfl) ?_
  intro a H
  refine H.val 60 (.bool false) (by kernel_rfl) (by kernel_rfl) ?_
  intro a H
  refine wpList_nil ?_
  have H := H.keep (L' := [(60, (.bool false)), (12, (.int .i64 0)), (11, (.pointer (some ⟨b_13, 0, none⟩))), (46, (.bool true)), (45, (.int .i64 0)), (44, (.bool false)), (10, (.int .i64 0)), (9, (.string (bstr lu))), (21, (.agg #[(.int .i64 U.channel), (.int .i64 U.frame), (.int .i64 U.version), (.int .i64 U.item), (.int .i64 U.index), (.bool U.key), (.string (bstr U.data)), (.int .i64 U.regions), (.int .i64 U.gain), (.string (bstr U.caption)), (.int .i64 U.os), (.int .i64 U.of), (.slice Bu U.al.length cu)])), (20, (.agg #[(.int .i64 u.channel), (.int .i64 u.frame), (.int .i64 u.version), (.int .i64 u.item), (.int .i64 u.index), (.bool u.key), (.string (bstr u.data)), (.int .i64 u.regions), (.int .i64 u.gain), (.string (bstr u.caption)), (.int .i64 u.os), (.int .i64 u.of), (.slice u.A u.al.length u.c)])), (8, (.pointer (some ⟨b_5, 0, none⟩))), (19, (.agg #[(.int .i64 ((rateP c).1)), (.int .i64 ((rateP c).2))])), (18, (.int .i64 c)), (7, (.bool true)), (17, (.bool true)), (6, (.bool false)), (4, (.pointer (some ⟨b_1, 0, none⟩))), (0, (.int .i64 c)), (1, (.agg #[(.int .i64 u.channel), (.int .i64 u.frame), (.int .i64 u.version), (.int .i64 u.item), (.int .i64 u.index), (.bool u.key), (.string (bstr u.data)), (.int .i64 u.regions), (.int .i64 u.gain), (.string (bstr u.caption)), (.int .i64 u.os), (.int .i64 u.of), (.slice u.A u.al.length u.c)])), (2, (.string (bstr s)))]) (by kernel_rfl)
  refine then_normal ?_
  refine w_iff H rfl ?_
  refine wp_skip ?_
  refine then_normal ?_
  refine wp_seq ?_
  refine w_region ?_
  refine H.val 61 (.string (bstr s)) (by kernel_rfl) (by kernel_rfl) ?_
  intro a H
  refine H.val 62 (.string (bstr s)) (by kernel_rfl) (by kernel_rfl) ?_
  intro a H
  refine H.val 63 (.int .i64 ((s.length : Nat) : Int)) (by kernel_rfl) (by kernel_rfl) ?_
  intro a H
  refine H.valE 64 (.int .i64 (if (2000 : Int) < ((s.length : Nat) : Int) then 2000 else ((s.length : Nat) : Int))) (.int .i64 ((min s.length 2000 : Nat) : Int)) (by kernel_rfl) (by kernel_rfl) ((congrArg (Value.int .i64) (by split <;> omega))) ?_
  intro a H
  refine H.valE 65 (.string (bstr (s.take (min s.length 2000)))) (.string (bstr (s.take 2000))) (by kernel_rfl) (ex_ssliceH (kk := .i64) (l := s) (j := ((min s.length 2000 : Nat) : Int)) (b := min s.length 2000) (by kernel_rfl) (by kernel_rfl) (by kernel_rfl) (by omega) (by omega)) ((congrArg (fun x => Value.string (bstr x)) (take_min _ _))) ?_
  intro a H
  refine H.val 2 (.string (bstr (s.take 2000))) (by kernel_rfl) (by kernel_rfl) ?_
  intro a H
  refine wpList_nil ?_
  have H := H.keep (L' := [(2, (.string (bstr (s.take 2000)))), (60, (.bool false)), (12, (.int .i64 0)), (11, (.pointer (some ⟨b_13, 0, none⟩))), (46, (.bool true)), (45, (.int .i64 0)), (44, (.bool false)), (10, (.int .i64 0)), (9, (.string (bstr lu))), (21, (.agg #[(.int .i64 U.channel), (.int .i64 U.frame), (.int .i64 U.version), (.int .i64 U.item), (.int .i64 U.index), (.bool U.key), (.string (bstr U.data)), (.int .i64 U.regions), (.int .i64 U.gain), (.string (bstr U.caption)), (.int .i64 U.os), (.int .i64 U.of), (.slice Bu U.al.length cu)])), (20, (.agg #[(.int .i64 u.channel), (.int .i64 u.frame), (.int .i64 u.version), (.int .i64 u.item), (.int .i64 u.index), (.bool u.key), (.string (bstr u.data)), (.int .i64 u.regions), (.int .i64 u.gain), (.string (bstr u.caption)), (.int .i64 u.os), (.int .i64 u.of), (.slice u.A u.al.length u.c)])), (8, (.pointer (some ⟨b_5, 0, none⟩))), (19, (.agg #[(.int .i64 ((rateP c).1)), (.int .i64 ((rateP c).2))])), (18, (.int .i64 c)), (7, (.bool true)), (17, (.bool true)), (6, (.bool false)), (4, (.pointer (some ⟨b_1, 0, none⟩))), (0, (.int .i64 c)), (1, (.agg #[(.int .i64 u.channel), (.int .i64 u.frame), (.int .i64 u.version), (.int .i64 u.item), (.int .i64 u.index), (.bool u.key), (.string (bstr u.data)), (.int .i64 u.regions), (.int .i64 u.gain), (.string (bstr u.caption)), (.int .i64 u.os), (.int .i64 u.of), (.slice u.A u.al.length u.c)]))]) (by kernel_rfl)
  refine then_normal ?_
  refine wp_seq ?_
  refine w_region ?_
  refine H.val 67 (.agg #[(.int .i64 ((rateP c).1)), (.int .i64 ((rateP c).2))]) (by kernel_rfl) (ex_loadN (vs := [(.int .i64 ((rateP c).1)), (.int .i64 ((rateP c).2))]) (by kernel_rfl) (by kernel_rfl) (by kernel_rfl) rfl (HP.cells 1 rfl 0 2 (by kernel_rfl))) ?_
  intro a H
  refine H.val 68 (.string (bstr (s.take 2000))) (by kernel_rfl) (by kernel_rfl) ?_
  intro a H
  refine H.call 69 (by kernel_rfl) (Eq.trans (by kernel_rfl : _ = (callFunc 22 #[(.agg #[(.int .i64 ((rateP c).1)), (.int .i64 ((rateP c).2))]), (.string (bstr (s.take 2000)))]).run Tryd.prog w_16) (Tryd.call22 _ _)) ((by have hh := unpack_any (rateP c).1 (rateP c).2 (s.take 2000) w_16 (hL.below (HP.below (by kernel_rfl))) hs2; rw [hX] at hh; exact hh)) ?_
  rintro e w_17 ⟨By, cy, rfl, haly, hcay, hcby, hccy, hfry, hb⟩
  refine ⟨_, rfl, ?_⟩
  intro a H
  have HP := (HP.next hb).keepF ⟨rowFp X.al.length By, fun w => IsAlts w By X.al.length X.al⟩ haly (fun _ _ h hk hs => ⟨h.1, h.2.keep hk hs⟩) (fun j hj => row_sep HP haly.2 hfry hj)
  refine H.val 66 (.tuple #[(.agg #[(.int .i64 X.channel), (.int .i64 X.frame), (.int .i64 X.version), (.int .i64 X.item), (.int .i64 X.index), (.bool X.key), (.string (bstr X.data)), (.int .i64 X.regions), (.int .i64 X.gain), (.string (bstr X.caption)), (.int .i64 X.os), (.int .i64 X.of), (.slice By X.al.length cy)]), (.int .i64 0)]) (by kernel_rfl) (by kernel_rfl) ?_
  intro a H
  refine H.val 70 (.agg #[(.int .i64 X.channel), (.int .i64 X.frame), (.int .i64 X.version), (.int .i64 X.item), (.int .i64 X.index), (.bool X.key), (.string (bstr X.data)), (.int .i64 X.regions), (.int .i64 X.gain), (.string (bstr X.caption)), (.int .i64 X.os), (.int .i64 X.of), (.slice By X.al.length cy)]) (by kernel_rfl) (by kernel_rfl) ?_
  intro a H
  refine H.val 71 (.int .i64 0) (by kernel_rfl) (by kernel_rfl) ?_
  intro a H
  refine H.alloc HP 13 (fun b => (.pointer (some ⟨b, 0, none⟩))) 28 [(.int .i64 0), (.int .i64 0), (.int .i64 0), (.int .i64 0), (.int .i64 0), (.bool false), (.string (bstr ([]))), (.int .i64 0), (.int .i64 0), (.string (bstr ([]))), (.int .i64 0), (.int .i64 0), (.slice none 0 0)] (by kernel_rfl) (fun w => by kernel_rfl) ?_
  intro b_18 w_19 a H HP
  refine H.store HP 0 b_18 0 13 28 [(.int .i64 0), (.int .i64 0), (.int .i64 0), (.int .i64 0), (.int .i64 0), (.bool false), (.string (bstr ([]))), (.int .i64 0), (.int .i64 0), (.string (bstr ([]))), (.int .i64 0), (.int .i64 0), (.slice none 0 0)] true (.agg #[(.int .i64 X.channel), (.int .i64 X.frame), (.int .i64 X.version), (.int .i64 X.item), (.int .i64 X.index), (.bool X.key), (.string (bstr X.data)), (.int .i64 X.regions), (.int .i64 X.gain), (.string (bstr X.caption)), (.int .i64 X.os), (.int .i64 X.of), (.slice By X.al.length cy)]) [bx b_18 28 [(.int .i64 X.channel), (.int .i64 X.frame), (.int .i64 X.version), (.int .i64 X.item), (.int .i64 X.index), (.bool X.key), (.string (bstr X.data)), (.int .i64 X.regions), (.int .i64 X.gain), (.string (bstr X.caption)), (.int .i64 X.os), (.int .i64 X.of), (.slice By X.al.length cy)] true, bx b_13 28 [(.int .i64 U.channel), (.int .i64 U.frame), (.int .i64 U.version), (.int .i64 U.item), (.int .i64 U.index), (.bool U.key), (.string (bstr U.data)), (.int .i64 U.regions), (.int .i64 U.gain), (.string (bstr U.caption)), (.int .i64 U.os), (.int .i64 U.of), (.slice Bx U.al.length cx)] true, bx b_5 23 [(.int .i64 ((rateP c).1)), (.int .i64 ((rateP c).2))] true, bx b_1 28 [(.int .i64 U.channel), (.int .i64 U.frame), (.int .i64 U.version), (.int .i64 U.item), (.int .i64 U.index), (.bool U.key), (.string (bstr U.data)), (.int .i64 U.regions), (.int .i64 U.gain), (.string (bstr U.caption)), (.int .i64 U.os), (.int .i64 U.of), (.slice Bu U.al.length cu)] true] (by kernel_rfl) (by kernel_rfl) (by kernel_rfl) rfl (by kernel_rfl) (by kernel_rfl) (by kernel_rfl) (by kernel_rfl) (by kernel_rfl) ?_
  intro w_20 a H HP
  refine H.val 14 (.int .i64 0) (by kernel_rfl) (by kernel_rfl) ?_
  intro a H
  refine wpList_nil ?_
  have H := H.keep (L' := [(14, (.int .i64 0)), (13, (.pointer (some ⟨b_18, 0, none⟩))), (2, (.string (bstr (s.take 2000)))), (60, (.bool false)), (12, (.int .i64 0)), (11, (.pointer (some ⟨b_13, 0, none⟩))), (46, (.bool true)), (45, (.int .i64 0)), (44, (.bool false)), (10, (.int .i64 0)), (9, (.string (bstr lu))), (21, (.agg #[(.int .i64 U.channel), (.int .i64 U.frame), (.int .i64 U.version), (.int .i64 U.item), (.int .i64 U.index), (.bool U.key), (.string (bstr U.data)), (.int .i64 U.regions), (.int .i64 U.gain), (.string (bstr U.caption)), (.int .i64 U.os), (.int .i64 U.of), (.slice Bu U.al.length cu)])), (20, (.agg #[(.int .i64 u.channel), (.int .i64 u.frame), (.int .i64 u.version), (.int .i64 u.item), (.int .i64 u.index), (.bool u.key), (.string (bstr u.data)), (.int .i64 u.regions), (.int .i64 u.gain), (.string (bstr u.caption)), (.int .i64 u.os), (.int .i64 u.of), (.slice u.A u.al.length u.c)])), (8, (.pointer (some ⟨b_5, 0, none⟩))), (19, (.agg #[(.int .i64 ((rateP c).1)), (.int .i64 ((rateP c).2))])), (18, (.int .i64 c)), (7, (.bool true)), (17, (.bool true)), (6, (.bool false)), (4, (.pointer (some ⟨b_1, 0, none⟩))), (0, (.int .i64 c)), (1, (.agg #[(.int .i64 u.channel), (.int .i64 u.frame), (.int .i64 u.version), (.int .i64 u.item), (.int .i64 u.index), (.bool u.key), (.string (bstr u.data)), (.int .i64 u.regions), (.int .i64 u.gain), (.string (bstr u.caption)), (.int .i64 u.os), (.int .i64 u.of), (.slice u.A u.al.length u.c)]))]) (by kernel_rfl)
  refine then_normal ?_
  refine wp_seq ?_
  refine wp_seq ?_
  refine w_region ?_
  refine H.val 72 (.int .i64 0) (by kernel_rfl) (by kernel_rfl) ?_
  intro a H
  refine H.val 73 (.bool false) (by kernel_rfl) (by kernel_rfl) ?_
  intro a H
  refine wpList_nil ?_
  refine then_normal ?_
  refine w_iff H rfl ?_
  refine wp_skip ?_
  refine then_normal ?_
  refine wp_seq ?_
  refine w_region ?_
  refine H.val 85 (.agg #[(.int .i64 ((rateP c).1)), (.int .i64 ((rateP c).2))]) (by kernel_rfl) (ex_loadN (vs := [(.int .i64 ((rateP c).1)), (.int .i64 ((rateP c).2))]) (by kernel_rfl) (by kernel_rfl) (by kernel_rfl) rfl (HP.cells 2 rfl 0 2 (by kernel_rfl))) ?_
  intro a H
  refine H.val 86 (.agg #[(.int .i64 X.channel), (.int .i64 X.frame), (.int .i64 X.version), (.int .i64 X.item), (.int .i64 X.index), (.bool X.key), (.string (bstr X.data)), (.int .i64 X.regions), (.int .i64 X.gain), (.string (bstr X.caption)), (.int .i64 X.os), (.int .i64 X.of), (.slice By X.al.length cy)]) (by kernel_rfl) (ex_loadN (vs := [(.int .i64 X.channel), (.int .i64 X.frame), (.int .i64 X.version), (.int .i64 X.item), (.int .i64 X.index), (.bool X.key), (.string (bstr X.data)), (.int .i64 X.regions), (.int .i64 X.gain), (.string (bstr X.caption)), (.int .i64 X.os), (.int .i64 X.of), (.slice By X.al.length cy)]) (by kernel_rfl) (by kernel_rfl) (by kernel_rfl) rfl (HP.cells 0 rfl 0 13 (by kernel_rfl))) ?_
  intro a H
  refine H.call 87 (by kernel_rfl) (Eq.trans (by kernel_rfl : _ = (callFunc 16 #[(.agg #[(.int .i64 ((rateP c).1)), (.int .i64 ((rateP c).2))]), (.agg #[(.int .i64 X.channel), (.int .i64 X.frame), (.int .i64 X.version), (.int .i64 X.item), (.int .i64 X.index), (.bool X.key), (.string (bstr X.data)), (.int .i64 X.regions), (.int .i64 X.gain), (.string (bstr X.caption)), (.int .i64 X.os), (.int .i64 X.of), (.slice By X.al.length cy)])]).run Tryd.prog w_20) (Tryd.call16 _ _)) ((by have hh := pack_any (rateP c).1 (rateP c).2 ({ X with A := By, c := cy } : Un) w_20 (hL.below (HP.below (by kernel_rfl))) (HP.fact 0 rfl) (Nat.le_trans hcay hcby); rw [show packP (rateP c).1 (rateP c).2 ({ X with A := By, c := cy } : Un) = some (s.take 2000) from (show packP (rateP c).1 (rateP c).2 ({ X with A := By, c := cy } : Un) = packP (rateP c).1 (rateP c).2 X from rfl).trans (pack_unpack hX)] at hh; exact hh)) ?_
  rintro e w_21 ⟨rfl, hb⟩
  refine ⟨_, rfl, ?_⟩
  intro a H
  have HP := HP.next hb
  refine H.val 84 (.tuple #[(.string (bstr (s.take 2000))), (.int .i64 0)]) (by kernel_rfl) (by kernel_rfl) ?_
  intro a H
  refine H.val 88 (.string (bstr (s.take 2000))) (by kernel_rfl) (by kernel_rfl) ?_
  intro a H
  refine H.val 89 (.int .i64 0) (by kernel_rfl) (by kernel_rfl) ?_
  intro a H
  refine H.val 15 (.string (bstr (s.take 2000))) (by kernel_rfl) (by kernel_rfl) ?_
  intro a H
  refine H.val 16 (.int .i64 0) (by kernel_rfl) (by kernel_rfl) ?_
  intro a H
  refine wpList_nil ?_
  have H := H.keep (L' := [(16, (.int .i64 0)), (15, (.string (bstr (s.take 2000)))), (73, (.bool false)), (72, (.int .i64 0)), (14, (.int .i64 0)), (13, (.pointer (some ⟨b_18, 0, none⟩))), (2, (.string (bstr (s.take 2000)))), (60, (.bool false)), (12, (.int .i64 0)), (11, (.pointer (some ⟨b_13, 0, none⟩))), (46, (.bool true)), (45, (.int .i64 0)), (44, (.bool false)), (10, (.int .i64 0)), (9, (.string (bstr lu))), (21, (.agg #[(.int .i64 U.channel), (.int .i64 U.frame), (.int .i64 U.version), (.int .i64 U.item), (.int .i64 U.index), (.bool U.key), (.string (bstr U.data)), (.int .i64 U.regions), (.int .i64 U.gain), (.string (bstr U.caption)), (.int .i64 U.os), (.int .i64 U.of), (.slice Bu U.al.length cu)])), (20, (.agg #[(.int .i64 u.channel), (.int .i64 u.frame), (.int .i64 u.version), (.int .i64 u.item), (.int .i64 u.index), (.bool u.key), (.string (bstr u.data)), (.int .i64 u.regions), (.int .i64 u.gain), (.string (bstr u.caption)), (.int .i64 u.os), (.int .i64 u.of), (.slice u.A u.al.length u.c)])), (8, (.pointer (some ⟨b_5, 0, none⟩))), (19, (.agg #[(.int .i64 ((rateP c).1)), (.int .i64 ((rateP c).2))])), (18, (.int .i64 c)), (7, (.bool true)), (17, (.bool true)), (6, (.bool false)), (4, (.pointer (some ⟨b_1, 0, none⟩))), (0, (.int .i64 c)), (1, (.agg #[(.int .i64 u.channel), (.int .i64 u.frame), (.int .i64 u.version), (.int .i64 u.item), (.int .i64 u.index), (.bool u.key), (.string (bstr u.data)), (.int .i64 u.regions), (.int .i64 u.gain), (.string (bstr u.caption)), (.int .i64 u.os), (.int .i64 u.of), (.slice u.A u.al.length u.c)]))]) (by kernel_rfl)
  refine then_normal ?_
  refine wp_seq ?_
  refine w_region ?_
  refine H.val 90 (.bool true) (by kernel_rfl) (by kernel_rfl) ?_
  intro a H
  refine H.val 91 (.bool true) (by kernel_rfl) (by kernel_rfl) ?_
  intro a H
  refine H.val 92 (.int .i64 0) (by kernel_rfl) (by kernel_rfl) ?_
  intro a H
  refine H.val 93 (.bool true) (by kernel_rfl) (by kernel_rfl) ?_
  intro a H
  refine H.val 94 (.bool true) (by kernel_rfl) (by kernel_rfl) ?_
  intro a H
  refine H.val 95 (.bool true) (by kernel_rfl) (by kernel_rfl) ?_
  intro a H
  refine H.val 96 (.string (bstr (s.take 2000))) (by kernel_rfl) (by kernel_rfl) ?_
  intro a H
  refine H.val 97 (.string (bstr (s.take 2000))) (by kernel_rfl) (by kernel_rfl) ?_
  intro a H
  refine H.valE 98 (.bool ((bstr (s.take 2000)).toList == (bstr (s.take 2000)).toList)) (.bool true) (by kernel_rfl) (by kernel_rfl) ((congrArg Value.bool (beq_self_eq_true _))) ?_
  intro a H
  refine H.val 99 (.bool true) (by kernel_rfl) (by kernel_rfl) ?_
  intro a H
  refine H.val 6 (.bool true) (by kernel_rfl) (by kernel_rfl) ?_
  intro a H
  refine wpList_nil ?_
  have H := H.keep (L' := [(6, (.bool true)), (16, (.int .i64 0)), (15, (.string (bstr (s.take 2000)))), (73, (.bool false)), (72, (.int .i64 0)), (14, (.int .i64 0)), (13, (.pointer (some ⟨b_18, 0, none⟩))), (2, (.string (bstr (s.take 2000)))), (60, (.bool false)), (12, (.int .i64 0)), (11, (.pointer (some ⟨b_13, 0, none⟩))), (46, (.bool true)), (45, (.int .i64 0)), (44, (.bool false)), (10, (.int .i64 0)), (9, (.string (bstr lu))), (21, (.agg #[(.int .i64 U.channel), (.int .i64 U.frame), (.int .i64 U.version), (.int .i64 U.item), (.int .i64 U.index), (.bool U.key), (.string (bstr U.data)), (.int .i64 U.regions), (.int .i64 U.gain), (.string (bstr U.caption)), (.int .i64 U.os), (.int .i64 U.of), (.slice Bu U.al.length cu)])), (20, (.agg #[(.int .i64 u.channel), (.int .i64 u.frame), (.int .i64 u.version), (.int .i64 u.item), (.int .i64 u.index), (.bool u.key), (.string (bstr u.data)), (.int .i64 u.regions), (.int .i64 u.gain), (.string (bstr u.caption)), (.int .i64 u.os), (.int .i64 u.of), (.slice u.A u.al.length u.c)])), (8, (.pointer (some ⟨b_5, 0, none⟩))), (19, (.agg #[(.int .i64 ((rateP c).1)), (.int .i64 ((rateP c).2))])), (18, (.int .i64 c)), (7, (.bool true)), (17, (.bool true)), (4, (.pointer (some ⟨b_1, 0, none⟩))), (0, (.int .i64 c)), (1, (.agg #[(.int .i64 u.channel), (.int .i64 u.frame), (.int .i64 u.version), (.int .i64 u.item), (.int .i64 u.index), (.bool u.key), (.string (bstr u.data)), (.int .i64 u.regions), (.int .i64 u.gain), (.string (bstr u.caption)), (.int .i64 u.os), (.int .i64 u.of), (.slice u.A u.al.length u.c)]))]) (by kernel_rfl)
  refine then_normal ?_
  refine wp_ret ?_
  refine H.ret1 (fn := Tryd.f5) Tryd.results5 (RV.tmp_ (v := (.bool true)) (by kernel_rfl)) ?_
  exact ⟨rfl, (HP.below (by kernel_rfl))⟩
theorem roundtrip_all (c : Int) (u : Un) (s : List UInt8) (w : World) (hL : Laid w) (hc : -9223372036854775808 ≤ c ∧ c ≤ 9223372036854775807) (huu : IsAlts w u.A u.al.length u.al) (hcu : u.al.length ≤ u.c) (hAu : u.A = none → u.c = 0) :
    Calls Tryd.prog 5 #[.int .i64 c, u.val, .string (bstr s)] w fun e w' => e = .returned (.bool true) ∧ Below w.heap.size w w' := by
  cases hu' : packP (rateP c).1 (rateP c).2 (shortU u) with
  | none =>
    cases hX : unpackP (rateP c).1 (rateP c).2 (s.take 2000) with
    | none => exact rt_nonenone c u _ s w rfl hL hc huu hcu hAu (fun _ _ => hu') hX
    | some X => exact rt_nonesome c u _ s w rfl hL hc huu hcu hAu X (fun _ _ => hu') hX
  | some lu =>
    cases hX : unpackP (rateP c).1 (rateP c).2 (s.take 2000) with
    | none => exact rt_somenone c u _ s w rfl hL hc huu hcu hAu lu (fun _ _ => hu') hX
    | some X => exact rt_somesome c u _ s w rfl hL hc huu hcu hAu lu X (fun _ _ => hu') hX
end Go.Proofs.YtgdjpaeclicdfaaDoor
