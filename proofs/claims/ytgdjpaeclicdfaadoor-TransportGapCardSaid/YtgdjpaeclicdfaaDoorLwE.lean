/- TransportGap: the walk. -/
import Derived.Test.YtgdjpaeclicdfaaDoorLwA
import Derived.Test.YtgdjpaeclicdfaaDoorTrM
namespace Go.Proofs.YtgdjpaeclicdfaaDoor
open Go.ChangeShapes Go.WideShapes Go.ChangeAt Go.RowKit
set_option linter.unusedVariables false
set_option linter.unusedSimpArgs false

theorem gap_follows {rn rd : Int} {u v : Un} {l m : List UInt8} (h : packP rn rd u = some l) (k : packP rn rd v = some m) (hc : v.channel = u.channel) (hf : v.frame = IntKind.i64.wrap (u.frame + 1)) : followsP l m = true := by
  have h1 := pack_exam h
  have h2 := pack_exam k
  obtain ⟨_, hv, _⟩ := packP_some h
  obtain ⟨f, _⟩ := validU_facts hv
  have f3 := f.2.2.1
  have f4 := f.2.2.2.1
  have f1 := f.1
  rw [wrap_ini64 _ (by omega)] at hf
  unfold followsP
  rw [h1, h2, hc, hf]
  simp only [Option.isSome_some, Option.getD_some, Bool.true_and, beq_self_eq_true]
  rw [beq_iff_eq]
  omega
set_option maxRecDepth 100000 in
set_option maxHeartbeats 4000000 in
theorem gap_tn (c : Int) (u v U V : Un) (w : World) (hU : shortU u = U) (hV : shortU v = V) (hL : Laid w) (hc : -9223372036854775808 ≤ c ∧ c ≤ 9223372036854775807) (huu : IsAlts w u.A u.al.length u.al) (hcu : u.al.length ≤ u.c) (hAu : u.A = none → u.c = 0) (huv : IsAlts w v.A v.al.length v.al) (hcv : v.al.length ≤ v.c) (hAv : v.A = none → v.c = 0) (Zv : Option (List UInt8)) (hZu : ∀ B c', packP (rateP c).1 (rateP c).2 ({ U with A := B, c := c' } : Un) = none) (hZv : ∀ B c', packP (rateP c).1 (rateP c).2 (⟨U.channel, IntKind.i64.wrap (U.frame + 1), V.version, V.item, V.index, V.key, V.data, V.regions, V.gain, V.caption, V.os, V.of, B, c', V.al⟩ : Un) = Zv) :
    Calls Tryd.prog 12 #[.int .i64 c, u.val, v.val, .bool true] w fun e w' => e = .returned (.bool true) ∧ Below w.heap.size w w' := by
  have HP := Hp.start w
  refine w_enter 100 [(0, (.int .i64 c)), (1, (.agg #[(.int .i64 u.channel), (.int .i64 u.frame), (.int .i64 u.version), (.int .i64 u.item), (.int .i64 u.index), (.bool u.key), (.string (bstr u.data)), (.int .i64 u.regions), (.int .i64 u.gain), (.string (bstr u.caption)), (.int .i64 u.os), (.int .i64 u.of), (.slice u.A u.al.length u.c)])), (2, (.agg #[(.int .i64 v.channel), (.int .i64 v.frame), (.int .i64 v.version), (.int .i64 v.item), (.int .i64 v.index), (.bool v.key), (.string (bstr v.data)), (.int .i64 v.regions), (.int .i64 v.gain), (.string (bstr v.caption)), (.int .i64 v.os), (.int .i64 v.of), (.slice v.A v.al.length v.c)])), (3, (.bool true))] Tryd.func12 rfl Tryd.ntmps12 (by kernel_rfl) (by kernel_rfl) ?_
  intro a H
  refine wp_seq ?_
  refine w_region ?_
  refine H.alloc HP 5 (fun b => (.pointer (some ⟨b, 0, none⟩))) 28 [(.int .i64 u.channel), (.int .i64 u.frame), (.int .i64 u.version), (.int .i64 u.item), (.int .i64 u.index), (.bool u.key), (.string (bstr u.data)), (.int .i64 u.regions), (.int .i64 u.gain), (.string (bstr u.caption)), (.int .i64 u.os), (.int .i64 u.of), (.slice u.A u.al.length u.c)] (by kernel_rfl) (fun w => by kernel_rfl) ?_
  intro b_1 w_2 a H HP
  refine H.alloc HP 6 (fun b => (.pointer (some ⟨b, 0, none⟩))) 28 [(.int .i64 v.channel), (.int .i64 v.frame), (.int .i64 v.version), (.int .i64 v.item), (.int .i64 v.index), (.bool v.key), (.string (bstr v.data)), (.int .i64 v.regions), (.int .i64 v.gain), (.string (bstr v.caption)), (.int .i64 v.os), (.int .i64 v.of), (.slice v.A v.al.length v.c)] (by kernel_rfl) (fun w => by kernel_rfl) ?_
  intro b_3 w_4 a H HP
  refine H.val 8 (.bool false) (by kernel_rfl) (by kernel_rfl) ?_
  intro a H
  refine wpList_nil ?_
  refine then_normal ?_
  refine wp_seq ?_
  refine w_region ?_
  refine H.call 16 (by kernel_rfl) (Eq.trans (by kernel_rfl : _ = (callFunc 13 #[]).run Tryd.prog w_4) (Tryd.call13 _ _)) (sane_any w_4 (hL.below (HP.below (by kernel_rfl)))) ?_
  rintro e w_5 ⟨rfl, hb⟩
  refine ⟨_, rfl, ?_⟩
  intro a H
  have HP := HP.next hb
  refine H.val 9 (.bool true) (by kernel_rfl) (by kernel_rfl) ?_
  intro a H
  refine wpList_nil ?_
  refine then_normal ?_
  refine wp_seq ?_
  refine w_region ?_
  refine H.val 17 (.agg #[(.int .i64 u.channel), (.int .i64 u.frame), (.int .i64 u.version), (.int .i64 u.item), (.int .i64 u.index), (.bool u.key), (.string (bstr u.data)), (.int .i64 u.regions), (.int .i64 u.gain), (.string (bstr u.caption)), (.int .i64 u.os), (.int .i64 u.of), (.slice u.A u.al.length u.c)]) (by kernel_rfl) (ex_loadN (vs := [(.int .i64 u.channel), (.int .i64 u.frame), (.int .i64 u.version), (.int .i64 u.item), (.int .i64 u.index), (.bool u.key), (.string (bstr u.data)), (.int .i64 u.regions), (.int .i64 u.gain), (.string (bstr u.caption)), (.int .i64 u.os), (.int .i64 u.of), (.slice u.A u.al.length u.c)]) (by kernel_rfl) (by kernel_rfl) (by kernel_rfl) rfl (HP.cells 1 rfl 0 13 (by kernel_rfl))) ?_
  intro a H
  refine H.call 18 (by kernel_rfl) (Eq.trans (by kernel_rfl : _ = (callFunc 15 #[(.agg #[(.int .i64 u.channel), (.int .i64 u.frame), (.int .i64 u.version), (.int .i64 u.item), (.int .i64 u.index), (.bool u.key), (.string (bstr u.data)), (.int .i64 u.regions), (.int .i64 u.gain), (.string (bstr u.caption)), (.int .i64 u.os), (.int .i64 u.of), (.slice u.A u.al.length u.c)])]).run Tryd.prog w_5) (Tryd.call15 _ _)) (short_anyU hU (short_any u w_5 (huu.below (HP.below (by kernel_rfl))) hcu hAu)) ?_
  rintro e w_6 ⟨Bu, cu, rfl, halu, hcau, hcbu, hccu, hfru, hb⟩
  refine ⟨_, rfl, ?_⟩
  intro a H
  have HP := (HP.next hb).keepF ⟨rowFp U.al.length Bu, fun w => IsAlts w Bu U.al.length U.al⟩ halu (fun _ _ h hk hs => ⟨h.1, h.2.keep hk hs⟩) (fun j hj => row_sep HP halu.2 hfru hj)
  refine H.store HP 1 b_1 0 13 28 [(.int .i64 u.channel), (.int .i64 u.frame), (.int .i64 u.version), (.int .i64 u.item), (.int .i64 u.index), (.bool u.key), (.string (bstr u.data)), (.int .i64 u.regions), (.int .i64 u.gain), (.string (bstr u.caption)), (.int .i64 u.os), (.int .i64 u.of), (.slice u.A u.al.length u.c)] true (.agg #[(.int .i64 U.channel), (.int .i64 U.frame), (.int .i64 U.version), (.int .i64 U.item), (.int .i64 U.index), (.bool U.key), (.string (bstr U.data)), (.int .i64 U.regions), (.int .i64 U.gain), (.string (bstr U.caption)), (.int .i64 U.os), (.int .i64 U.of), (.slice Bu U.al.length cu)]) [bx b_3 28 [(.int .i64 v.channel), (.int .i64 v.frame), (.int .i64 v.version), (.int .i64 v.item), (.int .i64 v.index), (.bool v.key), (.string (bstr v.data)), (.int .i64 v.regions), (.int .i64 v.gain), (.string (bstr v.caption)), (.int .i64 v.os), (.int .i64 v.of), (.slice v.A v.al.length v.c)] true, bx b_1 28 [(.int .i64 U.channel), (.int .i64 U.frame), (.int .i64 U.version), (.int .i64 U.item), (.int .i64 U.index), (.bool U.key), (.string (bstr U.data)), (.int .i64 U.regions), (.int .i64 U.gain), (.string (bstr U.caption)), (.int .i64 U.os), (.int .i64 U.of), (.slice Bu U.al.length cu)] true] (by kernel_rfl) (by kernel_rfl) (by kernel_rfl) rfl (by kernel_rfl) (by kernel_rfl) (by kernel_rfl) (by kernel_rfl) (by kernel_rfl) ?_
  intro w_7 a H HP
  refine wpList_nil ?_
  refine then_normal ?_
  refine wp_seq ?_
  refine w_region ?_
  refine H.val 19 (.agg #[(.int .i64 v.channel), (.int .i64 v.frame), (.int .i64 v.version), (.int .i64 v.item), (.int .i64 v.index), (.bool v.key), (.string (bstr v.data)), (.int .i64 v.regions), (.int .i64 v.gain), (.string (bstr v.caption)), (.int .i64 v.os), (.int .i64 v.of), (.slice v.A v.al.length v.c)]) (by kernel_rfl) (ex_loadN (vs := [(.int .i64 v.channel), (.int .i64 v.frame), (.int .i64 v.version), (.int .i64 v.item), (.int .i64 v.index), (.bool v.key), (.string (bstr v.data)), (.int .i64 v.regions), (.int .i64 v.gain), (.string (bstr v.caption)), (.int .i64 v.os), (.int .i64 v.of), (.slice v.A v.al.length v.c)]) (by kernel_rfl) (by kernel_rfl) (by kernel_rfl) rfl (HP.cells 0 rfl 0 13 (by kernel_rfl))) ?_
  intro a H
  refine H.call 20 (by kernel_rfl) (Eq.trans (by kernel_rfl : _ = (callFunc 15 #[(.agg #[(.int .i64 v.channel), (.int .i64 v.frame), (.int .i64 v.version), (.int .i64 v.item), (.int .i64 v.index), (.bool v.key), (.string (bstr v.data)), (.int .i64 v.regions), (.int .i64 v.gain), (.string (bstr v.caption)), (.int .i64 v.os), (.int .i64 v.of), (.slice v.A v.al.length v.c)])]).run Tryd.prog w_7) (Tryd.call15 _ _)) (short_anyU hV (short_any v w_7 (huv.below (HP.below (by kernel_rfl))) hcv hAv)) ?_
  rintro e w_8 ⟨Bv, cv, rfl, halv, hcav, hcbv, hccv, hfrv, hb⟩
  refine ⟨_, rfl, ?_⟩
  intro a H
  have HP := (HP.next hb).keepF ⟨rowFp V.al.length Bv, fun w => IsAlts w Bv V.al.length V.al⟩ halv (fun _ _ h hk hs => ⟨h.1, h.2.keep hk hs⟩) (fun j hj => row_sep HP halv.2 hfrv hj)
  refine H.store HP 0 b_3 0 13 28 [(.int .i64 v.channel), (.int .i64 v.frame), (.int .i64 v.version), (.int .i64 v.item), (.int .i64 v.index), (.bool v.key), (.string (bstr v.data)), (.int .i64 v.regions), (.int .i64 v.gain), (.string (bstr v.caption)), (.int .i64 v.os), (.int .i64 v.of), (.slice v.A v.al.length v.c)] true (.agg #[(.int .i64 V.channel), (.int .i64 V.frame), (.int .i64 V.version), (.int .i64 V.item), (.int .i64 V.index), (.bool V.key), (.string (bstr V.data)), (.int .i64 V.regions), (.int .i64 V.gain), (.string (bstr V.caption)), (.int .i64 V.os), (.int .i64 V.of), (.slice Bv V.al.length cv)]) [bx b_3 28 [(.int .i64 V.channel), (.int .i64 V.frame), (.int .i64 V.version), (.int .i64 V.item), (.int .i64 V.index), (.bool V.key), (.string (bstr V.data)), (.int .i64 V.regions), (.int .i64 V.gain), (.string (bstr V.caption)), (.int .i64 V.os), (.int .i64 V.of), (.slice Bv V.al.length cv)] true, bx b_1 28 [(.int .i64 U.channel), (.int .i64 U.frame), (.int .i64 U.version), (.int .i64 U.item), (.int .i64 U.index), (.bool U.key), (.string (bstr U.data)), (.int .i64 U.regions), (.int .i64 U.gain), (.string (bstr U.caption)), (.int .i64 U.os), (.int .i64 U.of), (.slice Bu U.al.length cu)] true] (by kernel_rfl) (by kernel_rfl) (by kernel_rfl) rfl (by kernel_rfl) (by kernel_rfl) (by kernel_rfl) (by kernel_rfl) (by kernel_rfl) ?_
  intro w_9 a H HP
  refine wpList_nil ?_
  refine then_normal ?_
  refine wp_seq ?_
  refine w_region ?_
  refine H.val 21 (.pointer (some ⟨b_1, 0, none⟩)) (by kernel_rfl) (by kernel_rfl) ?_
  intro a H
  refine H.val 22 (.int .i64 U.channel) (by kernel_rfl) (ex_load1 (by kernel_rfl) (by kernel_rfl) (HP.cell 1 rfl 0 rfl)) ?_
  intro a H
  refine H.val 23 (.pointer (some ⟨b_3, 0, none⟩)) (by kernel_rfl) (by kernel_rfl) ?_
  intro a H
  refine H.store HP 0 b_3 0 1 28 [(.int .i64 V.channel), (.int .i64 V.frame), (.int .i64 V.version), (.int .i64 V.item), (.int .i64 V.index), (.bool V.key), (.string (bstr V.data)), (.int .i64 V.regions), (.int .i64 V.gain), (.string (bstr V.caption)), (.int .i64 V.os), (.int .i64 V.of), (.slice Bv V.al.length cv)] true (.int .i64 U.channel) [bx b_3 28 [(.int .i64 U.channel), (.int .i64 V.frame), (.int .i64 V.version), (.int .i64 V.item), (.int .i64 V.index), (.bool V.key), (.string (bstr V.data)), (.int .i64 V.regions), (.int .i64 V.gain), (.string (bstr V.caption)), (.int .i64 V.os), (.int .i64 V.of), (.slice Bv V.al.length cv)] true, bx b_1 28 [(.int .i64 U.channel), (.int .i64 U.frame), (.int .i64 U.version), (.int .i64 U.item), (.int .i64 U.index), (.bool U.key), (.string (bstr U.data)), (.int .i64 U.regions), (.int .i64 U.gain), (.string (bstr U.caption)), (.int .i64 U.os), (.int .i64 U.of), (.slice Bu U.al.length cu)] true] (by kernel_rfl) (by kernel_rfl) (by kernel_rfl) rfl (by kernel_rfl) (by kernel_rfl) (by kernel_rfl) (by kernel_rfl) (by kernel_rfl) ?_
  intro w_10 a H HP
  refine wpList_nil ?_
  refine then_normal ?_
  refine wp_seq ?_
  refine w_region ?_
  refine H.val 24 (.pointer (some ⟨b_1, 1, none⟩)) (by kernel_rfl) (by kernel_rfl) ?_
  intro a H
  refine H.val 25 (.int .i64 U.frame) (by kernel_rfl) (ex_load1 (by kernel_rfl) (by kernel_rfl) (HP.cell 1 rfl 1 rfl)) ?_
  intro a H
  refine H.val 26 (.int .i64 (IntKind.i64.wrap (U.frame + 1))) (by kernel_rfl) (by kernel_rfl) ?_
  intro a H
  refine H.val 27 (.pointer (some ⟨b_3, 1, none⟩)) (by kernel_rfl) (by kernel_rfl) ?_
  intro a H
  refine H.store HP 0 b_3 1 1 28 [(.int .i64 U.channel), (.int .i64 V.frame), (.int .i64 V.version), (.int .i64 V.item), (.int .i64 V.index), (.bool V.key), (.string (bstr V.data)), (.int .i64 V.regions), (.int .i64 V.gain), (.string (bstr V.caption)), (.int .i64 V.os), (.int .i64 V.of), (.slice Bv V.al.length cv)] true (.int .i64 (IntKind.i64.wrap (U.frame + 1))) [bx b_3 28 [(.int .i64 U.channel), (.int .i64 (IntKind.i64.wrap (U.frame + 1))), (.int .i64 V.version), (.int .i64 V.item), (.int .i64 V.index), (.bool V.key), (.string (bstr V.data)), (.int .i64 V.regions), (.int .i64 V.gain), (.string (bstr V.caption)), (.int .i64 V.os), (.int .i64 V.of), (.slice Bv V.al.length cv)] true, bx b_1 28 [(.int .i64 U.channel), (.int .i64 U.frame), (.int .i64 U.version), (.int .i64 U.item), (.int .i64 U.index), (.bool U.key), (.string (bstr U.data)), (.int .i64 U.regions), (.int .i64 U.gain), (.string (bstr U.caption)), (.int .i64 U.os), (.int .i64 U.of), (.slice Bu U.al.length cu)] true] (by kernel_rfl) (by kernel_rfl) (by kernel_rfl) rfl (by kernel_rfl) (by kernel_rfl) (by kernel_rfl) (by kernel_rfl) (by kernel_rfl) ?_
  intro w_11 a H HP
  refine wpList_nil ?_
  refine then_normal ?_
  refine w_cut (fun a wv => Sl 100 [(10, (.string (bstr ([])))), (11, (.int .i64 180)), (9, (.bool true)), (8, (.bool false)), (6, (.pointer (some ⟨b_3, 0, none⟩))), (0, (.int .i64 c)), (3, (.bool true))] a ∧ Hp w wv [bx b_3 28 [(.int .i64 U.channel), (.int .i64 (IntKind.i64.wrap (U.frame + 1))), (.int .i64 V.version), (.int .i64 V.item), (.int .i64 V.index), (.bool V.key), (.string (bstr V.data)), (.int .i64 V.regions), (.int .i64 V.gain), (.string (bstr V.caption)), (.int .i64 V.os), (.int .i64 V.of), (.slice Bv V.al.length cv)] true, bx b_1 28 [(.int .i64 U.channel), (.int .i64 U.frame), (.int .i64 U.version), (.int .i64 U.item), (.int .i64 U.index), (.bool U.key), (.string (bstr U.data)), (.int .i64 U.regions), (.int .i64 U.gain), (.string (bstr U.caption)), (.int .i64 U.os), (.int .i64 U.of), (.slice Bu U.al.length cu)] true] [⟨rowFp V.al.length Bv, fun w => IsAlts w Bv V.al.length V.al⟩, ⟨rowFp U.al.length Bu, fun w => IsAlts w Bu U.al.length U.al⟩]) ?_ ?_
  ·
    refine An.start (fun v => Hp w v [bx b_3 28 [(.int .i64 U.channel), (.int .i64 (IntKind.i64.wrap (U.frame + 1))), (.int .i64 V.version), (.int .i64 V.item), (.int .i64 V.index), (.bool V.key), (.string (bstr V.data)), (.int .i64 V.regions), (.int .i64 V.gain), (.string (bstr V.caption)), (.int .i64 V.os), (.int .i64 V.of), (.slice Bv V.al.length cv)] true, bx b_1 28 [(.int .i64 U.channel), (.int .i64 U.frame), (.int .i64 U.version), (.int .i64 U.item), (.int .i64 U.index), (.bool U.key), (.string (bstr U.data)), (.int .i64 U.regions), (.int .i64 U.gain), (.string (bstr U.caption)), (.int .i64 U.os), (.int .i64 U.of), (.slice Bu U.al.length cu)] true] [⟨rowFp V.al.length Bv, fun w => IsAlts w Bv V.al.length V.al⟩, ⟨rowFp U.al.length Bu, fun w => IsAlts w Bu U.al.length U.al⟩]) 9 9 HP wide_follows rfl ?_
    intro w_12 HP
    refine An.pure H (.inr (HP)) 0 29 (.int .i64 c) rfl (by kernel_rfl) (by kernel_rfl) (fun _ _ _ h => h) (fun _ => by kernel_rfl) ?_
    intro a H
    refine An.val H (HP) 2 31 (.agg #[(.int .i64 U.channel), (.int .i64 U.frame), (.int .i64 U.version), (.int .i64 U.item), (.int .i64 U.index), (.bool U.key), (.string (bstr U.data)), (.int .i64 U.regions), (.int .i64 U.gain), (.string (bstr U.caption)), (.int .i64 U.os), (.int .i64 U.of), (.slice Bu U.al.length cu)]) rfl (by kernel_rfl) (by kernel_rfl) (fun _ _ _ h => h) (fun _ hS => ex_loadN (vs := [(.int .i64 U.channel), (.int .i64 U.frame), (.int .i64 U.version), (.int .i64 U.item), (.int .i64 U.index), (.bool U.key), (.string (bstr U.data)), (.int .i64 U.regions), (.int .i64 U.gain), (.string (bstr U.caption)), (.int .i64 U.os), (.int .i64 U.of), (.slice Bu U.al.length cu)]) (by kernel_rfl) (by kernel_rfl) (by kernel_rfl) rfl (hS.cells 1 rfl 0 13 (by kernel_rfl))) ?_
    intro a H
    refine An.one 1 (by kernel_rfl) ?_
    refine Op.call H 30 rfl (by kernel_rfl) (Eq.trans (by kernel_rfl : _ = (callFunc 14 #[(.int .i64 c)]).run Tryd.prog w_12) (Tryd.call14 _ _)) (rate_any c w_12 hc) ?_
    rintro e w_13 ⟨rfl, hb⟩
    refine ⟨_, rfl, ?_⟩
    intro a H
    have HP := HP.next hb
    refine ⟨.inr (HP), ?_⟩
    refine An.one 3 (by kernel_rfl) ?_
    refine Op.call H 32 rfl (by kernel_rfl) (Eq.trans (by kernel_rfl : _ = (callFunc 16 #[(.agg #[(.int .i64 ((rateP c).1)), (.int .i64 ((rateP c).2))]), (.agg #[(.int .i64 U.channel), (.int .i64 U.frame), (.int .i64 U.version), (.int .i64 U.item), (.int .i64 U.index), (.bool U.key), (.string (bstr U.data)), (.int .i64 U.regions), (.int .i64 U.gain), (.string (bstr U.caption)), (.int .i64 U.os), (.int .i64 U.of), (.slice Bu U.al.length cu)])]).run Tryd.prog w_13) (Tryd.call16 _ _)) ((by have hh := pack_any ((rateP c).1) ((rateP c).2) (⟨U.channel, U.frame, U.version, U.item, U.index, U.key, U.data, U.regions, U.gain, U.caption, U.os, U.of, Bu, cu, U.al⟩ : Un) w_13 (hL.below (HP.below (by kernel_rfl))) (HP.fact 1 rfl) (Nat.le_trans hcau hcbu); rw [hZu Bu cu] at hh; exact hh)) ?_
    rintro e w_14 ⟨rfl, hb⟩
    refine ⟨_, rfl, ?_⟩
    intro a H
    have HP := HP.next hb
    refine ⟨.inr (HP), ?_⟩
    refine An.pure H (.inr (HP)) 4 28 (.tuple #[(.string (bstr ([]))), (.int .i64 180)]) rfl (by kernel_rfl) (by kernel_rfl) (fun _ _ _ h => h) (fun _ => by kernel_rfl) ?_
    intro a H
    refine An.pure H (.inr (HP)) 5 33 (.string (bstr ([]))) rfl (by kernel_rfl) (by kernel_rfl) (fun _ _ _ h => h) (fun _ => by kernel_rfl) ?_
    intro a H
    refine An.pure H (.inr (HP)) 6 34 (.int .i64 180) rfl (by kernel_rfl) (by kernel_rfl) (fun _ _ _ h => h) (fun _ => by kernel_rfl) ?_
    intro a H
    refine An.pure H (.inr (HP)) 7 10 (.string (bstr ([]))) rfl (by kernel_rfl) (by kernel_rfl) (fun _ _ _ h => h) (fun _ => by kernel_rfl) ?_
    intro a H
    refine An.pure H (.inr (HP)) 8 11 (.int .i64 180) rfl (by kernel_rfl) (by kernel_rfl) (fun _ _ _ h => h) (fun _ => by kernel_rfl) ?_
    intro a H
    refine An.done (by kernel_rfl) ?_
    have H := H.keep (L' := [(11, (.int .i64 180)), (10, (.string (bstr ([])))), (27, (.pointer (some ⟨b_3, 1, none⟩))), (26, (.int .i64 (IntKind.i64.wrap (U.frame + 1)))), (25, (.int .i64 U.frame)), (24, (.pointer (some ⟨b_1, 1, none⟩))), (23, (.pointer (some ⟨b_3, 0, none⟩))), (22, (.int .i64 U.channel)), (21, (.pointer (some ⟨b_1, 0, none⟩))), (20, (.agg #[(.int .i64 V.channel), (.int .i64 V.frame), (.int .i64 V.version), (.int .i64 V.item), (.int .i64 V.index), (.bool V.key), (.string (bstr V.data)), (.int .i64 V.regions), (.int .i64 V.gain), (.string (bstr V.caption)), (.int .i64 V.os), (.int .i64 V.of), (.slice Bv V.al.length cv)])), (19, (.agg #[(.int .i64 v.channel), (.int .i64 v.frame), (.int .i64 v.version), (.int .i64 v.item), (.int .i64 v.index), (.bool v.key), (.string (bstr v.data)), (.int .i64 v.regions), (.int .i64 v.gain), (.string (bstr v.caption)), (.int .i64 v.os), (.int .i64 v.of), (.slice v.A v.al.length v.c)])), (18, (.agg #[(.int .i64 U.channel), (.int .i64 U.frame), (.int .i64 U.version), (.int .i64 U.item), (.int .i64 U.index), (.bool U.key), (.string (bstr U.data)), (.int .i64 U.regions), (.int .i64 U.gain), (.string (bstr U.caption)), (.int .i64 U.os), (.int .i64 U.of), (.slice Bu U.al.length cu)])), (17, (.agg #[(.int .i64 u.channel), (.int .i64 u.frame), (.int .i64 u.version), (.int .i64 u.item), (.int .i64 u.index), (.bool u.key), (.string (bstr u.data)), (.int .i64 u.regions), (.int .i64 u.gain), (.string (bstr u.caption)), (.int .i64 u.os), (.int .i64 u.of), (.slice u.A u.al.length u.c)])), (9, (.bool true)), (16, (.bool true)), (8, (.bool false)), (6, (.pointer (some ⟨b_3, 0, none⟩))), (5, (.pointer (some ⟨b_1, 0, none⟩))), (0, (.int .i64 c)), (1, (.agg #[(.int .i64 u.channel), (.int .i64 u.frame), (.int .i64 u.version), (.int .i64 u.item), (.int .i64 u.index), (.bool u.key), (.string (bstr u.data)), (.int .i64 u.regions), (.int .i64 u.gain), (.string (bstr u.caption)), (.int .i64 u.os), (.int .i64 u.of), (.slice u.A u.al.length u.c)])), (2, (.agg #[(.int .i64 v.channel), (.int .i64 v.frame), (.int .i64 v.version), (.int .i64 v.item), (.int .i64 v.index), (.bool v.key), (.string (bstr v.data)), (.int .i64 v.regions), (.int .i64 v.gain), (.string (bstr v.caption)), (.int .i64 v.os), (.int .i64 v.of), (.slice v.A v.al.length v.c)])), (3, (.bool true))]) (by kernel_rfl)
    refine then_normal ?_
    exact ⟨H.keep (by kernel_rfl), HP⟩
  ·
    rintro a w_15 ⟨H, HP⟩
    refine w_cut (fun a wv => Sl 100 [(12, (.string (bstr (Zv.getD [])))), (13, (.int .i64 (if Zv.isSome = true then 0 else 180 : Int))), (10, (.string (bstr ([])))), (11, (.int .i64 180)), (9, (.bool true)), (8, (.bool false)), (3, (.bool true))] a ∧ Hp w wv [bx b_3 28 [(.int .i64 U.channel), (.int .i64 (IntKind.i64.wrap (U.frame + 1))), (.int .i64 V.version), (.int .i64 V.item), (.int .i64 V.index), (.bool V.key), (.string (bstr V.data)), (.int .i64 V.regions), (.int .i64 V.gain), (.string (bstr V.caption)), (.int .i64 V.os), (.int .i64 V.of), (.slice Bv V.al.length cv)] true, bx b_1 28 [(.int .i64 U.channel), (.int .i64 U.frame), (.int .i64 U.version), (.int .i64 U.item), (.int .i64 U.index), (.bool U.key), (.string (bstr U.data)), (.int .i64 U.regions), (.int .i64 U.gain), (.string (bstr U.caption)), (.int .i64 U.os), (.int .i64 U.of), (.slice Bu U.al.length cu)] true] [⟨rowFp V.al.length Bv, fun w => IsAlts w Bv V.al.length V.al⟩, ⟨rowFp U.al.length Bu, fun w => IsAlts w Bu U.al.length U.al⟩]) ?_ ?_
    ·
      refine An.start (fun v => Hp w v [bx b_3 28 [(.int .i64 U.channel), (.int .i64 (IntKind.i64.wrap (U.frame + 1))), (.int .i64 V.version), (.int .i64 V.item), (.int .i64 V.index), (.bool V.key), (.string (bstr V.data)), (.int .i64 V.regions), (.int .i64 V.gain), (.string (bstr V.caption)), (.int .i64 V.os), (.int .i64 V.of), (.slice Bv V.al.length cv)] true, bx b_1 28 [(.int .i64 U.channel), (.int .i64 U.frame), (.int .i64 U.version), (.int .i64 U.item), (.int .i64 U.index), (.bool U.key), (.string (bstr U.data)), (.int .i64 U.regions), (.int .i64 U.gain), (.string (bstr U.caption)), (.int .i64 U.os), (.int .i64 U.of), (.slice Bu U.al.length cu)] true] [⟨rowFp V.al.length Bv, fun w => IsAlts w Bv V.al.length V.al⟩, ⟨rowFp U.al.length Bu, fun w => IsAlts w Bu U.al.length U.al⟩]) 9 9 HP wide_follows rfl ?_
      intro w_16 HP
      refine An.pure H (.inr (HP)) 0 36 (.int .i64 c) rfl (by kernel_rfl) (by kernel_rfl) (fun _ _ _ h => h) (fun _ => by kernel_rfl) ?_
      intro a H
      refine An.val H (HP) 2 38 (.agg #[(.int .i64 U.channel), (.int .i64 (IntKind.i64.wrap (U.frame + 1))), (.int .i64 V.version), (.int .i64 V.item), (.int .i64 V.index), (.bool V.key), (.string (bstr V.data)), (.int .i64 V.regions), (.int .i64 V.gain), (.string (bstr V.caption)), (.int .i64 V.os), (.int .i64 V.of), (.slice Bv V.al.length cv)]) rfl (by kernel_rfl) (by kernel_rfl) (fun _ _ _ h => h) (fun _ hS => ex_loadN (vs := [(.int .i64 U.channel), (.int .i64 (IntKind.i64.wrap (U.frame + 1))), (.int .i64 V.version), (.int .i64 V.item), (.int .i64 V.index), (.bool V.key), (.string (bstr V.data)), (.int .i64 V.regions), (.int .i64 V.gain), (.string (bstr V.caption)), (.int .i64 V.os), (.int .i64 V.of), (.slice Bv V.al.length cv)]) (by kernel_rfl) (by kernel_rfl) (by kernel_rfl) rfl (hS.cells 0 rfl 0 13 (by kernel_rfl))) ?_
      intro a H
      refine An.one 1 (by kernel_rfl) ?_
      refine Op.call H 37 rfl (by kernel_rfl) (Eq.trans (by kernel_rfl : _ = (callFunc 14 #[(.int .i64 c)]).run Tryd.prog w_16) (Tryd.call14 _ _)) (rate_any c w_16 hc) ?_
      rintro e w_17 ⟨rfl, hb⟩
      refine ⟨_, rfl, ?_⟩
      intro a H
      have HP := HP.next hb
      refine ⟨.inr (HP), ?_⟩
      refine An.one 3 (by kernel_rfl) ?_
      refine Op.call H 39 rfl (by kernel_rfl) (Eq.trans (by kernel_rfl : _ = (callFunc 16 #[(.agg #[(.int .i64 ((rateP c).1)), (.int .i64 ((rateP c).2))]), (.agg #[(.int .i64 U.channel), (.int .i64 (IntKind.i64.wrap (U.frame + 1))), (.int .i64 V.version), (.int .i64 V.item), (.int .i64 V.index), (.bool V.key), (.string (bstr V.data)), (.int .i64 V.regions), (.int .i64 V.gain), (.string (bstr V.caption)), (.int .i64 V.os), (.int .i64 V.of), (.slice Bv V.al.length cv)])]).run Tryd.prog w_17) (Tryd.call16 _ _)) ((by have hh := pack_any ((rateP c).1) ((rateP c).2) (⟨U.channel, IntKind.i64.wrap (U.frame + 1), V.version, V.item, V.index, V.key, V.data, V.regions, V.gain, V.caption, V.os, V.of, Bv, cv, V.al⟩ : Un) w_17 (hL.below (HP.below (by kernel_rfl))) (HP.fact 0 rfl) (Nat.le_trans hcav hcbv); rw [hZv Bv cv, packV_eq] at hh; exact hh)) ?_
      rintro e w_18 ⟨rfl, hb⟩
      refine ⟨_, rfl, ?_⟩
      intro a H
      have HP := HP.next hb
      refine ⟨.inr (HP), ?_⟩
      refine An.pure H (.inr (HP)) 4 35 (.tuple #[(.string (bstr (Zv.getD []))), (.int .i64 (if Zv.isSome = true then 0 else 180 : Int))]) rfl (by kernel_rfl) (by kernel_rfl) (fun _ _ _ h => h) (fun _ => by kernel_rfl) ?_
      intro a H
      refine An.pure H (.inr (HP)) 5 40 (.string (bstr (Zv.getD []))) rfl (by kernel_rfl) (by kernel_rfl) (fun _ _ _ h => h) (fun _ => by kernel_rfl) ?_
      intro a H
      refine An.pure H (.inr (HP)) 6 41 (.int .i64 (if Zv.isSome = true then 0 else 180 : Int)) rfl (by kernel_rfl) (by kernel_rfl) (fun _ _ _ h => h) (fun _ => by kernel_rfl) ?_
      intro a H
      refine An.pure H (.inr (HP)) 7 12 (.string (bstr (Zv.getD []))) rfl (by kernel_rfl) (by kernel_rfl) (fun _ _ _ h => h) (fun _ => by kernel_rfl) ?_
      intro a H
      refine An.pure H (.inr (HP)) 8 13 (.int .i64 (if Zv.isSome = true then 0 else 180 : Int)) rfl (by kernel_rfl) (by kernel_rfl) (fun _ _ _ h => h) (fun _ => by kernel_rfl) ?_
      intro a H
      refine An.done (by kernel_rfl) ?_
      have H := H.keep (L' := [(13, (.int .i64 (if Zv.isSome = true then 0 else 180 : Int))), (12, (.string (bstr (Zv.getD [])))), (10, (.string (bstr ([])))), (11, (.int .i64 180)), (9, (.bool true)), (8, (.bool false)), (6, (.pointer (some ⟨b_3, 0, none⟩))), (0, (.int .i64 c)), (3, (.bool true))]) (by kernel_rfl)
      refine then_normal ?_
      exact ⟨H.keep (by kernel_rfl), HP⟩
    ·
      rintro a w_19 ⟨H, HP⟩
      refine wp_seq ?_
      refine wp_seq ?_
      refine w_region ?_
      refine H.val 42 (.int .i64 180) (by kernel_rfl) (by kernel_rfl) ?_
      intro a H
      refine H.val 43 (.bool true) (by kernel_rfl) (by kernel_rfl) ?_
      intro a H
      refine H.val 44 (.bool true) (by kernel_rfl) (by kernel_rfl) ?_
      intro a H
      refine H.skip 45 (by kernel_rfl) ?_
      intro a H
      refine H.skip 46 (by kernel_rfl) ?_
      intro a H
      refine H.val 47 (.bool true) (by kernel_rfl) (by kernel_rfl) ?_
      intro a H
      refine H.val 48 (.bool true) (by kernel_rfl) (by kernel_rfl) ?_
      intro a H
      refine H.skip 49 (by kernel_rfl) ?_
      intro a H
      refine H.skip 50 (by kernel_rfl) ?_
      intro a H
      refine H.skip 51 (by kernel_rfl) ?_
      intro a H
      refine H.val 52 (.bool true) (by kernel_rfl) (by kernel_rfl) ?_
      intro a H
      refine H.val 53 (.bool true) (by kernel_rfl) (by kernel_rfl) ?_
      intro a H
      refine H.skip 54 (by kernel_rfl) ?_
      intro a H
      refine H.skip 55 (by kernel_rfl) ?_
      intro a H
      refine H.skip 56 (by kernel_rfl) ?_
      intro a H
      refine H.val 57 (.bool true) (by kernel_rfl) (by kernel_rfl) ?_
      intro a H
      refine wpList_nil ?_
      have H := H.keep (L' := [(57, (.bool true)), (12, (.string (bstr (Zv.getD [])))), (13, (.int .i64 (if Zv.isSome = true then 0 else 180 : Int))), (10, (.string (bstr ([])))), (11, (.int .i64 180)), (9, (.bool true)), (8, (.bool false)), (3, (.bool true))]) (by kernel_rfl)
      refine then_normal ?_
      refine w_ift H rfl ?_
      refine wp_seq ?_
      refine w_region ?_
      refine H.val 58 (.bool true) (by kernel_rfl) (by kernel_rfl) ?_
      intro a H
      refine H.val 59 (.bool true) (by kernel_rfl) (by kernel_rfl) ?_
      intro a H
      refine H.val 60 (.int .i64 180) (by kernel_rfl) (by kernel_rfl) ?_
      intro a H
      refine H.val 61 (.bool true) (by kernel_rfl) (by kernel_rfl) ?_
      intro a H
      refine H.val 62 (.bool true) (by kernel_rfl) (by kernel_rfl) ?_
      intro a H
      refine H.skip 63 (by kernel_rfl) ?_
      intro a H
      refine H.skip 64 (by kernel_rfl) ?_
      intro a H
      refine H.val 65 (.bool true) (by kernel_rfl) (by kernel_rfl) ?_
      intro a H
      refine H.val 66 (.bool true) (by kernel_rfl) (by kernel_rfl) ?_
      intro a H
      refine H.val 8 (.bool true) (by kernel_rfl) (by kernel_rfl) ?_
      intro a H
      refine wpList_nil ?_
      have H := H.keep (L' := [(8, (.bool true)), (57, (.bool true)), (12, (.string (bstr (Zv.getD [])))), (13, (.int .i64 (if Zv.isSome = true then 0 else 180 : Int))), (10, (.string (bstr ([])))), (11, (.int .i64 180)), (9, (.bool true)), (3, (.bool true))]) (by kernel_rfl)
      refine then_normal ?_
      refine wp_ret ?_
      refine then_ret ?_
      refine H.ret1 (fn := Tryd.f12) Tryd.results12 (RV.tmp_ (v := (.bool true)) (by kernel_rfl)) ?_
      exact ⟨rfl, (HP.below (by kernel_rfl))⟩
set_option maxRecDepth 100000 in
set_option maxHeartbeats 4000000 in
theorem gap_tsn (c : Int) (u v U V : Un) (w : World) (hU : shortU u = U) (hV : shortU v = V) (hL : Laid w) (hc : -9223372036854775808 ≤ c ∧ c ≤ 9223372036854775807) (huu : IsAlts w u.A u.al.length u.al) (hcu : u.al.length ≤ u.c) (hAu : u.A = none → u.c = 0) (huv : IsAlts w v.A v.al.length v.al) (hcv : v.al.length ≤ v.c) (hAv : v.A = none → v.c = 0) (lu : List UInt8) (hZu : ∀ B c', packP (rateP c).1 (rateP c).2 ({ U with A := B, c := c' } : Un) = some lu) (hZv : ∀ B c', packP (rateP c).1 (rateP c).2 (⟨U.channel, IntKind.i64.wrap (U.frame + 1), V.version, V.item, V.index, V.key, V.data, V.regions, V.gain, V.caption, V.os, V.of, B, c', V.al⟩ : Un) = none) :
    Calls Tryd.prog 12 #[.int .i64 c, u.val, v.val, .bool true] w fun e w' => e = .returned (.bool true) ∧ Below w.heap.size w w' := by
  have HP := Hp.start w
  refine w_enter 100 [(0, (.int .i64 c)), (1, (.agg #[(.int .i64 u.channel), (.int .i64 u.frame), (.int .i64 u.version), (.int .i64 u.item), (.int .i64 u.index), (.bool u.key), (.string (bstr u.data)), (.int .i64 u.regions), (.int .i64 u.gain), (.string (bstr u.caption)), (.int .i64 u.os), (.int .i64 u.of), (.slice u.A u.al.length u.c)])), (2, (.agg #[(.int .i64 v.channel), (.int .i64 v.frame), (.int .i64 v.version), (.int .i64 v.item), (.int .i64 v.index), (.bool v.key), (.string (bstr v.data)), (.int .i64 v.regions), (.int .i64 v.gain), (.string (bstr v.caption)), (.int .i64 v.os), (.int .i64 v.of), (.slice v.A v.al.length v.c)])), (3, (.bool true))] Tryd.func12 rfl Tryd.ntmps12 (by kernel_rfl) (by kernel_rfl) ?_
  intro a H
  refine wp_seq ?_
  refine w_region ?_
  refine H.alloc HP 5 (fun b => (.pointer (some ⟨b, 0, none⟩))) 28 [(.int .i64 u.channel), (.int .i64 u.frame), (.int .i64 u.version), (.int .i64 u.item), (.int .i64 u.index), (.bool u.key), (.string (bstr u.data)), (.int .i64 u.regions), (.int .i64 u.gain), (.string (bstr u.caption)), (.int .i64 u.os), (.int .i64 u.of), (.slice u.A u.al.length u.c)] (by kernel_rfl) (fun w => by kernel_rfl) ?_
  intro b_1 w_2 a H HP
  refine H.alloc HP 6 (fun b => (.pointer (some ⟨b, 0, none⟩))) 28 [(.int .i64 v.channel), (.int .i64 v.frame), (.int .i64 v.version), (.int .i64 v.item), (.int .i64 v.index), (.bool v.key), (.string (bstr v.data)), (.int .i64 v.regions), (.int .i64 v.gain), (.string (bstr v.caption)), (.int .i64 v.os), (.int .i64 v.of), (.slice v.A v.al.length v.c)] (by kernel_rfl) (fun w => by kernel_rfl) ?_
  intro b_3 w_4 a H HP
  refine H.val 8 (.bool false) (by kernel_rfl) (by kernel_rfl) ?_
  intro a H
  refine wpList_nil ?_
  refine then_normal ?_
  refine wp_seq ?_
  refine w_region ?_
  refine H.call 16 (by kernel_rfl) (Eq.trans (by kernel_rfl : _ = (callFunc 13 #[]).run Tryd.prog w_4) (Tryd.call13 _ _)) (sane_any w_4 (hL.below (HP.below (by kernel_rfl)))) ?_
  rintro e w_5 ⟨rfl, hb⟩
  refine ⟨_, rfl, ?_⟩
  intro a H
  have HP := HP.next hb
  refine H.val 9 (.bool true) (by kernel_rfl) (by kernel_rfl) ?_
  intro a H
  refine wpList_nil ?_
  refine then_normal ?_
  refine wp_seq ?_
  refine w_region ?_
  refine H.val 17 (.agg #[(.int .i64 u.channel), (.int .i64 u.frame), (.int .i64 u.version), (.int .i64 u.item), (.int .i64 u.index), (.bool u.key), (.string (bstr u.data)), (.int .i64 u.regions), (.int .i64 u.gain), (.string (bstr u.caption)), (.int .i64 u.os), (.int .i64 u.of), (.slice u.A u.al.length u.c)]) (by kernel_rfl) (ex_loadN (vs := [(.int .i64 u.channel), (.int .i64 u.frame), (.int .i64 u.version), (.int .i64 u.item), (.int .i64 u.index), (.bool u.key), (.string (bstr u.data)), (.int .i64 u.regions), (.int .i64 u.gain), (.string (bstr u.caption)), (.int .i64 u.os), (.int .i64 u.of), (.slice u.A u.al.length u.c)]) (by kernel_rfl) (by kernel_rfl) (by kernel_rfl) rfl (HP.cells 1 rfl 0 13 (by kernel_rfl))) ?_
  intro a H
  refine H.call 18 (by kernel_rfl) (Eq.trans (by kernel_rfl : _ = (callFunc 15 #[(.agg #[(.int .i64 u.channel), (.int .i64 u.frame), (.int .i64 u.version), (.int .i64 u.item), (.int .i64 u.index), (.bool u.key), (.string (bstr u.data)), (.int .i64 u.regions), (.int .i64 u.gain), (.string (bstr u.caption)), (.int .i64 u.os), (.int .i64 u.of), (.slice u.A u.al.length u.c)])]).run Tryd.prog w_5) (Tryd.call15 _ _)) (short_anyU hU (short_any u w_5 (huu.below (HP.below (by kernel_rfl))) hcu hAu)) ?_
  rintro e w_6 ⟨Bu, cu, rfl, halu, hcau, hcbu, hccu, hfru, hb⟩
  refine ⟨_, rfl, ?_⟩
  intro a H
  have HP := (HP.next hb).keepF ⟨rowFp U.al.length Bu, fun w => IsAlts w Bu U.al.length U.al⟩ halu (fun _ _ h hk hs => ⟨h.1, h.2.keep hk hs⟩) (fun j hj => row_sep HP halu.2 hfru hj)
  refine H.store HP 1 b_1 0 13 28 [(.int .i64 u.channel), (.int .i64 u.frame), (.int .i64 u.version), (.int .i64 u.item), (.int .i64 u.index), (.bool u.key), (.string (bstr u.data)), (.int .i64 u.regions), (.int .i64 u.gain), (.string (bstr u.caption)), (.int .i64 u.os), (.int .i64 u.of), (.slice u.A u.al.length u.c)] true (.agg #[(.int .i64 U.channel), (.int .i64 U.frame), (.int .i64 U.version), (.int .i64 U.item), (.int .i64 U.index), (.bool U.key), (.string (bstr U.data)), (.int .i64 U.regions), (.int .i64 U.gain), (.string (bstr U.caption)), (.int .i64 U.os), (.int .i64 U.of), (.slice Bu U.al.length cu)]) [bx b_3 28 [(.int .i64 v.channel), (.int .i64 v.frame), (.int .i64 v.version), (.int .i64 v.item), (.int .i64 v.index), (.bool v.key), (.string (bstr v.data)), (.int .i64 v.regions), (.int .i64 v.gain), (.string (bstr v.caption)), (.int .i64 v.os), (.int .i64 v.of), (.slice v.A v.al.length v.c)] true, bx b_1 28 [(.int .i64 U.channel), (.int .i64 U.frame), (.int .i64 U.version), (.int .i64 U.item), (.int .i64 U.index), (.bool U.key), (.string (bstr U.data)), (.int .i64 U.regions), (.int .i64 U.gain), (.string (bstr U.caption)), (.int .i64 U.os), (.int .i64 U.of), (.slice Bu U.al.length cu)] true] (by kernel_rfl) (by kernel_rfl) (by kernel_rfl) rfl (by kernel_rfl) (by kernel_rfl) (by kernel_rfl) (by kernel_rfl) (by kernel_rfl) ?_
  intro w_7 a H HP
  refine wpList_nil ?_
  refine then_normal ?_
  refine wp_seq ?_
  refine w_region ?_
  refine H.val 19 (.agg #[(.int .i64 v.channel), (.int .i64 v.frame), (.int .i64 v.version), (.int .i64 v.item), (.int .i64 v.index), (.bool v.key), (.string (bstr v.data)), (.int .i64 v.regions), (.int .i64 v.gain), (.string (bstr v.caption)), (.int .i64 v.os), (.int .i64 v.of), (.slice v.A v.al.length v.c)]) (by kernel_rfl) (ex_loadN (vs := [(.int .i64 v.channel), (.int .i64 v.frame), (.int .i64 v.version), (.int .i64 v.item), (.int .i64 v.index), (.bool v.key), (.string (bstr v.data)), (.int .i64 v.regions), (.int .i64 v.gain), (.string (bstr v.caption)), (.int .i64 v.os), (.int .i64 v.of), (.slice v.A v.al.length v.c)]) (by kernel_rfl) (by kernel_rfl) (by kernel_rfl) rfl (HP.cells 0 rfl 0 13 (by kernel_rfl))) ?_
  intro a H
  refine H.call 20 (by kernel_rfl) (Eq.trans (by kernel_rfl : _ = (callFunc 15 #[(.agg #[(.int .i64 v.channel), (.int .i64 v.frame), (.int .i64 v.version), (.int .i64 v.item), (.int .i64 v.index), (.bool v.key), (.string (bstr v.data)), (.int .i64 v.regions), (.int .i64 v.gain), (.string (bstr v.caption)), (.int .i64 v.os), (.int .i64 v.of), (.slice v.A v.al.length v.c)])]).run Tryd.prog w_7) (Tryd.call15 _ _)) (short_anyU hV (short_any v w_7 (huv.below (HP.below (by kernel_rfl))) hcv hAv)) ?_
  rintro e w_8 ⟨Bv, cv, rfl, halv, hcav, hcbv, hccv, hfrv, hb⟩
  refine ⟨_, rfl, ?_⟩
  intro a H
  have HP := (HP.next hb).keepF ⟨rowFp V.al.length Bv, fun w => IsAlts w Bv V.al.length V.al⟩ halv (fun _ _ h hk hs => ⟨h.1, h.2.keep hk hs⟩) (fun j hj => row_sep HP halv.2 hfrv hj)
  refine H.store HP 0 b_3 0 13 28 [(.int .i64 v.channel), (.int .i64 v.frame), (.int .i64 v.version), (.int .i64 v.item), (.int .i64 v.index), (.bool v.key), (.string (bstr v.data)), (.int .i64 v.regions), (.int .i64 v.gain), (.string (bstr v.caption)), (.int .i64 v.os), (.int .i64 v.of), (.slice v.A v.al.length v.c)] true (.agg #[(.int .i64 V.channel), (.int .i64 V.frame), (.int .i64 V.version), (.int .i64 V.item), (.int .i64 V.index), (.bool V.key), (.string (bstr V.data)), (.int .i64 V.regions), (.int .i64 V.gain), (.string (bstr V.caption)), (.int .i64 V.os), (.int .i64 V.of), (.slice Bv V.al.length cv)]) [bx b_3 28 [(.int .i64 V.channel), (.int .i64 V.frame), (.int .i64 V.version), (.int .i64 V.item), (.int .i64 V.index), (.bool V.key), (.string (bstr V.data)), (.int .i64 V.regions), (.int .i64 V.gain), (.string (bstr V.caption)), (.int .i64 V.os), (.int .i64 V.of), (.slice Bv V.al.length cv)] true, bx b_1 28 [(.int .i64 U.channel), (.int .i64 U.frame), (.int .i64 U.version), (.int .i64 U.item), (.int .i64 U.index), (.bool U.key), (.string (bstr U.data)), (.int .i64 U.regions), (.int .i64 U.gain), (.string (bstr U.caption)), (.int .i64 U.os), (.int .i64 U.of), (.slice Bu U.al.length cu)] true] (by kernel_rfl) (by kernel_rfl) (by kernel_rfl) rfl (by kernel_rfl) (by kernel_rfl) (by kernel_rfl) (by kernel_rfl) (by kernel_rfl) ?_
  intro w_9 a H HP
  refine wpList_nil ?_
  refine then_normal ?_
  refine wp_seq ?_
  refine w_region ?_
  refine H.val 21 (.pointer (some ⟨b_1, 0, none⟩)) (by kernel_rfl) (by kernel_rfl) ?_
  intro a H
  refine H.val 22 (.int .i64 U.channel) (by kernel_rfl) (ex_load1 (by kernel_rfl) (by kernel_rfl) (HP.cell 1 rfl 0 rfl)) ?_
  intro a H
  refine H.val 23 (.pointer (some ⟨b_3, 0, none⟩)) (by kernel_rfl) (by kernel_rfl) ?_
  intro a H
  refine H.store HP 0 b_3 0 1 28 [(.int .i64 V.channel), (.int .i64 V.frame), (.int .i64 V.version), (.int .i64 V.item), (.int .i64 V.index), (.bool V.key), (.string (bstr V.data)), (.int .i64 V.regions), (.int .i64 V.gain), (.string (bstr V.caption)), (.int .i64 V.os), (.int .i64 V.of), (.slice Bv V.al.length cv)] true (.int .i64 U.channel) [bx b_3 28 [(.int .i64 U.channel), (.int .i64 V.frame), (.int .i64 V.version), (.int .i64 V.item), (.int .i64 V.index), (.bool V.key), (.string (bstr V.data)), (.int .i64 V.regions), (.int .i64 V.gain), (.string (bstr V.caption)), (.int .i64 V.os), (.int .i64 V.of), (.slice Bv V.al.length cv)] true, bx b_1 28 [(.int .i64 U.channel), (.int .i64 U.frame), (.int .i64 U.version), (.int .i64 U.item), (.int .i64 U.index), (.bool U.key), (.string (bstr U.data)), (.int .i64 U.regions), (.int .i64 U.gain), (.string (bstr U.caption)), (.int .i64 U.os), (.int .i64 U.of), (.slice Bu U.al.length cu)] true] (by kernel_rfl) (by kernel_rfl) (by kernel_rfl) rfl (by kernel_rfl) (by kernel_rfl) (by kernel_rfl) (by kernel_rfl) (by kernel_rfl) ?_
  intro w_10 a H HP
  refine wpList_nil ?_
  refine then_normal ?_
  refine wp_seq ?_
  refine w_region ?_
  refine H.val 24 (.pointer (some ⟨b_1, 1, none⟩)) (by kernel_rfl) (by kernel_rfl) ?_
  intro a H
  refine H.val 25 (.int .i64 U.frame) (by kernel_rfl) (ex_load1 (by kernel_rfl) (by kernel_rfl) (HP.cell 1 rfl 1 rfl)) ?_
  intro a H
  refine H.val 26 (.int .i64 (IntKind.i64.wrap (U.frame + 1))) (by kernel_rfl) (by kernel_rfl) ?_
  intro a H
  refine H.val 27 (.pointer (some ⟨b_3, 1, none⟩)) (by kernel_rfl) (by kernel_rfl) ?_
  intro a H
  refine H.store HP 0 b_3 1 1 28 [(.int .i64 U.channel), (.int .i64 V.frame), (.int .i64 V.version), (.int .i64 V.item), (.int .i64 V.index), (.bool V.key), (.string (bstr V.data)), (.int .i64 V.regions), (.int .i64 V.gain), (.string (bstr V.caption)), (.int .i64 V.os), (.int .i64 V.of), (.slice Bv V.al.length cv)] true (.int .i64 (IntKind.i64.wrap (U.frame + 1))) [bx b_3 28 [(.int .i64 U.channel), (.int .i64 (IntKind.i64.wrap (U.frame + 1))), (.int .i64 V.version), (.int .i64 V.item), (.int .i64 V.index), (.bool V.key), (.string (bstr V.data)), (.int .i64 V.regions), (.int .i64 V.gain), (.string (bstr V.caption)), (.int .i64 V.os), (.int .i64 V.of), (.slice Bv V.al.length cv)] true, bx b_1 28 [(.int .i64 U.channel), (.int .i64 U.frame), (.int .i64 U.version), (.int .i64 U.item), (.int .i64 U.index), (.bool U.key), (.string (bstr U.data)), (.int .i64 U.regions), (.int .i64 U.gain), (.string (bstr U.caption)), (.int .i64 U.os), (.int .i64 U.of), (.slice Bu U.al.length cu)] true] (by kernel_rfl) (by kernel_rfl) (by kernel_rfl) rfl (by kernel_rfl) (by kernel_rfl) (by kernel_rfl) (by kernel_rfl) (by kernel_rfl) ?_
  intro w_11 a H HP
  refine wpList_nil ?_
  refine then_normal ?_
  refine w_cut (fun a wv => Sl 100 [(10, (.string (bstr lu))), (11, (.int .i64 0)), (9, (.bool true)), (8, (.bool false)), (6, (.pointer (some ⟨b_3, 0, none⟩))), (0, (.int .i64 c)), (3, (.bool true))] a ∧ Hp w wv [bx b_3 28 [(.int .i64 U.channel), (.int .i64 (IntKind.i64.wrap (U.frame + 1))), (.int .i64 V.version), (.int .i64 V.item), (.int .i64 V.index), (.bool V.key), (.string (bstr V.data)), (.int .i64 V.regions), (.int .i64 V.gain), (.string (bstr V.caption)), (.int .i64 V.os), (.int .i64 V.of), (.slice Bv V.al.length cv)] true, bx b_1 28 [(.int .i64 U.channel), (.int .i64 U.frame), (.int .i64 U.version), (.int .i64 U.item), (.int .i64 U.index), (.bool U.key), (.string (bstr U.data)), (.int .i64 U.regions), (.int .i64 U.gain), (.string (bstr U.caption)), (.int .i64 U.os), (.int .i64 U.of), (.slice Bu U.al.length cu)] true] [⟨rowFp V.al.length Bv, fun w => IsAlts w Bv V.al.length V.al⟩, ⟨rowFp U.al.length Bu, fun w => IsAlts w Bu U.al.length U.al⟩]) ?_ ?_
  ·
    refine An.start (fun v => Hp w v [bx b_3 28 [(.int .i64 U.channel), (.int .i64 (IntKind.i64.wrap (U.frame + 1))), (.int .i64 V.version), (.int .i64 V.item), (.int .i64 V.index), (.bool V.key), (.string (bstr V.data)), (.int .i64 V.regions), (.int .i64 V.gain), (.string (bstr V.caption)), (.int .i64 V.os), (.int .i64 V.of), (.slice Bv V.al.length cv)] true, bx b_1 28 [(.int .i64 U.channel), (.int .i64 U.frame), (.int .i64 U.version), (.int .i64 U.item), (.int .i64 U.index), (.bool U.key), (.string (bstr U.data)), (.int .i64 U.regions), (.int .i64 U.gain), (.string (bstr U.caption)), (.int .i64 U.os), (.int .i64 U.of), (.slice Bu U.al.length cu)] true] [⟨rowFp V.al.length Bv, fun w => IsAlts w Bv V.al.length V.al⟩, ⟨rowFp U.al.length Bu, fun w => IsAlts w Bu U.al.length U.al⟩]) 9 9 HP wide_follows rfl ?_
    intro w_12 HP
    refine An.pure H (.inr (HP)) 0 29 (.int .i64 c) rfl (by kernel_rfl) (by kernel_rfl) (fun _ _ _ h => h) (fun _ => by kernel_rfl) ?_
    intro a H
    refine An.val H (HP) 2 31 (.agg #[(.int .i64 U.channel), (.int .i64 U.frame), (.int .i64 U.version), (.int .i64 U.item), (.int .i64 U.index), (.bool U.key), (.string (bstr U.data)), (.int .i64 U.regions), (.int .i64 U.gain), (.string (bstr U.caption)), (.int .i64 U.os), (.int .i64 U.of), (.slice Bu U.al.length cu)]) rfl (by kernel_rfl) (by kernel_rfl) (fun _ _ _ h => h) (fun _ hS => ex_loadN (vs := [(.int .i64 U.channel), (.int .i64 U.frame), (.int .i64 U.version), (.int .i64 U.item), (.int .i64 U.index), (.bool U.key), (.string (bstr U.data)), (.int .i64 U.regions), (.int .i64 U.gain), (.string (bstr U.caption)), (.int .i64 U.os), (.int .i64 U.of), (.slice Bu U.al.length cu)]) (by kernel_rfl) (by kernel_rfl) (by kernel_rfl) rfl (hS.cells 1 rfl 0 13 (by kernel_rfl))) ?_
    intro a H
    refine An.one 1 (by kernel_rfl) ?_
    refine Op.call H 30 rfl (by kernel_rfl) (Eq.trans (by kernel_rfl : _ = (callFunc 14 #[(.int .i64 c)]).run Tryd.prog w_12) (Tryd.call14 _ _)) (rate_any c w_12 hc) ?_
    rintro e w_13 ⟨rfl, hb⟩
    refine ⟨_, rfl, ?_⟩
    intro a H
    have HP := HP.next hb
    refine ⟨.inr (HP), ?_⟩
    refine An.one 3 (by kernel_rfl) ?_
    refine Op.call H 32 rfl (by kernel_rfl) (Eq.trans (by kernel_rfl : _ = (callFunc 16 #[(.agg #[(.int .i64 ((rateP c).1)), (.int .i64 ((rateP c).2))]), (.agg #[(.int .i64 U.channel), (.int .i64 U.frame), (.int .i64 U.version), (.int .i64 U.item), (.int .i64 U.index), (.bool U.key), (.string (bstr U.data)), (.int .i64 U.regions), (.int .i64 U.gain), (.string (bstr U.caption)), (.int .i64 U.os), (.int .i64 U.of), (.slice Bu U.al.length cu)])]).run Tryd.prog w_13) (Tryd.call16 _ _)) ((by have hh := pack_any ((rateP c).1) ((rateP c).2) (⟨U.channel, U.frame, U.version, U.item, U.index, U.key, U.data, U.regions, U.gain, U.caption, U.os, U.of, Bu, cu, U.al⟩ : Un) w_13 (hL.below (HP.below (by kernel_rfl))) (HP.fact 1 rfl) (Nat.le_trans hcau hcbu); rw [hZu Bu cu] at hh; exact hh)) ?_
    rintro e w_14 ⟨rfl, hb⟩
    refine ⟨_, rfl, ?_⟩
    intro a H
    have HP := HP.next hb
    refine ⟨.inr (HP), ?_⟩
    refine An.pure H (.inr (HP)) 4 28 (.tuple #[(.string (bstr lu)), (.int .i64 0)]) rfl (by kernel_rfl) (by kernel_rfl) (fun _ _ _ h => h) (fun _ => by kernel_rfl) ?_
    intro a H
    refine An.pure H (.inr (HP)) 5 33 (.string (bstr lu)) rfl (by kernel_rfl) (by kernel_rfl) (fun _ _ _ h => h) (fun _ => by kernel_rfl) ?_
    intro a H
    refine An.pure H (.inr (HP)) 6 34 (.int .i64 0) rfl (by kernel_rfl) (by kernel_rfl) (fun _ _ _ h => h) (fun _ => by kernel_rfl) ?_
    intro a H
    refine An.pure H (.inr (HP)) 7 10 (.string (bstr lu)) rfl (by kernel_rfl) (by kernel_rfl) (fun _ _ _ h => h) (fun _ => by kernel_rfl) ?_
    intro a H
    refine An.pure H (.inr (HP)) 8 11 (.int .i64 0) rfl (by kernel_rfl) (by kernel_rfl) (fun _ _ _ h => h) (fun _ => by kernel_rfl) ?_
    intro a H
    refine An.done (by kernel_rfl) ?_
    have H := H.keep (L' := [(11, (.int .i64 0)), (10, (.string (bstr lu))), (27, (.pointer (some ⟨b_3, 1, none⟩))), (26, (.int .i64 (IntKind.i64.wrap (U.frame + 1)))), (25, (.int .i64 U.frame)), (24, (.pointer (some ⟨b_1, 1, none⟩))), (23, (.pointer (some ⟨b_3, 0, none⟩))), (22, (.int .i64 U.channel)), (21, (.pointer (some ⟨b_1, 0, none⟩))), (20, (.agg #[(.int .i64 V.channel), (.int .i64 V.frame), (.int .i64 V.version), (.int .i64 V.item), (.int .i64 V.index), (.bool V.key), (.string (bstr V.data)), (.int .i64 V.regions), (.int .i64 V.gain), (.string (bstr V.caption)), (.int .i64 V.os), (.int .i64 V.of), (.slice Bv V.al.length cv)])), (19, (.agg #[(.int .i64 v.channel), (.int .i64 v.frame), (.int .i64 v.version), (.int .i64 v.item), (.int .i64 v.index), (.bool v.key), (.string (bstr v.data)), (.int .i64 v.regions), (.int .i64 v.gain), (.string (bstr v.caption)), (.int .i64 v.os), (.int .i64 v.of), (.slice v.A v.al.length v.c)])), (18, (.agg #[(.int .i64 U.channel), (.int .i64 U.frame), (.int .i64 U.version), (.int .i64 U.item), (.int .i64 U.index), (.bool U.key), (.string (bstr U.data)), (.int .i64 U.regions), (.int .i64 U.gain), (.string (bstr U.caption)), (.int .i64 U.os), (.int .i64 U.of), (.slice Bu U.al.length cu)])), (17, (.agg #[(.int .i64 u.channel), (.int .i64 u.frame), (.int .i64 u.version), (.int .i64 u.item), (.int .i64 u.index), (.bool u.key), (.string (bstr u.data)), (.int .i64 u.regions), (.int .i64 u.gain), (.string (bstr u.caption)), (.int .i64 u.os), (.int .i64 u.of), (.slice u.A u.al.length u.c)])), (9, (.bool true)), (16, (.bool true)), (8, (.bool false)), (6, (.pointer (some ⟨b_3, 0, none⟩))), (5, (.pointer (some ⟨b_1, 0, none⟩))), (0, (.int .i64 c)), (1, (.agg #[(.int .i64 u.channel), (.int .i64 u.frame), (.int .i64 u.version), (.int .i64 u.item), (.int .i64 u.index), (.bool u.key), (.string (bstr u.data)), (.int .i64 u.regions), (.int .i64 u.gain), (.string (bstr u.caption)), (.int .i64 u.os), (.int .i64 u.of), (.slice u.A u.al.length u.c)])), (2, (.agg #[(.int .i64 v.channel), (.int .i64 v.frame), (.int .i64 v.version), (.int .i64 v.item), (.int .i64 v.index), (.bool v.key), (.string (bstr v.data)), (.int .i64 v.regions), (.int .i64 v.gain), (.string (bstr v.caption)), (.int .i64 v.os), (.int .i64 v.of), (.slice v.A v.al.length v.c)])), (3, (.bool true))]) (by kernel_rfl)
    refine then_normal ?_
    exact ⟨H.keep (by kernel_rfl), HP⟩
  ·
    rintro a w_15 ⟨H, HP⟩
    refine w_cut (fun a wv => Sl 100 [(12, (.string (bstr ([])))), (13, (.int .i64 180)), (10, (.string (bstr lu))), (11, (.int .i64 0)), (9, (.bool true)), (8, (.bool false)), (3, (.bool true))] a ∧ Hp w wv [bx b_3 28 [(.int .i64 U.channel), (.int .i64 (IntKind.i64.wrap (U.frame + 1))), (.int .i64 V.version), (.int .i64 V.item), (.int .i64 V.index), (.bool V.key), (.string (bstr V.data)), (.int .i64 V.regions), (.int .i64 V.gain), (.string (bstr V.caption)), (.int .i64 V.os), (.int .i64 V.of), (.slice Bv V.al.length cv)] true, bx b_1 28 [(.int .i64 U.channel), (.int .i64 U.frame), (.int .i64 U.version), (.int .i64 U.item), (.int .i64 U.index), (.bool U.key), (.string (bstr U.data)), (.int .i64 U.regions), (.int .i64 U.gain), (.string (bstr U.caption)), (.int .i64 U.os), (.int .i64 U.of), (.slice Bu U.al.length cu)] true] [⟨rowFp V.al.length Bv, fun w => IsAlts w Bv V.al.length V.al⟩, ⟨rowFp U.al.length Bu, fun w => IsAlts w Bu U.al.length U.al⟩]) ?_ ?_
    ·
      refine An.start (fun v => Hp w v [bx b_3 28 [(.int .i64 U.channel), (.int .i64 (IntKind.i64.wrap (U.frame + 1))), (.int .i64 V.version), (.int .i64 V.item), (.int .i64 V.index), (.bool V.key), (.string (bstr V.data)), (.int .i64 V.regions), (.int .i64 V.gain), (.string (bstr V.caption)), (.int .i64 V.os), (.int .i64 V.of), (.slice Bv V.al.length cv)] true, bx b_1 28 [(.int .i64 U.channel), (.int .i64 U.frame), (.int .i64 U.version), (.int .i64 U.item), (.int .i64 U.index), (.bool U.key), (.string (bstr U.data)), (.int .i64 U.regions), (.int .i64 U.gain), (.string (bstr U.caption)), (.int .i64 U.os), (.int .i64 U.of), (.slice Bu U.al.length cu)] true] [⟨rowFp V.al.length Bv, fun w => IsAlts w Bv V.al.length V.al⟩, ⟨rowFp U.al.length Bu, fun w => IsAlts w Bu U.al.length U.al⟩]) 9 9 HP wide_follows rfl ?_
      intro w_16 HP
      refine An.pure H (.inr (HP)) 0 36 (.int .i64 c) rfl (by kernel_rfl) (by kernel_rfl) (fun _ _ _ h => h) (fun _ => by kernel_rfl) ?_
      intro a H
      refine An.val H (HP) 2 38 (.agg #[(.int .i64 U.channel), (.int .i64 (IntKind.i64.wrap (U.frame + 1))), (.int .i64 V.version), (.int .i64 V.item), (.int .i64 V.index), (.bool V.key), (.string (bstr V.data)), (.int .i64 V.regions), (.int .i64 V.gain), (.string (bstr V.caption)), (.int .i64 V.os), (.int .i64 V.of), (.slice Bv V.al.length cv)]) rfl (by kernel_rfl) (by kernel_rfl) (fun _ _ _ h => h) (fun _ hS => ex_loadN (vs := [(.int .i64 U.channel), (.int .i64 (IntKind.i64.wrap (U.frame + 1))), (.int .i64 V.version), (.int .i64 V.item), (.int .i64 V.index), (.bool V.key), (.string (bstr V.data)), (.int .i64 V.regions), (.int .i64 V.gain), (.string (bstr V.caption)), (.int .i64 V.os), (.int .i64 V.of), (.slice Bv V.al.length cv)]) (by kernel_rfl) (by kernel_rfl) (by kernel_rfl) rfl (hS.cells 0 rfl 0 13 (by kernel_rfl))) ?_
      intro a H
      refine An.one 1 (by kernel_rfl) ?_
      refine Op.call H 37 rfl (by kernel_rfl) (Eq.trans (by kernel_rfl : _ = (callFunc 14 #[(.int .i64 c)]).run Tryd.prog w_16) (Tryd.call14 _ _)) (rate_any c w_16 hc) ?_
      rintro e w_17 ⟨rfl, hb⟩
      refine ⟨_, rfl, ?_⟩
      intro a H
      have HP := HP.next hb
      refine ⟨.inr (HP), ?_⟩
      refine An.one 3 (by kernel_rfl) ?_
      refine Op.call H 39 rfl (by kernel_rfl) (Eq.trans (by kernel_rfl : _ = (callFunc 16 #[(.agg #[(.int .i64 ((rateP c).1)), (.int .i64 ((rateP c).2))]), (.agg #[(.int .i64 U.channel), (.int .i64 (IntKind.i64.wrap (U.frame + 1))), (.int .i64 V.version), (.int .i64 V.item), (.int .i64 V.index), (.bool V.key), (.string (bstr V.data)), (.int .i64 V.regions), (.int .i64 V.gain), (.string (bstr V.caption)), (.int .i64 V.os), (.int .i64 V.of), (.slice Bv V.al.length cv)])]).run Tryd.prog w_17) (Tryd.call16 _ _)) ((by have hh := pack_any ((rateP c).1) ((rateP c).2) (⟨U.channel, IntKind.i64.wrap (U.frame + 1), V.version, V.item, V.index, V.key, V.data, V.regions, V.gain, V.caption, V.os, V.of, Bv, cv, V.al⟩ : Un) w_17 (hL.below (HP.below (by kernel_rfl))) (HP.fact 0 rfl) (Nat.le_trans hcav hcbv); rw [hZv Bv cv] at hh; exact hh)) ?_
      rintro e w_18 ⟨rfl, hb⟩
      refine ⟨_, rfl, ?_⟩
      intro a H
      have HP := HP.next hb
      refine ⟨.inr (HP), ?_⟩
      refine An.pure H (.inr (HP)) 4 35 (.tuple #[(.string (bstr ([]))), (.int .i64 180)]) rfl (by kernel_rfl) (by kernel_rfl) (fun _ _ _ h => h) (fun _ => by kernel_rfl) ?_
      intro a H
      refine An.pure H (.inr (HP)) 5 40 (.string (bstr ([]))) rfl (by kernel_rfl) (by kernel_rfl) (fun _ _ _ h => h) (fun _ => by kernel_rfl) ?_
      intro a H
      refine An.pure H (.inr (HP)) 6 41 (.int .i64 180) rfl (by kernel_rfl) (by kernel_rfl) (fun _ _ _ h => h) (fun _ => by kernel_rfl) ?_
      intro a H
      refine An.pure H (.inr (HP)) 7 12 (.string (bstr ([]))) rfl (by kernel_rfl) (by kernel_rfl) (fun _ _ _ h => h) (fun _ => by kernel_rfl) ?_
      intro a H
      refine An.pure H (.inr (HP)) 8 13 (.int .i64 180) rfl (by kernel_rfl) (by kernel_rfl) (fun _ _ _ h => h) (fun _ => by kernel_rfl) ?_
      intro a H
      refine An.done (by kernel_rfl) ?_
      have H := H.keep (L' := [(13, (.int .i64 180)), (12, (.string (bstr ([])))), (10, (.string (bstr lu))), (11, (.int .i64 0)), (9, (.bool true)), (8, (.bool false)), (6, (.pointer (some ⟨b_3, 0, none⟩))), (0, (.int .i64 c)), (3, (.bool true))]) (by kernel_rfl)
      refine then_normal ?_
      exact ⟨H.keep (by kernel_rfl), HP⟩
    ·
      rintro a w_19 ⟨H, HP⟩
      refine wp_seq ?_
      refine wp_seq ?_
      refine w_region ?_
      refine H.val 42 (.int .i64 0) (by kernel_rfl) (by kernel_rfl) ?_
      intro a H
      refine H.val 43 (.bool false) (by kernel_rfl) (by kernel_rfl) ?_
      intro a H
      refine H.val 44 (.bool false) (by kernel_rfl) (by kernel_rfl) ?_
      intro a H
      refine H.val 45 (.int .i64 180) (by kernel_rfl) (by kernel_rfl) ?_
      intro a H
      refine H.val 46 (.bool true) (by kernel_rfl) (by kernel_rfl) ?_
      intro a H
      refine H.val 47 (.bool true) (by kernel_rfl) (by kernel_rfl) ?_
      intro a H
      refine H.val 48 (.bool true) (by kernel_rfl) (by kernel_rfl) ?_
      intro a H
      refine H.skip 49 (by kernel_rfl) ?_
      intro a H
      refine H.skip 50 (by kernel_rfl) ?_
      intro a H
      refine H.skip 51 (by kernel_rfl) ?_
      intro a H
      refine H.val 52 (.bool true) (by kernel_rfl) (by kernel_rfl) ?_
      intro a H
      refine H.val 53 (.bool true) (by kernel_rfl) (by kernel_rfl) ?_
      intro a H
      refine H.skip 54 (by kernel_rfl) ?_
      intro a H
      refine H.skip 55 (by kernel_rfl) ?_
      intro a H
      refine H.skip 56 (by kernel_rfl) ?_
      intro a H
      refine H.val 57 (.bool true) (by kernel_rfl) (by kernel_rfl) ?_
      intro a H
      refine wpList_nil ?_
      have H := H.keep (L' := [(57, (.bool true)), (12, (.string (bstr ([])))), (13, (.int .i64 180)), (10, (.string (bstr lu))), (11, (.int .i64 0)), (9, (.bool true)), (8, (.bool false)), (3, (.bool true))]) (by kernel_rfl)
      refine then_normal ?_
      refine w_ift H rfl ?_
      refine wp_seq ?_
      refine w_region ?_
      refine H.val 58 (.bool true) (by kernel_rfl) (by kernel_rfl) ?_
      intro a H
      refine H.val 59 (.bool true) (by kernel_rfl) (by kernel_rfl) ?_
      intro a H
      refine H.val 60 (.int .i64 0) (by kernel_rfl) (by kernel_rfl) ?_
      intro a H
      refine H.val 61 (.bool false) (by kernel_rfl) (by kernel_rfl) ?_
      intro a H
      refine H.val 62 (.bool false) (by kernel_rfl) (by kernel_rfl) ?_
      intro a H
      refine H.val 63 (.int .i64 180) (by kernel_rfl) (by kernel_rfl) ?_
      intro a H
      refine H.val 64 (.bool true) (by kernel_rfl) (by kernel_rfl) ?_
      intro a H
      refine H.val 65 (.bool true) (by kernel_rfl) (by kernel_rfl) ?_
      intro a H
      refine H.val 66 (.bool true) (by kernel_rfl) (by kernel_rfl) ?_
      intro a H
      refine H.val 8 (.bool true) (by kernel_rfl) (by kernel_rfl) ?_
      intro a H
      refine wpList_nil ?_
      have H := H.keep (L' := [(8, (.bool true)), (57, (.bool true)), (12, (.string (bstr ([])))), (13, (.int .i64 180)), (10, (.string (bstr lu))), (11, (.int .i64 0)), (9, (.bool true)), (3, (.bool true))]) (by kernel_rfl)
      refine then_normal ?_
      refine wp_ret ?_
      refine then_ret ?_
      refine H.ret1 (fn := Tryd.f12) Tryd.results12 (RV.tmp_ (v := (.bool true)) (by kernel_rfl)) ?_
      exact ⟨rfl, (HP.below (by kernel_rfl))⟩
set_option maxRecDepth 100000 in
set_option maxHeartbeats 4000000 in
theorem gap_tss (c : Int) (u v U V : Un) (w : World) (hU : shortU u = U) (hV : shortU v = V) (hL : Laid w) (hc : -9223372036854775808 ≤ c ∧ c ≤ 9223372036854775807) (huu : IsAlts w u.A u.al.length u.al) (hcu : u.al.length ≤ u.c) (hAu : u.A = none → u.c = 0) (huv : IsAlts w v.A v.al.length v.al) (hcv : v.al.length ≤ v.c) (hAv : v.A = none → v.c = 0) (lu : List UInt8) (lv : List UInt8) (hZu : ∀ B c', packP (rateP c).1 (rateP c).2 ({ U with A := B, c := c' } : Un) = some lu) (hZv : ∀ B c', packP (rateP c).1 (rateP c).2 (⟨U.channel, IntKind.i64.wrap (U.frame + 1), V.version, V.item, V.index, V.key, V.data, V.regions, V.gain, V.caption, V.os, V.of, B, c', V.al⟩ : Un) = some lv) :
    Calls Tryd.prog 12 #[.int .i64 c, u.val, v.val, .bool true] w fun e w' => e = .returned (.bool true) ∧ Below w.heap.size w w' := by
  have HP := Hp.start w
  obtain ⟨hlu, hlu1, hlu2⟩ := pack_len (hZu none 0)
  obtain ⟨hlv, hlv1, hlv2⟩ := pack_len (hZv none 0)
  have hfw : followsP lu lv = true := gap_follows (hZu none 0) (hZv none 0) rfl rfl
  refine w_enter 100 [(0, (.int .i64 c)), (1, (.agg #[(.int .i64 u.channel), (.int .i64 u.frame), (.int .i64 u.version), (.int .i64 u.item), (.int .i64 u.index), (.bool u.key), (.string (bstr u.data)), (.int .i64 u.regions), (.int .i64 u.gain), (.string (bstr u.caption)), (.int .i64 u.os), (.int .i64 u.of), (.slice u.A u.al.length u.c)])), (2, (.agg #[(.int .i64 v.channel), (.int .i64 v.frame), (.int .i64 v.version), (.int .i64 v.item), (.int .i64 v.index), (.bool v.key), (.string (bstr v.data)), (.int .i64 v.regions), (.int .i64 v.gain), (.string (bstr v.caption)), (.int .i64 v.os), (.int .i64 v.of), (.slice v.A v.al.length v.c)])), (3, (.bool true))] Tryd.func12 rfl Tryd.ntmps12 (by kernel_rfl) (by kernel_rfl) ?_
  intro a H
  refine wp_seq ?_
  refine w_region ?_
  refine H.alloc HP 5 (fun b => (.pointer (some ⟨b, 0, none⟩))) 28 [(.int .i64 u.channel), (.int .i64 u.frame), (.int .i64 u.version), (.int .i64 u.item), (.int .i64 u.index), (.bool u.key), (.string (bstr u.data)), (.int .i64 u.regions), (.int .i64 u.gain), (.string (bstr u.caption)), (.int .i64 u.os), (.int .i64 u.of), (.slice u.A u.al.length u.c)] (by kernel_rfl) (fun w => by kernel_rfl) ?_
  intro b_1 w_2 a H HP
  refine H.alloc HP 6 (fun b => (.pointer (some ⟨b, 0, none⟩))) 28 [(.int .i64 v.channel), (.int .i64 v.frame), (.int .i64 v.version), (.int .i64 v.item), (.int .i64 v.index), (.bool v.key), (.string (bstr v.data)), (.int .i64 v.regions), (.int .i64 v.gain), (.string (bstr v.caption)), (.int .i64 v.os), (.int .i64 v.of), (.slice v.A v.al.length v.c)] (by kernel_rfl) (fun w => by kernel_rfl) ?_
  intro b_3 w_4 a H HP
  refine H.val 8 (.bool false) (by kernel_rfl) (by kernel_rfl) ?_
  intro a H
  refine wpList_nil ?_
  refine then_normal ?_
  refine wp_seq ?_
  refine w_region ?_
  refine H.call 16 (by kernel_rfl) (Eq.trans (by kernel_rfl : _ = (callFunc 13 #[]).run Tryd.prog w_4) (Tryd.call13 _ _)) (sane_any w_4 (hL.below (HP.below (by kernel_rfl)))) ?_
  rintro e w_5 ⟨rfl, hb⟩
  refine ⟨_, rfl, ?_⟩
  intro a H
  have HP := HP.next hb
  refine H.val 9 (.bool true) (by kernel_rfl) (by kernel_rfl) ?_
  intro a H
  refine wpList_nil ?_
  refine then_normal ?_
  refine wp_seq ?_
  refine w_region ?_
  refine H.val 17 (.agg #[(.int .i64 u.channel), (.int .i64 u.frame), (.int .i64 u.version), (.int .i64 u.item), (.int .i64 u.index), (.bool u.key), (.string (bstr u.data)), (.int .i64 u.regions), (.int .i64 u.gain), (.string (bstr u.caption)), (.int .i64 u.os), (.int .i64 u.of), (.slice u.A u.al.length u.c)]) (by kernel_rfl) (ex_loadN (vs := [(.int .i64 u.channel), (.int .i64 u.frame), (.int .i64 u.version), (.int .i64 u.item), (.int .i64 u.index), (.bool u.key), (.string (bstr u.data)), (.int .i64 u.regions), (.int .i64 u.gain), (.string (bstr u.caption)), (.int .i64 u.os), (.int .i64 u.of), (.slice u.A u.al.length u.c)]) (by kernel_rfl) (by kernel_rfl) (by kernel_rfl) rfl (HP.cells 1 rfl 0 13 (by kernel_rfl))) ?_
  intro a H
  refine H.call 18 (by kernel_rfl) (Eq.trans (by kernel_rfl : _ = (callFunc 15 #[(.agg #[(.int .i64 u.channel), (.int .i64 u.frame), (.int .i64 u.version), (.int .i64 u.item), (.int .i64 u.index), (.bool u.key), (.string (bstr u.data)), (.int .i64 u.regions), (.int .i64 u.gain), (.string (bstr u.caption)), (.int .i64 u.os), (.int .i64 u.of), (.slice u.A u.al.length u.c)])]).run Tryd.prog w_5) (Tryd.call15 _ _)) (short_anyU hU (short_any u w_5 (huu.below (HP.below (by kernel_rfl))) hcu hAu)) ?_
  rintro e w_6 ⟨Bu, cu, rfl, halu, hcau, hcbu, hccu, hfru, hb⟩
  refine ⟨_, rfl, ?_⟩
  intro a H
  have HP := (HP.next hb).keepF ⟨rowFp U.al.length Bu, fun w => IsAlts w Bu U.al.length U.al⟩ halu (fun _ _ h hk hs => ⟨h.1, h.2.keep hk hs⟩) (fun j hj => row_sep HP halu.2 hfru hj)
  refine H.store HP 1 b_1 0 13 28 [(.int .i64 u.channel), (.int .i64 u.frame), (.int .i64 u.version), (.int .i64 u.item), (.int .i64 u.index), (.bool u.key), (.string (bstr u.data)), (.int .i64 u.regions), (.int .i64 u.gain), (.string (bstr u.caption)), (.int .i64 u.os), (.int .i64 u.of), (.slice u.A u.al.length u.c)] true (.agg #[(.int .i64 U.channel), (.int .i64 U.frame), (.int .i64 U.version), (.int .i64 U.item), (.int .i64 U.index), (.bool U.key), (.string (bstr U.data)), (.int .i64 U.regions), (.int .i64 U.gain), (.string (bstr U.caption)), (.int .i64 U.os), (.int .i64 U.of), (.slice Bu U.al.length cu)]) [bx b_3 28 [(.int .i64 v.channel), (.int .i64 v.frame), (.int .i64 v.version), (.int .i64 v.item), (.int .i64 v.index), (.bool v.key), (.string (bstr v.data)), (.int .i64 v.regions), (.int .i64 v.gain), (.string (bstr v.caption)), (.int .i64 v.os), (.int .i64 v.of), (.slice v.A v.al.length v.c)] true, bx b_1 28 [(.int .i64 U.channel), (.int .i64 U.frame), (.int .i64 U.version), (.int .i64 U.item), (.int .i64 U.index), (.bool U.key), (.string (bstr U.data)), (.int .i64 U.regions), (.int .i64 U.gain), (.string (bstr U.caption)), (.int .i64 U.os), (.int .i64 U.of), (.slice Bu U.al.length cu)] true] (by kernel_rfl) (by kernel_rfl) (by kernel_rfl) rfl (by kernel_rfl) (by kernel_rfl) (by kernel_rfl) (by kernel_rfl) (by kernel_rfl) ?_
  intro w_7 a H HP
  refine wpList_nil ?_
  refine then_normal ?_
  refine wp_seq ?_
  refine w_region ?_
  refine H.val 19 (.agg #[(.int .i64 v.channel), (.int .i64 v.frame), (.int .i64 v.version), (.int .i64 v.item), (.int .i64 v.index), (.bool v.key), (.string (bstr v.data)), (.int .i64 v.regions), (.int .i64 v.gain), (.string (bstr v.caption)), (.int .i64 v.os), (.int .i64 v.of), (.slice v.A v.al.length v.c)]) (by kernel_rfl) (ex_loadN (vs := [(.int .i64 v.channel), (.int .i64 v.frame), (.int .i64 v.version), (.int .i64 v.item), (.int .i64 v.index), (.bool v.key), (.string (bstr v.data)), (.int .i64 v.regions), (.int .i64 v.gain), (.string (bstr v.caption)), (.int .i64 v.os), (.int .i64 v.of), (.slice v.A v.al.length v.c)]) (by kernel_rfl) (by kernel_rfl) (by kernel_rfl) rfl (HP.cells 0 rfl 0 13 (by kernel_rfl))) ?_
  intro a H
  refine H.call 20 (by kernel_rfl) (Eq.trans (by kernel_rfl : _ = (callFunc 15 #[(.agg #[(.int .i64 v.channel), (.int .i64 v.frame), (.int .i64 v.version), (.int .i64 v.item), (.int .i64 v.index), (.bool v.key), (.string (bstr v.data)), (.int .i64 v.regions), (.int .i64 v.gain), (.string (bstr v.caption)), (.int .i64 v.os), (.int .i64 v.of), (.slice v.A v.al.length v.c)])]).run Tryd.prog w_7) (Tryd.call15 _ _)) (short_anyU hV (short_any v w_7 (huv.below (HP.below (by kernel_rfl))) hcv hAv)) ?_
  rintro e w_8 ⟨Bv, cv, rfl, halv, hcav, hcbv, hccv, hfrv, hb⟩
  refine ⟨_, rfl, ?_⟩
  intro a H
  have HP := (HP.next hb).keepF ⟨rowFp V.al.length Bv, fun w => IsAlts w Bv V.al.length V.al⟩ halv (fun _ _ h hk hs => ⟨h.1, h.2.keep hk hs⟩) (fun j hj => row_sep HP halv.2 hfrv hj)
  refine H.store HP 0 b_3 0 13 28 [(.int .i64 v.channel), (.int .i64 v.frame), (.int .i64 v.version), (.int .i64 v.item), (.int .i64 v.index), (.bool v.key), (.string (bstr v.data)), (.int .i64 v.regions), (.int .i64 v.gain), (.string (bstr v.caption)), (.int .i64 v.os), (.int .i64 v.of), (.slice v.A v.al.length v.c)] true (.agg #[(.int .i64 V.channel), (.int .i64 V.frame), (.int .i64 V.version), (.int .i64 V.item), (.int .i64 V.index), (.bool V.key), (.string (bstr V.data)), (.int .i64 V.regions), (.int .i64 V.gain), (.string (bstr V.caption)), (.int .i64 V.os), (.int .i64 V.of), (.slice Bv V.al.length cv)]) [bx b_3 28 [(.int .i64 V.channel), (.int .i64 V.frame), (.int .i64 V.version), (.int .i64 V.item), (.int .i64 V.index), (.bool V.key), (.string (bstr V.data)), (.int .i64 V.regions), (.int .i64 V.gain), (.string (bstr V.caption)), (.int .i64 V.os), (.int .i64 V.of), (.slice Bv V.al.length cv)] true, bx b_1 28 [(.int .i64 U.channel), (.int .i64 U.frame), (.int .i64 U.version), (.int .i64 U.item), (.int .i64 U.index), (.bool U.key), (.string (bstr U.data)), (.int .i64 U.regions), (.int .i64 U.gain), (.string (bstr U.caption)), (.int .i64 U.os), (.int .i64 U.of), (.slice Bu U.al.length cu)] true] (by kernel_rfl) (by kernel_rfl) (by kernel_rfl) rfl (by kernel_rfl) (by kernel_rfl) (by kernel_rfl) (by kernel_rfl) (by kernel_rfl) ?_
  intro w_9 a H HP
  refine wpList_nil ?_
  refine then_normal ?_
  refine wp_seq ?_
  refine w_region ?_
  refine H.val 21 (.pointer (some ⟨b_1, 0, none⟩)) (by kernel_rfl) (by kernel_rfl) ?_
  intro a H
  refine H.val 22 (.int .i64 U.channel) (by kernel_rfl) (ex_load1 (by kernel_rfl) (by kernel_rfl) (HP.cell 1 rfl 0 rfl)) ?_
  intro a H
  refine H.val 23 (.pointer (some ⟨b_3, 0, none⟩)) (by kernel_rfl) (by kernel_rfl) ?_
  intro a H
  refine H.store HP 0 b_3 0 1 28 [(.int .i64 V.channel), (.int .i64 V.frame), (.int .i64 V.version), (.int .i64 V.item), (.int .i64 V.index), (.bool V.key), (.string (bstr V.data)), (.int .i64 V.regions), (.int .i64 V.gain), (.string (bstr V.caption)), (.int .i64 V.os), (.int .i64 V.of), (.slice Bv V.al.length cv)] true (.int .i64 U.channel) [bx b_3 28 [(.int .i64 U.channel), (.int .i64 V.frame), (.int .i64 V.version), (.int .i64 V.item), (.int .i64 V.index), (.bool V.key), (.string (bstr V.data)), (.int .i64 V.regions), (.int .i64 V.gain), (.string (bstr V.caption)), (.int .i64 V.os), (.int .i64 V.of), (.slice Bv V.al.length cv)] true, bx b_1 28 [(.int .i64 U.channel), (.int .i64 U.frame), (.int .i64 U.version), (.int .i64 U.item), (.int .i64 U.index), (.bool U.key), (.string (bstr U.data)), (.int .i64 U.regions), (.int .i64 U.gain), (.string (bstr U.caption)), (.int .i64 U.os), (.int .i64 U.of), (.slice Bu U.al.length cu)] true] (by kernel_rfl) (by kernel_rfl) (by kernel_rfl) rfl (by kernel_rfl) (by kernel_rfl) (by kernel_rfl) (by kernel_rfl) (by kernel_rfl) ?_
  intro w_10 a H HP
  refine wpList_nil ?_
  refine then_normal ?_
  refine wp_seq ?_
  refine w_region ?_
  refine H.val 24 (.pointer (some ⟨b_1, 1, none⟩)) (by kernel_rfl) (by kernel_rfl) ?_
  intro a H
  refine H.val 25 (.int .i64 U.frame) (by kernel_rfl) (ex_load1 (by kernel_rfl) (by kernel_rfl) (HP.cell 1 rfl 1 rfl)) ?_
  intro a H
  refine H.val 26 (.int .i64 (IntKind.i64.wrap (U.frame + 1))) (by kernel_rfl) (by kernel_rfl) ?_
  intro a H
  refine H.val 27 (.pointer (some ⟨b_3, 1, none⟩)) (by kernel_rfl) (by kernel_rfl) ?_
  intro a H
  refine H.store HP 0 b_3 1 1 28 [(.int .i64 U.channel), (.int .i64 V.frame), (.int .i64 V.version), (.int .i64 V.item), (.int .i64 V.index), (.bool V.key), (.string (bstr V.data)), (.int .i64 V.regions), (.int .i64 V.gain), (.string (bstr V.caption)), (.int .i64 V.os), (.int .i64 V.of), (.slice Bv V.al.length cv)] true (.int .i64 (IntKind.i64.wrap (U.frame + 1))) [bx b_3 28 [(.int .i64 U.channel), (.int .i64 (IntKind.i64.wrap (U.frame + 1))), (.int .i64 V.version), (.int .i64 V.item), (.int .i64 V.index), (.bool V.key), (.string (bstr V.data)), (.int .i64 V.regions), (.int .i64 V.gain), (.string (bstr V.caption)), (.int .i64 V.os), (.int .i64 V.of), (.slice Bv V.al.length cv)] true, bx b_1 28 [(.int .i64 U.channel), (.int .i64 U.frame), (.int .i64 U.version), (.int .i64 U.item), (.int .i64 U.index), (.bool U.key), (.string (bstr U.data)), (.int .i64 U.regions), (.int .i64 U.gain), (.string (bstr U.caption)), (.int .i64 U.os), (.int .i64 U.of), (.slice Bu U.al.length cu)] true] (by kernel_rfl) (by kernel_rfl) (by kernel_rfl) rfl (by kernel_rfl) (by kernel_rfl) (by kernel_rfl) (by kernel_rfl) (by kernel_rfl) ?_
  intro w_11 a H HP
  refine wpList_nil ?_
  refine then_normal ?_
  refine w_cut (fun a wv => Sl 100 [(10, (.string (bstr lu))), (11, (.int .i64 0)), (9, (.bool true)), (8, (.bool false)), (6, (.pointer (some ⟨b_3, 0, none⟩))), (0, (.int .i64 c)), (3, (.bool true))] a ∧ Hp w wv [bx b_3 28 [(.int .i64 U.channel), (.int .i64 (IntKind.i64.wrap (U.frame + 1))), (.int .i64 V.version), (.int .i64 V.item), (.int .i64 V.index), (.bool V.key), (.string (bstr V.data)), (.int .i64 V.regions), (.int .i64 V.gain), (.string (bstr V.caption)), (.int .i64 V.os), (.int .i64 V.of), (.slice Bv V.al.length cv)] true, bx b_1 28 [(.int .i64 U.channel), (.int .i64 U.frame), (.int .i64 U.version), (.int .i64 U.item), (.int .i64 U.index), (.bool U.key), (.string (bstr U.data)), (.int .i64 U.regions), (.int .i64 U.gain), (.string (bstr U.caption)), (.int .i64 U.os), (.int .i64 U.of), (.slice Bu U.al.length cu)] true] [⟨rowFp V.al.length Bv, fun w => IsAlts w Bv V.al.length V.al⟩, ⟨rowFp U.al.length Bu, fun w => IsAlts w Bu U.al.length U.al⟩]) ?_ ?_
  ·
    refine An.start (fun v => Hp w v [bx b_3 28 [(.int .i64 U.channel), (.int .i64 (IntKind.i64.wrap (U.frame + 1))), (.int .i64 V.version), (.int .i64 V.item), (.int .i64 V.index), (.bool V.key), (.string (bstr V.data)), (.int .i64 V.regions), (.int .i64 V.gain), (.string (bstr V.caption)), (.int .i64 V.os), (.int .i64 V.of), (.slice Bv V.al.length cv)] true, bx b_1 28 [(.int .i64 U.channel), (.int .i64 U.frame), (.int .i64 U.version), (.int .i64 U.item), (.int .i64 U.index), (.bool U.key), (.string (bstr U.data)), (.int .i64 U.regions), (.int .i64 U.gain), (.string (bstr U.caption)), (.int .i64 U.os), (.int .i64 U.of), (.slice Bu U.al.length cu)] true] [⟨rowFp V.al.length Bv, fun w => IsAlts w Bv V.al.length V.al⟩, ⟨rowFp U.al.length Bu, fun w => IsAlts w Bu U.al.length U.al⟩]) 9 9 HP wide_follows rfl ?_
    intro w_12 HP
    refine An.pure H (.inr (HP)) 0 29 (.int .i64 c) rfl (by kernel_rfl) (by kernel_rfl) (fun _ _ _ h => h) (fun _ => by kernel_rfl) ?_
    intro a H
    refine An.val H (HP) 2 31 (.agg #[(.int .i64 U.channel), (.int .i64 U.frame), (.int .i64 U.version), (.int .i64 U.item), (.int .i64 U.index), (.bool U.key), (.string (bstr U.data)), (.int .i64 U.regions), (.int .i64 U.gain), (.string (bstr U.caption)), (.int .i64 U.os), (.int .i64 U.of), (.slice Bu U.al.length cu)]) rfl (by kernel_rfl) (by kernel_rfl) (fun _ _ _ h => h) (fun _ hS => ex_loadN (vs := [(.int .i64 U.channel), (.int .i64 U.frame), (.int .i64 U.version), (.int .i64 U.item), (.int .i64 U.index), (.bool U.key), (.string (bstr U.data)), (.int .i64 U.regions), (.int .i64 U.gain), (.string (bstr U.caption)), (.int .i64 U.os), (.int .i64 U.of), (.slice Bu U.al.length cu)]) (by kernel_rfl) (by kernel_rfl) (by kernel_rfl) rfl (hS.cells 1 rfl 0 13 (by kernel_rfl))) ?_
    intro a H
    refine An.one 1 (by kernel_rfl) ?_
    refine Op.call H 30 rfl (by kernel_rfl) (Eq.trans (by kernel_rfl : _ = (callFunc 14 #[(.int .i64 c)]).run Tryd.prog w_12) (Tryd.call14 _ _)) (rate_any c w_12 hc) ?_
    rintro e w_13 ⟨rfl, hb⟩
    refine ⟨_, rfl, ?_⟩
    intro a H
    have HP := HP.next hb
    refine ⟨.inr (HP), ?_⟩
    refine An.one 3 (by kernel_rfl) ?_
    refine Op.call H 32 rfl (by kernel_rfl) (Eq.trans (by kernel_rfl : _ = (callFunc 16 #[(.agg #[(.int .i64 ((rateP c).1)), (.int .i64 ((rateP c).2))]), (.agg #[(.int .i64 U.channel), (.int .i64 U.frame), (.int .i64 U.version), (.int .i64 U.item), (.int .i64 U.index), (.bool U.key), (.string (bstr U.data)), (.int .i64 U.regions), (.int .i64 U.gain), (.string (bstr U.caption)), (.int .i64 U.os), (.int .i64 U.of), (.slice Bu U.al.length cu)])]).run Tryd.prog w_13) (Tryd.call16 _ _)) ((by have hh := pack_any ((rateP c).1) ((rateP c).2) (⟨U.channel, U.frame, U.version, U.item, U.index, U.key, U.data, U.regions, U.gain, U.caption, U.os, U.of, Bu, cu, U.al⟩ : Un) w_13 (hL.below (HP.below (by kernel_rfl))) (HP.fact 1 rfl) (Nat.le_trans hcau hcbu); rw [hZu Bu cu] at hh; exact hh)) ?_
    rintro e w_14 ⟨rfl, hb⟩
    refine ⟨_, rfl, ?_⟩
    intro a H
    have HP := HP.next hb
    refine ⟨.inr (HP), ?_⟩
    refine An.pure H (.inr (HP)) 4 28 (.tuple #[(.string (bstr lu)), (.int .i64 0)]) rfl (by kernel_rfl) (by kernel_rfl) (fun _ _ _ h => h) (fun _ => by kernel_rfl) ?_
    intro a H
    refine An.pure H (.inr (HP)) 5 33 (.string (bstr lu)) rfl (by kernel_rfl) (by kernel_rfl) (fun _ _ _ h => h) (fun _ => by kernel_rfl) ?_
    intro a H
    refine An.pure H (.inr (HP)) 6 34 (.int .i64 0) rfl (by kernel_rfl) (by kernel_rfl) (fun _ _ _ h => h) (fun _ => by kernel_rfl) ?_
    intro a H
    refine An.pure H (.inr (HP)) 7 10 (.string (bstr lu)) rfl (by kernel_rfl) (by kernel_rfl) (fun _ _ _ h => h) (fun _ => by kernel_rfl) ?_
    intro a H
    refine An.pure H (.inr (HP)) 8 11 (.int .i64 0) rfl (by kernel_rfl) (by kernel_rfl) (fun _ _ _ h => h) (fun _ => by kernel_rfl) ?_
    intro a H
    refine An.done (by kernel_rfl) ?_
    have H := H.keep (L' := [(11, (.int .i64 0)), (10, (.string (bstr lu))), (27, (.pointer (some ⟨b_3, 1, none⟩))), (26, (.int .i64 (IntKind.i64.wrap (U.frame + 1)))), (25, (.int .i64 U.frame)), (24, (.pointer (some ⟨b_1, 1, none⟩))), (23, (.pointer (some ⟨b_3, 0, none⟩))), (22, (.int .i64 U.channel)), (21, (.pointer (some ⟨b_1, 0, none⟩))), (20, (.agg #[(.int .i64 V.channel), (.int .i64 V.frame), (.int .i64 V.version), (.int .i64 V.item), (.int .i64 V.index), (.bool V.key), (.string (bstr V.data)), (.int .i64 V.regions), (.int .i64 V.gain), (.string (bstr V.caption)), (.int .i64 V.os), (.int .i64 V.of), (.slice Bv V.al.length cv)])), (19, (.agg #[(.int .i64 v.channel), (.int .i64 v.frame), (.int .i64 v.version), (.int .i64 v.item), (.int .i64 v.index), (.bool v.key), (.string (bstr v.data)), (.int .i64 v.regions), (.int .i64 v.gain), (.string (bstr v.caption)), (.int .i64 v.os), (.int .i64 v.of), (.slice v.A v.al.length v.c)])), (18, (.agg #[(.int .i64 U.channel), (.int .i64 U.frame), (.int .i64 U.version), (.int .i64 U.item), (.int .i64 U.index), (.bool U.key), (.string (bstr U.data)), (.int .i64 U.regions), (.int .i64 U.gain), (.string (bstr U.caption)), (.int .i64 U.os), (.int .i64 U.of), (.slice Bu U.al.length cu)])), (17, (.agg #[(.int .i64 u.channel), (.int .i64 u.frame), (.int .i64 u.version), (.int .i64 u.item), (.int .i64 u.index), (.bool u.key), (.string (bstr u.data)), (.int .i64 u.regions), (.int .i64 u.gain), (.string (bstr u.caption)), (.int .i64 u.os), (.int .i64 u.of), (.slice u.A u.al.length u.c)])), (9, (.bool true)), (16, (.bool true)), (8, (.bool false)), (6, (.pointer (some ⟨b_3, 0, none⟩))), (5, (.pointer (some ⟨b_1, 0, none⟩))), (0, (.int .i64 c)), (1, (.agg #[(.int .i64 u.channel), (.int .i64 u.frame), (.int .i64 u.version), (.int .i64 u.item), (.int .i64 u.index), (.bool u.key), (.string (bstr u.data)), (.int .i64 u.regions), (.int .i64 u.gain), (.string (bstr u.caption)), (.int .i64 u.os), (.int .i64 u.of), (.slice u.A u.al.length u.c)])), (2, (.agg #[(.int .i64 v.channel), (.int .i64 v.frame), (.int .i64 v.version), (.int .i64 v.item), (.int .i64 v.index), (.bool v.key), (.string (bstr v.data)), (.int .i64 v.regions), (.int .i64 v.gain), (.string (bstr v.caption)), (.int .i64 v.os), (.int .i64 v.of), (.slice v.A v.al.length v.c)])), (3, (.bool true))]) (by kernel_rfl)
    refine then_normal ?_
    exact ⟨H.keep (by kernel_rfl), HP⟩
  ·
    rintro a w_15 ⟨H, HP⟩
    refine w_cut (fun a wv => Sl 100 [(12, (.string (bstr lv))), (13, (.int .i64 0)), (10, (.string (bstr lu))), (11, (.int .i64 0)), (9, (.bool true)), (8, (.bool false)), (3, (.bool true))] a ∧ Hp w wv [bx b_3 28 [(.int .i64 U.channel), (.int .i64 (IntKind.i64.wrap (U.frame + 1))), (.int .i64 V.version), (.int .i64 V.item), (.int .i64 V.index), (.bool V.key), (.string (bstr V.data)), (.int .i64 V.regions), (.int .i64 V.gain), (.string (bstr V.caption)), (.int .i64 V.os), (.int .i64 V.of), (.slice Bv V.al.length cv)] true, bx b_1 28 [(.int .i64 U.channel), (.int .i64 U.frame), (.int .i64 U.version), (.int .i64 U.item), (.int .i64 U.index), (.bool U.key), (.string (bstr U.data)), (.int .i64 U.regions), (.int .i64 U.gain), (.string (bstr U.caption)), (.int .i64 U.os), (.int .i64 U.of), (.slice Bu U.al.length cu)] true] [⟨rowFp V.al.length Bv, fun w => IsAlts w Bv V.al.length V.al⟩, ⟨rowFp U.al.length Bu, fun w => IsAlts w Bu U.al.length U.al⟩]) ?_ ?_
    ·
      refine An.start (fun v => Hp w v [bx b_3 28 [(.int .i64 U.channel), (.int .i64 (IntKind.i64.wrap (U.frame + 1))), (.int .i64 V.version), (.int .i64 V.item), (.int .i64 V.index), (.bool V.key), (.string (bstr V.data)), (.int .i64 V.regions), (.int .i64 V.gain), (.string (bstr V.caption)), (.int .i64 V.os), (.int .i64 V.of), (.slice Bv V.al.length cv)] true, bx b_1 28 [(.int .i64 U.channel), (.int .i64 U.frame), (.int .i64 U.version), (.int .i64 U.item), (.int .i64 U.index), (.bool U.key), (.string (bstr U.data)), (.int .i64 U.regions), (.int .i64 U.gain), (.string (bstr U.caption)), (.int .i64 U.os), (.int .i64 U.of), (.slice Bu U.al.length cu)] true] [⟨rowFp V.al.length Bv, fun w => IsAlts w Bv V.al.length V.al⟩, ⟨rowFp U.al.length Bu, fun w => IsAlts w Bu U.al.length U.al⟩]) 9 9 HP wide_follows rfl ?_
      intro w_16 HP
      refine An.pure H (.inr (HP)) 0 36 (.int .i64 c) rfl (by kernel_rfl) (by kernel_rfl) (fun _ _ _ h => h) (fun _ => by kernel_rfl) ?_
      intro a H
      refine An.val H (HP) 2 38 (.agg #[(.int .i64 U.channel), (.int .i64 (IntKind.i64.wrap (U.frame + 1))), (.int .i64 V.version), (.int .i64 V.item), (.int .i64 V.index), (.bool V.key), (.string (bstr V.data)), (.int .i64 V.regions), (.int .i64 V.gain), (.string (bstr V.caption)), (.int .i64 V.os), (.int .i64 V.of), (.slice Bv V.al.length cv)]) rfl (by kernel_rfl) (by kernel_rfl) (fun _ _ _ h => h) (fun _ hS => ex_loadN (vs := [(.int .i64 U.channel), (.int .i64 (IntKind.i64.wrap (U.frame + 1))), (.int .i64 V.version), (.int .i64 V.item), (.int .i64 V.index), (.bool V.key), (.string (bstr V.data)), (.int .i64 V.regions), (.int .i64 V.gain), (.string (bstr V.caption)), (.int .i64 V.os), (.int .i64 V.of), (.slice Bv V.al.length cv)]) (by kernel_rfl) (by kernel_rfl) (by kernel_rfl) rfl (hS.cells 0 rfl 0 13 (by kernel_rfl))) ?_
      intro a H
      refine An.one 1 (by kernel_rfl) ?_
      refine Op.call H 37 rfl (by kernel_rfl) (Eq.trans (by kernel_rfl : _ = (callFunc 14 #[(.int .i64 c)]).run Tryd.prog w_16) (Tryd.call14 _ _)) (rate_any c w_16 hc) ?_
      rintro e w_17 ⟨rfl, hb⟩
      refine ⟨_, rfl, ?_⟩
      intro a H
      have HP := HP.next hb
      refine ⟨.inr (HP), ?_⟩
      refine An.one 3 (by kernel_rfl) ?_
      refine Op.call H 39 rfl (by kernel_rfl) (Eq.trans (by kernel_rfl : _ = (callFunc 16 #[(.agg #[(.int .i64 ((rateP c).1)), (.int .i64 ((rateP c).2))]), (.agg #[(.int .i64 U.channel), (.int .i64 (IntKind.i64.wrap (U.frame + 1))), (.int .i64 V.version), (.int .i64 V.item), (.int .i64 V.index), (.bool V.key), (.string (bstr V.data)), (.int .i64 V.regions), (.int .i64 V.gain), (.string (bstr V.caption)), (.int .i64 V.os), (.int .i64 V.of), (.slice Bv V.al.length cv)])]).run Tryd.prog w_17) (Tryd.call16 _ _)) ((by have hh := pack_any ((rateP c).1) ((rateP c).2) (⟨U.channel, IntKind.i64.wrap (U.frame + 1), V.version, V.item, V.index, V.key, V.data, V.regions, V.gain, V.caption, V.os, V.of, Bv, cv, V.al⟩ : Un) w_17 (hL.below (HP.below (by kernel_rfl))) (HP.fact 0 rfl) (Nat.le_trans hcav hcbv); rw [hZv Bv cv] at hh; exact hh)) ?_
      rintro e w_18 ⟨rfl, hb⟩
      refine ⟨_, rfl, ?_⟩
      intro a H
      have HP := HP.next hb
      refine ⟨.inr (HP), ?_⟩
      refine An.pure H (.inr (HP)) 4 35 (.tuple #[(.string (bstr lv)), (.int .i64 0)]) rfl (by kernel_rfl) (by kernel_rfl) (fun _ _ _ h => h) (fun _ => by kernel_rfl) ?_
      intro a H
      refine An.pure H (.inr (HP)) 5 40 (.string (bstr lv)) rfl (by kernel_rfl) (by kernel_rfl) (fun _ _ _ h => h) (fun _ => by kernel_rfl) ?_
      intro a H
      refine An.pure H (.inr (HP)) 6 41 (.int .i64 0) rfl (by kernel_rfl) (by kernel_rfl) (fun _ _ _ h => h) (fun _ => by kernel_rfl) ?_
      intro a H
      refine An.pure H (.inr (HP)) 7 12 (.string (bstr lv)) rfl (by kernel_rfl) (by kernel_rfl) (fun _ _ _ h => h) (fun _ => by kernel_rfl) ?_
      intro a H
      refine An.pure H (.inr (HP)) 8 13 (.int .i64 0) rfl (by kernel_rfl) (by kernel_rfl) (fun _ _ _ h => h) (fun _ => by kernel_rfl) ?_
      intro a H
      refine An.done (by kernel_rfl) ?_
      have H := H.keep (L' := [(13, (.int .i64 0)), (12, (.string (bstr lv))), (10, (.string (bstr lu))), (11, (.int .i64 0)), (9, (.bool true)), (8, (.bool false)), (6, (.pointer (some ⟨b_3, 0, none⟩))), (0, (.int .i64 c)), (3, (.bool true))]) (by kernel_rfl)
      refine then_normal ?_
      exact ⟨H.keep (by kernel_rfl), HP⟩
    ·
      rintro a w_19 ⟨H, HP⟩
      refine wp_seq ?_
      refine wp_seq ?_
      refine w_region ?_
      refine H.val 42 (.int .i64 0) (by kernel_rfl) (by kernel_rfl) ?_
      intro a H
      refine H.val 43 (.bool false) (by kernel_rfl) (by kernel_rfl) ?_
      intro a H
      refine H.val 44 (.bool false) (by kernel_rfl) (by kernel_rfl) ?_
      intro a H
      refine H.val 45 (.int .i64 0) (by kernel_rfl) (by kernel_rfl) ?_
      intro a H
      refine H.val 46 (.bool false) (by kernel_rfl) (by kernel_rfl) ?_
      intro a H
      refine H.val 47 (.bool false) (by kernel_rfl) (by kernel_rfl) ?_
      intro a H
      refine H.val 48 (.bool false) (by kernel_rfl) (by kernel_rfl) ?_
      intro a H
      refine H.val 49 (.string (bstr lu)) (by kernel_rfl) (by kernel_rfl) ?_
      intro a H
      refine H.val 50 (.int .i64 ((lu.length : Nat) : Int)) (by kernel_rfl) (by kernel_rfl) ?_
      intro a H
      refine H.valE 51 (.bool (decide (((lu.length : Nat) : Int) < 64))) (.bool false) (by kernel_rfl) (by kernel_rfl) ((congrArg Value.bool (decide_eq_false (by omega)))) ?_
      intro a H
      refine H.val 52 (.bool false) (by kernel_rfl) (by kernel_rfl) ?_
      intro a H
      refine H.val 53 (.bool false) (by kernel_rfl) (by kernel_rfl) ?_
      intro a H
      refine H.val 54 (.string (bstr lv)) (by kernel_rfl) (by kernel_rfl) ?_
      intro a H
      refine H.val 55 (.int .i64 ((lv.length : Nat) : Int)) (by kernel_rfl) (by kernel_rfl) ?_
      intro a H
      refine H.valE 56 (.bool (decide (((lv.length : Nat) : Int) < 64))) (.bool false) (by kernel_rfl) (by kernel_rfl) ((congrArg Value.bool (decide_eq_false (by omega)))) ?_
      intro a H
      refine H.val 57 (.bool false) (by kernel_rfl) (by kernel_rfl) ?_
      intro a H
      refine wpList_nil ?_
      have H := H.keep (L' := [(57, (.bool false)), (12, (.string (bstr lv))), (13, (.int .i64 0)), (10, (.string (bstr lu))), (11, (.int .i64 0)), (9, (.bool true)), (8, (.bool false)), (3, (.bool true))]) (by kernel_rfl)
      refine then_normal ?_
      refine w_iff H rfl ?_
      refine wp_skip ?_
      refine then_normal ?_
      refine wp_seq ?_
      refine w_region ?_
      refine H.val 67 (.string (bstr lu)) (by kernel_rfl) (by kernel_rfl) ?_
      intro a H
      refine H.val 68 (.string (bstr (lu.drop 64))) (by kernel_rfl) (ex_ssliceL (k := .i64) (l := lu) (i := 64) (a := 64) (by kernel_rfl) (by kernel_rfl) (by kernel_rfl) (by omega) (by omega)) ?_
      intro a H
      refine H.val 14 (.string (bstr (lu.drop 64))) (by kernel_rfl) (by kernel_rfl) ?_
      intro a H
      refine wpList_nil ?_
      refine then_normal ?_
      refine wp_seq ?_
      refine w_region ?_
      refine H.val 69 (.string (bstr lv)) (by kernel_rfl) (by kernel_rfl) ?_
      intro a H
      refine H.val 70 (.string (bstr (lv.drop 64))) (by kernel_rfl) (ex_ssliceL (k := .i64) (l := lv) (i := 64) (a := 64) (by kernel_rfl) (by kernel_rfl) (by kernel_rfl) (by omega) (by omega)) ?_
      intro a H
      refine H.val 15 (.string (bstr (lv.drop 64))) (by kernel_rfl) (by kernel_rfl) ?_
      intro a H
      refine wpList_nil ?_
      refine then_normal ?_
      refine wp_seq ?_
      refine wp_seq ?_
      refine w_region ?_
      refine H.val 71 (.bool true) (by kernel_rfl) (by kernel_rfl) ?_
      intro a H
      refine wpList_nil ?_
      refine then_normal ?_
      refine w_ift H rfl ?_
      refine wp_seq ?_
      refine w_region ?_
      refine H.val 72 (.string (bstr lu)) (by kernel_rfl) (by kernel_rfl) ?_
      intro a H
      refine H.val 73 (.string (bstr lu)) (by kernel_rfl) (by kernel_rfl) ?_
      intro a H
      refine H.val 74 (.int .i64 ((lu.length : Nat) : Int)) (by kernel_rfl) (by kernel_rfl) ?_
      intro a H
      refine H.valE 75 (.int .i64 (IntKind.i64.wrap (((lu.length : Nat) : Int) - 64))) (.int .i64 ((lu.length - 64 : Nat) : Int)) (by kernel_rfl) (by kernel_rfl) ((by rw [wrap_ini64 _ (by omega)]; exact congrArg (Value.int .i64) (by omega))) ?_
      intro a H
      refine H.val 76 (.string (bstr (lu.take (lu.length - 64)))) (by kernel_rfl) (ex_ssliceH (kk := .i64) (l := lu) (j := ((lu.length - 64 : Nat) : Int)) (b := (lu.length - 64)) (by kernel_rfl) (by kernel_rfl) (by kernel_rfl) (by omega) (by omega)) ?_
      intro a H
      refine H.val 14 (.string (bstr (lu.take (lu.length - 64)))) (by kernel_rfl) (by kernel_rfl) ?_
      intro a H
      refine wpList_nil ?_
      have H := H.keep (L' := [(14, (.string (bstr (lu.take (lu.length - 64))))), (71, (.bool true)), (15, (.string (bstr (lv.drop 64)))), (70, (.string (bstr (lv.drop 64)))), (69, (.string (bstr lv))), (68, (.string (bstr (lu.drop 64)))), (67, (.string (bstr lu))), (57, (.bool false)), (12, (.string (bstr lv))), (13, (.int .i64 0)), (10, (.string (bstr lu))), (11, (.int .i64 0)), (9, (.bool true)), (8, (.bool false)), (3, (.bool true))]) (by kernel_rfl)
      refine then_normal ?_
      refine w_region ?_
      refine H.val 77 (.string (bstr lv)) (by kernel_rfl) (by kernel_rfl) ?_
      intro a H
      refine H.val 78 (.string (bstr lv)) (by kernel_rfl) (by kernel_rfl) ?_
      intro a H
      refine H.val 79 (.int .i64 ((lv.length : Nat) : Int)) (by kernel_rfl) (by kernel_rfl) ?_
      intro a H
      refine H.valE 80 (.int .i64 (IntKind.i64.wrap (((lv.length : Nat) : Int) - 64))) (.int .i64 ((lv.length - 64 : Nat) : Int)) (by kernel_rfl) (by kernel_rfl) ((by rw [wrap_ini64 _ (by omega)]; exact congrArg (Value.int .i64) (by omega))) ?_
      intro a H
      refine H.val 81 (.string (bstr (lv.take (lv.length - 64)))) (by kernel_rfl) (ex_ssliceH (kk := .i64) (l := lv) (j := ((lv.length - 64 : Nat) : Int)) (b := (lv.length - 64)) (by kernel_rfl) (by kernel_rfl) (by kernel_rfl) (by omega) (by omega)) ?_
      intro a H
      refine H.val 15 (.string (bstr (lv.take (lv.length - 64)))) (by kernel_rfl) (by kernel_rfl) ?_
      intro a H
      refine wpList_nil ?_
      have H := H.keep (L' := [(15, (.string (bstr (lv.take (lv.length - 64))))), (14, (.string (bstr (lu.take (lu.length - 64))))), (71, (.bool true)), (70, (.string (bstr (lv.drop 64)))), (69, (.string (bstr lv))), (68, (.string (bstr (lu.drop 64)))), (67, (.string (bstr lu))), (57, (.bool false)), (12, (.string (bstr lv))), (13, (.int .i64 0)), (10, (.string (bstr lu))), (11, (.int .i64 0)), (9, (.bool true)), (8, (.bool false)), (3, (.bool true))]) (by kernel_rfl)
      refine then_normal ?_
      refine wp_seq ?_
      refine w_region ?_
      refine H.val 82 (.bool true) (by kernel_rfl) (by kernel_rfl) ?_
      intro a H
      refine H.val 83 (.bool true) (by kernel_rfl) (by kernel_rfl) ?_
      intro a H
      refine H.val 84 (.string (bstr lu)) (by kernel_rfl) (by kernel_rfl) ?_
      intro a H
      refine H.val 85 (.string (bstr lv)) (by kernel_rfl) (by kernel_rfl) ?_
      intro a H
      refine H.call 86 (by kernel_rfl) (Eq.trans (by kernel_rfl : _ = (callFunc 24 #[(.string (bstr lu)), (.string (bstr lv))]).run Tryd.prog w_19) (Tryd.call24 _ _)) ((by have hh := follows_any lu lv w_19 (by first | omega | (simp only [List.length_take, List.length_drop]; omega)) (by first | omega | (simp only [List.length_take, List.length_drop]; omega)); rw [hfw] at hh; exact hh)) ?_
      rintro e w_20 ⟨rfl, hb⟩
      refine ⟨_, rfl, ?_⟩
      intro a H
      have HP := HP.next hb
      refine H.val 87 (.bool true) (by kernel_rfl) (by kernel_rfl) ?_
      intro a H
      refine H.val 88 (.bool true) (by kernel_rfl) (by kernel_rfl) ?_
      intro a H
      refine H.val 89 (.string (bstr (lu.take (lu.length - 64)))) (by kernel_rfl) (by kernel_rfl) ?_
      intro a H
      refine H.val 90 (.string (bstr lv)) (by kernel_rfl) (by kernel_rfl) ?_
      intro a H
      refine H.call 91 (by kernel_rfl) (Eq.trans (by kernel_rfl : _ = (callFunc 24 #[(.string (bstr (lu.take (lu.length - 64)))), (.string (bstr lv))]).run Tryd.prog w_20) (Tryd.call24 _ _)) ((by have hh := follows_any (lu.take (lu.length - 64)) lv w_20 (by first | omega | (simp only [List.length_take, List.length_drop]; omega)) (by first | omega | (simp only [List.length_take, List.length_drop]; omega)); rw [follows_l (exam_take (hZu none 0))] at hh; exact hh)) ?_
      rintro e w_21 ⟨rfl, hb⟩
      refine ⟨_, rfl, ?_⟩
      intro a H
      have HP := HP.next hb
      refine H.val 92 (.bool true) (by kernel_rfl) (by kernel_rfl) ?_
      intro a H
      refine H.val 93 (.bool true) (by kernel_rfl) (by kernel_rfl) ?_
      intro a H
      refine H.val 94 (.bool true) (by kernel_rfl) (by kernel_rfl) ?_
      intro a H
      refine H.val 95 (.string (bstr lu)) (by kernel_rfl) (by kernel_rfl) ?_
      intro a H
      refine H.val 96 (.string (bstr (lv.take (lv.length - 64)))) (by kernel_rfl) (by kernel_rfl) ?_
      intro a H
      refine H.call 97 (by kernel_rfl) (Eq.trans (by kernel_rfl : _ = (callFunc 24 #[(.string (bstr lu)), (.string (bstr (lv.take (lv.length - 64))))]).run Tryd.prog w_21) (Tryd.call24 _ _)) ((by have hh := follows_any lu (lv.take (lv.length - 64)) w_21 (by first | omega | (simp only [List.length_take, List.length_drop]; omega)) (by first | omega | (simp only [List.length_take, List.length_drop]; omega)); rw [follows_r (exam_take (hZv none 0))] at hh; exact hh)) ?_
      rintro e w_22 ⟨rfl, hb⟩
      refine ⟨_, rfl, ?_⟩
      intro a H
      have HP := HP.next hb
      refine H.val 98 (.bool true) (by kernel_rfl) (by kernel_rfl) ?_
      intro a H
      refine H.val 99 (.bool true) (by kernel_rfl) (by kernel_rfl) ?_
      intro a H
      refine H.val 8 (.bool true) (by kernel_rfl) (by kernel_rfl) ?_
      intro a H
      refine wpList_nil ?_
      have H := H.keep (L' := [(8, (.bool true)), (15, (.string (bstr (lv.take (lv.length - 64))))), (14, (.string (bstr (lu.take (lu.length - 64))))), (71, (.bool true)), (70, (.string (bstr (lv.drop 64)))), (69, (.string (bstr lv))), (68, (.string (bstr (lu.drop 64)))), (67, (.string (bstr lu))), (57, (.bool false)), (12, (.string (bstr lv))), (13, (.int .i64 0)), (10, (.string (bstr lu))), (11, (.int .i64 0)), (9, (.bool true)), (3, (.bool true))]) (by kernel_rfl)
      refine then_normal ?_
      refine wp_ret ?_
      refine H.ret1 (fn := Tryd.f12) Tryd.results12 (RV.tmp_ (v := (.bool true)) (by kernel_rfl)) ?_
      exact ⟨rfl, (HP.below (by kernel_rfl))⟩
set_option maxRecDepth 100000 in
set_option maxHeartbeats 4000000 in
theorem gap_fn (c : Int) (u v U V : Un) (w : World) (hU : shortU u = U) (hV : shortU v = V) (hL : Laid w) (hc : -9223372036854775808 ≤ c ∧ c ≤ 9223372036854775807) (huu : IsAlts w u.A u.al.length u.al) (hcu : u.al.length ≤ u.c) (hAu : u.A = none → u.c = 0) (huv : IsAlts w v.A v.al.length v.al) (hcv : v.al.length ≤ v.c) (hAv : v.A = none → v.c = 0) (Zv : Option (List UInt8)) (hZu : ∀ B c', packP (rateP c).1 (rateP c).2 ({ U with A := B, c := c' } : Un) = none) (hZv : ∀ B c', packP (rateP c).1 (rateP c).2 (⟨U.channel, IntKind.i64.wrap (U.frame + 1), V.version, V.item, V.index, V.key, V.data, V.regions, V.gain, V.caption, V.os, V.of, B, c', V.al⟩ : Un) = Zv) :
    Calls Tryd.prog 12 #[.int .i64 c, u.val, v.val, .bool false] w fun e w' => e = .returned (.bool true) ∧ Below w.heap.size w w' := by
  have HP := Hp.start w
  refine w_enter 100 [(0, (.int .i64 c)), (1, (.agg #[(.int .i64 u.channel), (.int .i64 u.frame), (.int .i64 u.version), (.int .i64 u.item), (.int .i64 u.index), (.bool u.key), (.string (bstr u.data)), (.int .i64 u.regions), (.int .i64 u.gain), (.string (bstr u.caption)), (.int .i64 u.os), (.int .i64 u.of), (.slice u.A u.al.length u.c)])), (2, (.agg #[(.int .i64 v.channel), (.int .i64 v.frame), (.int .i64 v.version), (.int .i64 v.item), (.int .i64 v.index), (.bool v.key), (.string (bstr v.data)), (.int .i64 v.regions), (.int .i64 v.gain), (.string (bstr v.caption)), (.int .i64 v.os), (.int .i64 v.of), (.slice v.A v.al.length v.c)])), (3, (.bool false))] Tryd.func12 rfl Tryd.ntmps12 (by kernel_rfl) (by kernel_rfl) ?_
  intro a H
  refine wp_seq ?_
  refine w_region ?_
  refine H.alloc HP 5 (fun b => (.pointer (some ⟨b, 0, none⟩))) 28 [(.int .i64 u.channel), (.int .i64 u.frame), (.int .i64 u.version), (.int .i64 u.item), (.int .i64 u.index), (.bool u.key), (.string (bstr u.data)), (.int .i64 u.regions), (.int .i64 u.gain), (.string (bstr u.caption)), (.int .i64 u.os), (.int .i64 u.of), (.slice u.A u.al.length u.c)] (by kernel_rfl) (fun w => by kernel_rfl) ?_
  intro b_1 w_2 a H HP
  refine H.alloc HP 6 (fun b => (.pointer (some ⟨b, 0, none⟩))) 28 [(.int .i64 v.channel), (.int .i64 v.frame), (.int .i64 v.version), (.int .i64 v.item), (.int .i64 v.index), (.bool v.key), (.string (bstr v.data)), (.int .i64 v.regions), (.int .i64 v.gain), (.string (bstr v.caption)), (.int .i64 v.os), (.int .i64 v.of), (.slice v.A v.al.length v.c)] (by kernel_rfl) (fun w => by kernel_rfl) ?_
  intro b_3 w_4 a H HP
  refine H.val 8 (.bool false) (by kernel_rfl) (by kernel_rfl) ?_
  intro a H
  refine wpList_nil ?_
  refine then_normal ?_
  refine wp_seq ?_
  refine w_region ?_
  refine H.call 16 (by kernel_rfl) (Eq.trans (by kernel_rfl : _ = (callFunc 13 #[]).run Tryd.prog w_4) (Tryd.call13 _ _)) (sane_any w_4 (hL.below (HP.below (by kernel_rfl)))) ?_
  rintro e w_5 ⟨rfl, hb⟩
  refine ⟨_, rfl, ?_⟩
  intro a H
  have HP := HP.next hb
  refine H.val 9 (.bool true) (by kernel_rfl) (by kernel_rfl) ?_
  intro a H
  refine wpList_nil ?_
  refine then_normal ?_
  refine wp_seq ?_
  refine w_region ?_
  refine H.val 17 (.agg #[(.int .i64 u.channel), (.int .i64 u.frame), (.int .i64 u.version), (.int .i64 u.item), (.int .i64 u.index), (.bool u.key), (.string (bstr u.data)), (.int .i64 u.regions), (.int .i64 u.gain), (.string (bstr u.caption)), (.int .i64 u.os), (.int .i64 u.of), (.slice u.A u.al.length u.c)]) (by kernel_rfl) (ex_loadN (vs := [(.int .i64 u.channel), (.int .i64 u.frame), (.int .i64 u.version), (.int .i64 u.item), (.int .i64 u.index), (.bool u.key), (.string (bstr u.data)), (.int .i64 u.regions), (.int .i64 u.gain), (.string (bstr u.caption)), (.int .i64 u.os), (.int .i64 u.of), (.slice u.A u.al.length u.c)]) (by kernel_rfl) (by kernel_rfl) (by kernel_rfl) rfl (HP.cells 1 rfl 0 13 (by kernel_rfl))) ?_
  intro a H
  refine H.call 18 (by kernel_rfl) (Eq.trans (by kernel_rfl : _ = (callFunc 15 #[(.agg #[(.int .i64 u.channel), (.int .i64 u.frame), (.int .i64 u.version), (.int .i64 u.item), (.int .i64 u.index), (.bool u.key), (.string (bstr u.data)), (.int .i64 u.regions), (.int .i64 u.gain), (.string (bstr u.caption)), (.int .i64 u.os), (.int .i64 u.of), (.slice u.A u.al.length u.c)])]).run Tryd.prog w_5) (Tryd.call15 _ _)) (short_anyU hU (short_any u w_5 (huu.below (HP.below (by kernel_rfl))) hcu hAu)) ?_
  rintro e w_6 ⟨Bu, cu, rfl, halu, hcau, hcbu, hccu, hfru, hb⟩
  refine ⟨_, rfl, ?_⟩
  intro a H
  have HP := (HP.next hb).keepF ⟨rowFp U.al.length Bu, fun w => IsAlts w Bu U.al.length U.al⟩ halu (fun _ _ h hk hs => ⟨h.1, h.2.keep hk hs⟩) (fun j hj => row_sep HP halu.2 hfru hj)
  refine H.store HP 1 b_1 0 13 28 [(.int .i64 u.channel), (.int .i64 u.frame), (.int .i64 u.version), (.int .i64 u.item), (.int .i64 u.index), (.bool u.key), (.string (bstr u.data)), (.int .i64 u.regions), (.int .i64 u.gain), (.string (bstr u.caption)), (.int .i64 u.os), (.int .i64 u.of), (.slice u.A u.al.length u.c)] true (.agg #[(.int .i64 U.channel), (.int .i64 U.frame), (.int .i64 U.version), (.int .i64 U.item), (.int .i64 U.index), (.bool U.key), (.string (bstr U.data)), (.int .i64 U.regions), (.int .i64 U.gain), (.string (bstr U.caption)), (.int .i64 U.os), (.int .i64 U.of), (.slice Bu U.al.length cu)]) [bx b_3 28 [(.int .i64 v.channel), (.int .i64 v.frame), (.int .i64 v.version), (.int .i64 v.item), (.int .i64 v.index), (.bool v.key), (.string (bstr v.data)), (.int .i64 v.regions), (.int .i64 v.gain), (.string (bstr v.caption)), (.int .i64 v.os), (.int .i64 v.of), (.slice v.A v.al.length v.c)] true, bx b_1 28 [(.int .i64 U.channel), (.int .i64 U.frame), (.int .i64 U.version), (.int .i64 U.item), (.int .i64 U.index), (.bool U.key), (.string (bstr U.data)), (.int .i64 U.regions), (.int .i64 U.gain), (.string (bstr U.caption)), (.int .i64 U.os), (.int .i64 U.of), (.slice Bu U.al.length cu)] true] (by kernel_rfl) (by kernel_rfl) (by kernel_rfl) rfl (by kernel_rfl) (by kernel_rfl) (by kernel_rfl) (by kernel_rfl) (by kernel_rfl) ?_
  intro w_7 a H HP
  refine wpList_nil ?_
  refine then_normal ?_
  refine wp_seq ?_
  refine w_region ?_
  refine H.val 19 (.agg #[(.int .i64 v.channel), (.int .i64 v.frame), (.int .i64 v.version), (.int .i64 v.item), (.int .i64 v.index), (.bool v.key), (.string (bstr v.data)), (.int .i64 v.regions), (.int .i64 v.gain), (.string (bstr v.caption)), (.int .i64 v.os), (.int .i64 v.of), (.slice v.A v.al.length v.c)]) (by kernel_rfl) (ex_loadN (vs := [(.int .i64 v.channel), (.int .i64 v.frame), (.int .i64 v.version), (.int .i64 v.item), (.int .i64 v.index), (.bool v.key), (.string (bstr v.data)), (.int .i64 v.regions), (.int .i64 v.gain), (.string (bstr v.caption)), (.int .i64 v.os), (.int .i64 v.of), (.slice v.A v.al.length v.c)]) (by kernel_rfl) (by kernel_rfl) (by kernel_rfl) rfl (HP.cells 0 rfl 0 13 (by kernel_rfl))) ?_
  intro a H
  refine H.call 20 (by kernel_rfl) (Eq.trans (by kernel_rfl : _ = (callFunc 15 #[(.agg #[(.int .i64 v.channel), (.int .i64 v.frame), (.int .i64 v.version), (.int .i64 v.item), (.int .i64 v.index), (.bool v.key), (.string (bstr v.data)), (.int .i64 v.regions), (.int .i64 v.gain), (.string (bstr v.caption)), (.int .i64 v.os), (.int .i64 v.of), (.slice v.A v.al.length v.c)])]).run Tryd.prog w_7) (Tryd.call15 _ _)) (short_anyU hV (short_any v w_7 (huv.below (HP.below (by kernel_rfl))) hcv hAv)) ?_
  rintro e w_8 ⟨Bv, cv, rfl, halv, hcav, hcbv, hccv, hfrv, hb⟩
  refine ⟨_, rfl, ?_⟩
  intro a H
  have HP := (HP.next hb).keepF ⟨rowFp V.al.length Bv, fun w => IsAlts w Bv V.al.length V.al⟩ halv (fun _ _ h hk hs => ⟨h.1, h.2.keep hk hs⟩) (fun j hj => row_sep HP halv.2 hfrv hj)
  refine H.store HP 0 b_3 0 13 28 [(.int .i64 v.channel), (.int .i64 v.frame), (.int .i64 v.version), (.int .i64 v.item), (.int .i64 v.index), (.bool v.key), (.string (bstr v.data)), (.int .i64 v.regions), (.int .i64 v.gain), (.string (bstr v.caption)), (.int .i64 v.os), (.int .i64 v.of), (.slice v.A v.al.length v.c)] true (.agg #[(.int .i64 V.channel), (.int .i64 V.frame), (.int .i64 V.version), (.int .i64 V.item), (.int .i64 V.index), (.bool V.key), (.string (bstr V.data)), (.int .i64 V.regions), (.int .i64 V.gain), (.string (bstr V.caption)), (.int .i64 V.os), (.int .i64 V.of), (.slice Bv V.al.length cv)]) [bx b_3 28 [(.int .i64 V.channel), (.int .i64 V.frame), (.int .i64 V.version), (.int .i64 V.item), (.int .i64 V.index), (.bool V.key), (.string (bstr V.data)), (.int .i64 V.regions), (.int .i64 V.gain), (.string (bstr V.caption)), (.int .i64 V.os), (.int .i64 V.of), (.slice Bv V.al.length cv)] true, bx b_1 28 [(.int .i64 U.channel), (.int .i64 U.frame), (.int .i64 U.version), (.int .i64 U.item), (.int .i64 U.index), (.bool U.key), (.string (bstr U.data)), (.int .i64 U.regions), (.int .i64 U.gain), (.string (bstr U.caption)), (.int .i64 U.os), (.int .i64 U.of), (.slice Bu U.al.length cu)] true] (by kernel_rfl) (by kernel_rfl) (by kernel_rfl) rfl (by kernel_rfl) (by kernel_rfl) (by kernel_rfl) (by kernel_rfl) (by kernel_rfl) ?_
  intro w_9 a H HP
  refine wpList_nil ?_
  refine then_normal ?_
  refine wp_seq ?_
  refine w_region ?_
  refine H.val 21 (.pointer (some ⟨b_1, 0, none⟩)) (by kernel_rfl) (by kernel_rfl) ?_
  intro a H
  refine H.val 22 (.int .i64 U.channel) (by kernel_rfl) (ex_load1 (by kernel_rfl) (by kernel_rfl) (HP.cell 1 rfl 0 rfl)) ?_
  intro a H
  refine H.val 23 (.pointer (some ⟨b_3, 0, none⟩)) (by kernel_rfl) (by kernel_rfl) ?_
  intro a H
  refine H.store HP 0 b_3 0 1 28 [(.int .i64 V.channel), (.int .i64 V.frame), (.int .i64 V.version), (.int .i64 V.item), (.int .i64 V.index), (.bool V.key), (.string (bstr V.data)), (.int .i64 V.regions), (.int .i64 V.gain), (.string (bstr V.caption)), (.int .i64 V.os), (.int .i64 V.of), (.slice Bv V.al.length cv)] true (.int .i64 U.channel) [bx b_3 28 [(.int .i64 U.channel), (.int .i64 V.frame), (.int .i64 V.version), (.int .i64 V.item), (.int .i64 V.index), (.bool V.key), (.string (bstr V.data)), (.int .i64 V.regions), (.int .i64 V.gain), (.string (bstr V.caption)), (.int .i64 V.os), (.int .i64 V.of), (.slice Bv V.al.length cv)] true, bx b_1 28 [(.int .i64 U.channel), (.int .i64 U.frame), (.int .i64 U.version), (.int .i64 U.item), (.int .i64 U.index), (.bool U.key), (.string (bstr U.data)), (.int .i64 U.regions), (.int .i64 U.gain), (.string (bstr U.caption)), (.int .i64 U.os), (.int .i64 U.of), (.slice Bu U.al.length cu)] true] (by kernel_rfl) (by kernel_rfl) (by kernel_rfl) rfl (by kernel_rfl) (by kernel_rfl) (by kernel_rfl) (by kernel_rfl) (by kernel_rfl) ?_
  intro w_10 a H HP
  refine wpList_nil ?_
  refine then_normal ?_
  refine wp_seq ?_
  refine w_region ?_
  refine H.val 24 (.pointer (some ⟨b_1, 1, none⟩)) (by kernel_rfl) (by kernel_rfl) ?_
  intro a H
  refine H.val 25 (.int .i64 U.frame) (by kernel_rfl) (ex_load1 (by kernel_rfl) (by kernel_rfl) (HP.cell 1 rfl 1 rfl)) ?_
  intro a H
  refine H.val 26 (.int .i64 (IntKind.i64.wrap (U.frame + 1))) (by kernel_rfl) (by kernel_rfl) ?_
  intro a H
  refine H.val 27 (.pointer (some ⟨b_3, 1, none⟩)) (by kernel_rfl) (by kernel_rfl) ?_
  intro a H
  refine H.store HP 0 b_3 1 1 28 [(.int .i64 U.channel), (.int .i64 V.frame), (.int .i64 V.version), (.int .i64 V.item), (.int .i64 V.index), (.bool V.key), (.string (bstr V.data)), (.int .i64 V.regions), (.int .i64 V.gain), (.string (bstr V.caption)), (.int .i64 V.os), (.int .i64 V.of), (.slice Bv V.al.length cv)] true (.int .i64 (IntKind.i64.wrap (U.frame + 1))) [bx b_3 28 [(.int .i64 U.channel), (.int .i64 (IntKind.i64.wrap (U.frame + 1))), (.int .i64 V.version), (.int .i64 V.item), (.int .i64 V.index), (.bool V.key), (.string (bstr V.data)), (.int .i64 V.regions), (.int .i64 V.gain), (.string (bstr V.caption)), (.int .i64 V.os), (.int .i64 V.of), (.slice Bv V.al.length cv)] true, bx b_1 28 [(.int .i64 U.channel), (.int .i64 U.frame), (.int .i64 U.version), (.int .i64 U.item), (.int .i64 U.index), (.bool U.key), (.string (bstr U.data)), (.int .i64 U.regions), (.int .i64 U.gain), (.string (bstr U.caption)), (.int .i64 U.os), (.int .i64 U.of), (.slice Bu U.al.length cu)] true] (by kernel_rfl) (by kernel_rfl) (by kernel_rfl) rfl (by kernel_rfl) (by kernel_rfl) (by kernel_rfl) (by kernel_rfl) (by kernel_rfl) ?_
  intro w_11 a H HP
  refine wpList_nil ?_
  refine then_normal ?_
  refine w_cut (fun a wv => Sl 100 [(10, (.string (bstr ([])))), (11, (.int .i64 180)), (9, (.bool true)), (8, (.bool false)), (6, (.pointer (some ⟨b_3, 0, none⟩))), (0, (.int .i64 c)), (3, (.bool false))] a ∧ Hp w wv [bx b_3 28 [(.int .i64 U.channel), (.int .i64 (IntKind.i64.wrap (U.frame + 1))), (.int .i64 V.version), (.int .i64 V.item), (.int .i64 V.index), (.bool V.key), (.string (bstr V.data)), (.int .i64 V.regions), (.int .i64 V.gain), (.string (bstr V.caption)), (.int .i64 V.os), (.int .i64 V.of), (.slice Bv V.al.length cv)] true, bx b_1 28 [(.int .i64 U.channel), (.int .i64 U.frame), (.int .i64 U.version), (.int .i64 U.item), (.int .i64 U.index), (.bool U.key), (.string (bstr U.data)), (.int .i64 U.regions), (.int .i64 U.gain), (.string (bstr U.caption)), (.int .i64 U.os), (.int .i64 U.of), (.slice Bu U.al.length cu)] true] [⟨rowFp V.al.length Bv, fun w => IsAlts w Bv V.al.length V.al⟩, ⟨rowFp U.al.length Bu, fun w => IsAlts w Bu U.al.length U.al⟩]) ?_ ?_
  ·
    refine An.start (fun v => Hp w v [bx b_3 28 [(.int .i64 U.channel), (.int .i64 (IntKind.i64.wrap (U.frame + 1))), (.int .i64 V.version), (.int .i64 V.item), (.int .i64 V.index), (.bool V.key), (.string (bstr V.data)), (.int .i64 V.regions), (.int .i64 V.gain), (.string (bstr V.caption)), (.int .i64 V.os), (.int .i64 V.of), (.slice Bv V.al.length cv)] true, bx b_1 28 [(.int .i64 U.channel), (.int .i64 U.frame), (.int .i64 U.version), (.int .i64 U.item), (.int .i64 U.index), (.bool U.key), (.string (bstr U.data)), (.int .i64 U.regions), (.int .i64 U.gain), (.string (bstr U.caption)), (.int .i64 U.os), (.int .i64 U.of), (.slice Bu U.al.length cu)] true] [⟨rowFp V.al.length Bv, fun w => IsAlts w Bv V.al.length V.al⟩, ⟨rowFp U.al.length Bu, fun w => IsAlts w Bu U.al.length U.al⟩]) 9 9 HP wide_follows rfl ?_
    intro w_12 HP
    refine An.pure H (.inr (HP)) 0 29 (.int .i64 c) rfl (by kernel_rfl) (by kernel_rfl) (fun _ _ _ h => h) (fun _ => by kernel_rfl) ?_
    intro a H
    refine An.val H (HP) 2 31 (.agg #[(.int .i64 U.channel), (.int .i64 U.frame), (.int .i64 U.version), (.int .i64 U.item), (.int .i64 U.index), (.bool U.key), (.string (bstr U.data)), (.int .i64 U.regions), (.int .i64 U.gain), (.string (bstr U.caption)), (.int .i64 U.os), (.int .i64 U.of), (.slice Bu U.al.length cu)]) rfl (by kernel_rfl) (by kernel_rfl) (fun _ _ _ h => h) (fun _ hS => ex_loadN (vs := [(.int .i64 U.channel), (.int .i64 U.frame), (.int .i64 U.version), (.int .i64 U.item), (.int .i64 U.index), (.bool U.key), (.string (bstr U.data)), (.int .i64 U.regions), (.int .i64 U.gain), (.string (bstr U.caption)), (.int .i64 U.os), (.int .i64 U.of), (.slice Bu U.al.length cu)]) (by kernel_rfl) (by kernel_rfl) (by kernel_rfl) rfl (hS.cells 1 rfl 0 13 (by kernel_rfl))) ?_
    intro a H
    refine An.one 1 (by kernel_rfl) ?_
    refine Op.call H 30 rfl (by kernel_rfl) (Eq.trans (by kernel_rfl : _ = (callFunc 14 #[(.int .i64 c)]).run Tryd.prog w_12) (Tryd.call14 _ _)) (rate_any c w_12 hc) ?_
    rintro e w_13 ⟨rfl, hb⟩
    refine ⟨_, rfl, ?_⟩
    intro a H
    have HP := HP.next hb
    refine ⟨.inr (HP), ?_⟩
    refine An.one 3 (by kernel_rfl) ?_
    refine Op.call H 32 rfl (by kernel_rfl) (Eq.trans (by kernel_rfl : _ = (callFunc 16 #[(.agg #[(.int .i64 ((rateP c).1)), (.int .i64 ((rateP c).2))]), (.agg #[(.int .i64 U.channel), (.int .i64 U.frame), (.int .i64 U.version), (.int .i64 U.item), (.int .i64 U.index), (.bool U.key), (.string (bstr U.data)), (.int .i64 U.regions), (.int .i64 U.gain), (.string (bstr U.caption)), (.int .i64 U.os), (.int .i64 U.of), (.slice Bu U.al.length cu)])]).run Tryd.prog w_13) (Tryd.call16 _ _)) ((by have hh := pack_any ((rateP c).1) ((rateP c).2) (⟨U.channel, U.frame, U.version, U.item, U.index, U.key, U.data, U.regions, U.gain, U.caption, U.os, U.of, Bu, cu, U.al⟩ : Un) w_13 (hL.below (HP.below (by kernel_rfl))) (HP.fact 1 rfl) (Nat.le_trans hcau hcbu); rw [hZu Bu cu] at hh; exact hh)) ?_
    rintro e w_14 ⟨rfl, hb⟩
    refine ⟨_, rfl, ?_⟩
    intro a H
    have HP := HP.next hb
    refine ⟨.inr (HP), ?_⟩
    refine An.pure H (.inr (HP)) 4 28 (.tuple #[(.string (bstr ([]))), (.int .i64 180)]) rfl (by kernel_rfl) (by kernel_rfl) (fun _ _ _ h => h) (fun _ => by kernel_rfl) ?_
    intro a H
    refine An.pure H (.inr (HP)) 5 33 (.string (bstr ([]))) rfl (by kernel_rfl) (by kernel_rfl) (fun _ _ _ h => h) (fun _ => by kernel_rfl) ?_
    intro a H
    refine An.pure H (.inr (HP)) 6 34 (.int .i64 180) rfl (by kernel_rfl) (by kernel_rfl) (fun _ _ _ h => h) (fun _ => by kernel_rfl) ?_
    intro a H
    refine An.pure H (.inr (HP)) 7 10 (.string (bstr ([]))) rfl (by kernel_rfl) (by kernel_rfl) (fun _ _ _ h => h) (fun _ => by kernel_rfl) ?_
    intro a H
    refine An.pure H (.inr (HP)) 8 11 (.int .i64 180) rfl (by kernel_rfl) (by kernel_rfl) (fun _ _ _ h => h) (fun _ => by kernel_rfl) ?_
    intro a H
    refine An.done (by kernel_rfl) ?_
    have H := H.keep (L' := [(11, (.int .i64 180)), (10, (.string (bstr ([])))), (27, (.pointer (some ⟨b_3, 1, none⟩))), (26, (.int .i64 (IntKind.i64.wrap (U.frame + 1)))), (25, (.int .i64 U.frame)), (24, (.pointer (some ⟨b_1, 1, none⟩))), (23, (.pointer (some ⟨b_3, 0, none⟩))), (22, (.int .i64 U.channel)), (21, (.pointer (some ⟨b_1, 0, none⟩))), (20, (.agg #[(.int .i64 V.channel), (.int .i64 V.frame), (.int .i64 V.version), (.int .i64 V.item), (.int .i64 V.index), (.bool V.key), (.string (bstr V.data)), (.int .i64 V.regions), (.int .i64 V.gain), (.string (bstr V.caption)), (.int .i64 V.os), (.int .i64 V.of), (.slice Bv V.al.length cv)])), (19, (.agg #[(.int .i64 v.channel), (.int .i64 v.frame), (.int .i64 v.version), (.int .i64 v.item), (.int .i64 v.index), (.bool v.key), (.string (bstr v.data)), (.int .i64 v.regions), (.int .i64 v.gain), (.string (bstr v.caption)), (.int .i64 v.os), (.int .i64 v.of), (.slice v.A v.al.length v.c)])), (18, (.agg #[(.int .i64 U.channel), (.int .i64 U.frame), (.int .i64 U.version), (.int .i64 U.item), (.int .i64 U.index), (.bool U.key), (.string (bstr U.data)), (.int .i64 U.regions), (.int .i64 U.gain), (.string (bstr U.caption)), (.int .i64 U.os), (.int .i64 U.of), (.slice Bu U.al.length cu)])), (17, (.agg #[(.int .i64 u.channel), (.int .i64 u.frame), (.int .i64 u.version), (.int .i64 u.item), (.int .i64 u.index), (.bool u.key), (.string (bstr u.data)), (.int .i64 u.regions), (.int .i64 u.gain), (.string (bstr u.caption)), (.int .i64 u.os), (.int .i64 u.of), (.slice u.A u.al.length u.c)])), (9, (.bool true)), (16, (.bool true)), (8, (.bool false)), (6, (.pointer (some ⟨b_3, 0, none⟩))), (5, (.pointer (some ⟨b_1, 0, none⟩))), (0, (.int .i64 c)), (1, (.agg #[(.int .i64 u.channel), (.int .i64 u.frame), (.int .i64 u.version), (.int .i64 u.item), (.int .i64 u.index), (.bool u.key), (.string (bstr u.data)), (.int .i64 u.regions), (.int .i64 u.gain), (.string (bstr u.caption)), (.int .i64 u.os), (.int .i64 u.of), (.slice u.A u.al.length u.c)])), (2, (.agg #[(.int .i64 v.channel), (.int .i64 v.frame), (.int .i64 v.version), (.int .i64 v.item), (.int .i64 v.index), (.bool v.key), (.string (bstr v.data)), (.int .i64 v.regions), (.int .i64 v.gain), (.string (bstr v.caption)), (.int .i64 v.os), (.int .i64 v.of), (.slice v.A v.al.length v.c)])), (3, (.bool false))]) (by kernel_rfl)
    refine then_normal ?_
    exact ⟨H.keep (by kernel_rfl), HP⟩
  ·
    rintro a w_15 ⟨H, HP⟩
    refine w_cut (fun a wv => Sl 100 [(12, (.string (bstr (Zv.getD [])))), (13, (.int .i64 (if Zv.isSome = true then 0 else 180 : Int))), (10, (.string (bstr ([])))), (11, (.int .i64 180)), (9, (.bool true)), (8, (.bool false)), (3, (.bool false))] a ∧ Hp w wv [bx b_3 28 [(.int .i64 U.channel), (.int .i64 (IntKind.i64.wrap (U.frame + 1))), (.int .i64 V.version), (.int .i64 V.item), (.int .i64 V.index), (.bool V.key), (.string (bstr V.data)), (.int .i64 V.regions), (.int .i64 V.gain), (.string (bstr V.caption)), (.int .i64 V.os), (.int .i64 V.of), (.slice Bv V.al.length cv)] true, bx b_1 28 [(.int .i64 U.channel), (.int .i64 U.frame), (.int .i64 U.version), (.int .i64 U.item), (.int .i64 U.index), (.bool U.key), (.string (bstr U.data)), (.int .i64 U.regions), (.int .i64 U.gain), (.string (bstr U.caption)), (.int .i64 U.os), (.int .i64 U.of), (.slice Bu U.al.length cu)] true] [⟨rowFp V.al.length Bv, fun w => IsAlts w Bv V.al.length V.al⟩, ⟨rowFp U.al.length Bu, fun w => IsAlts w Bu U.al.length U.al⟩]) ?_ ?_
    ·
      refine An.start (fun v => Hp w v [bx b_3 28 [(.int .i64 U.channel), (.int .i64 (IntKind.i64.wrap (U.frame + 1))), (.int .i64 V.version), (.int .i64 V.item), (.int .i64 V.index), (.bool V.key), (.string (bstr V.data)), (.int .i64 V.regions), (.int .i64 V.gain), (.string (bstr V.caption)), (.int .i64 V.os), (.int .i64 V.of), (.slice Bv V.al.length cv)] true, bx b_1 28 [(.int .i64 U.channel), (.int .i64 U.frame), (.int .i64 U.version), (.int .i64 U.item), (.int .i64 U.index), (.bool U.key), (.string (bstr U.data)), (.int .i64 U.regions), (.int .i64 U.gain), (.string (bstr U.caption)), (.int .i64 U.os), (.int .i64 U.of), (.slice Bu U.al.length cu)] true] [⟨rowFp V.al.length Bv, fun w => IsAlts w Bv V.al.length V.al⟩, ⟨rowFp U.al.length Bu, fun w => IsAlts w Bu U.al.length U.al⟩]) 9 9 HP wide_follows rfl ?_
      intro w_16 HP
      refine An.pure H (.inr (HP)) 0 36 (.int .i64 c) rfl (by kernel_rfl) (by kernel_rfl) (fun _ _ _ h => h) (fun _ => by kernel_rfl) ?_
      intro a H
      refine An.val H (HP) 2 38 (.agg #[(.int .i64 U.channel), (.int .i64 (IntKind.i64.wrap (U.frame + 1))), (.int .i64 V.version), (.int .i64 V.item), (.int .i64 V.index), (.bool V.key), (.string (bstr V.data)), (.int .i64 V.regions), (.int .i64 V.gain), (.string (bstr V.caption)), (.int .i64 V.os), (.int .i64 V.of), (.slice Bv V.al.length cv)]) rfl (by kernel_rfl) (by kernel_rfl) (fun _ _ _ h => h) (fun _ hS => ex_loadN (vs := [(.int .i64 U.channel), (.int .i64 (IntKind.i64.wrap (U.frame + 1))), (.int .i64 V.version), (.int .i64 V.item), (.int .i64 V.index), (.bool V.key), (.string (bstr V.data)), (.int .i64 V.regions), (.int .i64 V.gain), (.string (bstr V.caption)), (.int .i64 V.os), (.int .i64 V.of), (.slice Bv V.al.length cv)]) (by kernel_rfl) (by kernel_rfl) (by kernel_rfl) rfl (hS.cells 0 rfl 0 13 (by kernel_rfl))) ?_
      intro a H
      refine An.one 1 (by kernel_rfl) ?_
      refine Op.call H 37 rfl (by kernel_rfl) (Eq.trans (by kernel_rfl : _ = (callFunc 14 #[(.int .i64 c)]).run Tryd.prog w_16) (Tryd.call14 _ _)) (rate_any c w_16 hc) ?_
      rintro e w_17 ⟨rfl, hb⟩
      refine ⟨_, rfl, ?_⟩
      intro a H
      have HP := HP.next hb
      refine ⟨.inr (HP), ?_⟩
      refine An.one 3 (by kernel_rfl) ?_
      refine Op.call H 39 rfl (by kernel_rfl) (Eq.trans (by kernel_rfl : _ = (callFunc 16 #[(.agg #[(.int .i64 ((rateP c).1)), (.int .i64 ((rateP c).2))]), (.agg #[(.int .i64 U.channel), (.int .i64 (IntKind.i64.wrap (U.frame + 1))), (.int .i64 V.version), (.int .i64 V.item), (.int .i64 V.index), (.bool V.key), (.string (bstr V.data)), (.int .i64 V.regions), (.int .i64 V.gain), (.string (bstr V.caption)), (.int .i64 V.os), (.int .i64 V.of), (.slice Bv V.al.length cv)])]).run Tryd.prog w_17) (Tryd.call16 _ _)) ((by have hh := pack_any ((rateP c).1) ((rateP c).2) (⟨U.channel, IntKind.i64.wrap (U.frame + 1), V.version, V.item, V.index, V.key, V.data, V.regions, V.gain, V.caption, V.os, V.of, Bv, cv, V.al⟩ : Un) w_17 (hL.below (HP.below (by kernel_rfl))) (HP.fact 0 rfl) (Nat.le_trans hcav hcbv); rw [hZv Bv cv, packV_eq] at hh; exact hh)) ?_
      rintro e w_18 ⟨rfl, hb⟩
      refine ⟨_, rfl, ?_⟩
      intro a H
      have HP := HP.next hb
      refine ⟨.inr (HP), ?_⟩
      refine An.pure H (.inr (HP)) 4 35 (.tuple #[(.string (bstr (Zv.getD []))), (.int .i64 (if Zv.isSome = true then 0 else 180 : Int))]) rfl (by kernel_rfl) (by kernel_rfl) (fun _ _ _ h => h) (fun _ => by kernel_rfl) ?_
      intro a H
      refine An.pure H (.inr (HP)) 5 40 (.string (bstr (Zv.getD []))) rfl (by kernel_rfl) (by kernel_rfl) (fun _ _ _ h => h) (fun _ => by kernel_rfl) ?_
      intro a H
      refine An.pure H (.inr (HP)) 6 41 (.int .i64 (if Zv.isSome = true then 0 else 180 : Int)) rfl (by kernel_rfl) (by kernel_rfl) (fun _ _ _ h => h) (fun _ => by kernel_rfl) ?_
      intro a H
      refine An.pure H (.inr (HP)) 7 12 (.string (bstr (Zv.getD []))) rfl (by kernel_rfl) (by kernel_rfl) (fun _ _ _ h => h) (fun _ => by kernel_rfl) ?_
      intro a H
      refine An.pure H (.inr (HP)) 8 13 (.int .i64 (if Zv.isSome = true then 0 else 180 : Int)) rfl (by kernel_rfl) (by kernel_rfl) (fun _ _ _ h => h) (fun _ => by kernel_rfl) ?_
      intro a H
      refine An.done (by kernel_rfl) ?_
      have H := H.keep (L' := [(13, (.int .i64 (if Zv.isSome = true then 0 else 180 : Int))), (12, (.string (bstr (Zv.getD [])))), (10, (.string (bstr ([])))), (11, (.int .i64 180)), (9, (.bool true)), (8, (.bool false)), (6, (.pointer (some ⟨b_3, 0, none⟩))), (0, (.int .i64 c)), (3, (.bool false))]) (by kernel_rfl)
      refine then_normal ?_
      exact ⟨H.keep (by kernel_rfl), HP⟩
    ·
      rintro a w_19 ⟨H, HP⟩
      refine wp_seq ?_
      refine wp_seq ?_
      refine w_region ?_
      refine H.val 42 (.int .i64 180) (by kernel_rfl) (by kernel_rfl) ?_
      intro a H
      refine H.val 43 (.bool true) (by kernel_rfl) (by kernel_rfl) ?_
      intro a H
      refine H.val 44 (.bool true) (by kernel_rfl) (by kernel_rfl) ?_
      intro a H
      refine H.skip 45 (by kernel_rfl) ?_
      intro a H
      refine H.skip 46 (by kernel_rfl) ?_
      intro a H
      refine H.val 47 (.bool true) (by kernel_rfl) (by kernel_rfl) ?_
      intro a H
      refine H.val 48 (.bool true) (by kernel_rfl) (by kernel_rfl) ?_
      intro a H
      refine H.skip 49 (by kernel_rfl) ?_
      intro a H
      refine H.skip 50 (by kernel_rfl) ?_
      intro a H
      refine H.skip 51 (by kernel_rfl) ?_
      intro a H
      refine H.val 52 (.bool true) (by kernel_rfl) (by kernel_rfl) ?_
      intro a H
      refine H.val 53 (.bool true) (by kernel_rfl) (by kernel_rfl) ?_
      intro a H
      refine H.skip 54 (by kernel_rfl) ?_
      intro a H
      refine H.skip 55 (by kernel_rfl) ?_
      intro a H
      refine H.skip 56 (by kernel_rfl) ?_
      intro a H
      refine H.val 57 (.bool true) (by kernel_rfl) (by kernel_rfl) ?_
      intro a H
      refine wpList_nil ?_
      have H := H.keep (L' := [(57, (.bool true)), (12, (.string (bstr (Zv.getD [])))), (13, (.int .i64 (if Zv.isSome = true then 0 else 180 : Int))), (10, (.string (bstr ([])))), (11, (.int .i64 180)), (9, (.bool true)), (8, (.bool false)), (3, (.bool false))]) (by kernel_rfl)
      refine then_normal ?_
      refine w_ift H rfl ?_
      refine wp_seq ?_
      refine w_region ?_
      refine H.val 58 (.bool true) (by kernel_rfl) (by kernel_rfl) ?_
      intro a H
      refine H.val 59 (.bool true) (by kernel_rfl) (by kernel_rfl) ?_
      intro a H
      refine H.val 60 (.int .i64 180) (by kernel_rfl) (by kernel_rfl) ?_
      intro a H
      refine H.val 61 (.bool true) (by kernel_rfl) (by kernel_rfl) ?_
      intro a H
      refine H.val 62 (.bool true) (by kernel_rfl) (by kernel_rfl) ?_
      intro a H
      refine H.skip 63 (by kernel_rfl) ?_
      intro a H
      refine H.skip 64 (by kernel_rfl) ?_
      intro a H
      refine H.val 65 (.bool true) (by kernel_rfl) (by kernel_rfl) ?_
      intro a H
      refine H.val 66 (.bool true) (by kernel_rfl) (by kernel_rfl) ?_
      intro a H
      refine H.val 8 (.bool true) (by kernel_rfl) (by kernel_rfl) ?_
      intro a H
      refine wpList_nil ?_
      have H := H.keep (L' := [(8, (.bool true)), (57, (.bool true)), (12, (.string (bstr (Zv.getD [])))), (13, (.int .i64 (if Zv.isSome = true then 0 else 180 : Int))), (10, (.string (bstr ([])))), (11, (.int .i64 180)), (9, (.bool true)), (3, (.bool false))]) (by kernel_rfl)
      refine then_normal ?_
      refine wp_ret ?_
      refine then_ret ?_
      refine H.ret1 (fn := Tryd.f12) Tryd.results12 (RV.tmp_ (v := (.bool true)) (by kernel_rfl)) ?_
      exact ⟨rfl, (HP.below (by kernel_rfl))⟩
set_option maxRecDepth 100000 in
set_option maxHeartbeats 4000000 in
theorem gap_fsn (c : Int) (u v U V : Un) (w : World) (hU : shortU u = U) (hV : shortU v = V) (hL : Laid w) (hc : -9223372036854775808 ≤ c ∧ c ≤ 9223372036854775807) (huu : IsAlts w u.A u.al.length u.al) (hcu : u.al.length ≤ u.c) (hAu : u.A = none → u.c = 0) (huv : IsAlts w v.A v.al.length v.al) (hcv : v.al.length ≤ v.c) (hAv : v.A = none → v.c = 0) (lu : List UInt8) (hZu : ∀ B c', packP (rateP c).1 (rateP c).2 ({ U with A := B, c := c' } : Un) = some lu) (hZv : ∀ B c', packP (rateP c).1 (rateP c).2 (⟨U.channel, IntKind.i64.wrap (U.frame + 1), V.version, V.item, V.index, V.key, V.data, V.regions, V.gain, V.caption, V.os, V.of, B, c', V.al⟩ : Un) = none) :
    Calls Tryd.prog 12 #[.int .i64 c, u.val, v.val, .bool false] w fun e w' => e = .returned (.bool true) ∧ Below w.heap.size w w' := by
  have HP := Hp.start w
  refine w_enter 100 [(0, (.int .i64 c)), (1, (.agg #[(.int .i64 u.channel), (.int .i64 u.frame), (.int .i64 u.version), (.int .i64 u.item), (.int .i64 u.index), (.bool u.key), (.string (bstr u.data)), (.int .i64 u.regions), (.int .i64 u.gain), (.string (bstr u.caption)), (.int .i64 u.os), (.int .i64 u.of), (.slice u.A u.al.length u.c)])), (2, (.agg #[(.int .i64 v.channel), (.int .i64 v.frame), (.int .i64 v.version), (.int .i64 v.item), (.int .i64 v.index), (.bool v.key), (.string (bstr v.data)), (.int .i64 v.regions), (.int .i64 v.gain), (.string (bstr v.caption)), (.int .i64 v.os), (.int .i64 v.of), (.slice v.A v.al.length v.c)])), (3, (.bool false))] Tryd.func12 rfl Tryd.ntmps12 (by kernel_rfl) (by kernel_rfl) ?_
  intro a H
  refine wp_seq ?_
  refine w_region ?_
  refine H.alloc HP 5 (fun b => (.pointer (some ⟨b, 0, none⟩))) 28 [(.int .i64 u.channel), (.int .i64 u.frame), (.int .i64 u.version), (.int .i64 u.item), (.int .i64 u.index), (.bool u.key), (.string (bstr u.data)), (.int .i64 u.regions), (.int .i64 u.gain), (.string (bstr u.caption)), (.int .i64 u.os), (.int .i64 u.of), (.slice u.A u.al.length u.c)] (by kernel_rfl) (fun w => by kernel_rfl) ?_
  intro b_1 w_2 a H HP
  refine H.alloc HP 6 (fun b => (.pointer (some ⟨b, 0, none⟩))) 28 [(.int .i64 v.channel), (.int .i64 v.frame), (.int .i64 v.version), (.int .i64 v.item), (.int .i64 v.index), (.bool v.key), (.string (bstr v.data)), (.int .i64 v.regions), (.int .i64 v.gain), (.string (bstr v.caption)), (.int .i64 v.os), (.int .i64 v.of), (.slice v.A v.al.length v.c)] (by kernel_rfl) (fun w => by kernel_rfl) ?_
  intro b_3 w_4 a H HP
  refine H.val 8 (.bool false) (by kernel_rfl) (by kernel_rfl) ?_
  intro a H
  refine wpList_nil ?_
  refine then_normal ?_
  refine wp_seq ?_
  refine w_region ?_
  refine H.call 16 (by kernel_rfl) (Eq.trans (by kernel_rfl : _ = (callFunc 13 #[]).run Tryd.prog w_4) (Tryd.call13 _ _)) (sane_any w_4 (hL.below (HP.below (by kernel_rfl)))) ?_
  rintro e w_5 ⟨rfl, hb⟩
  refine ⟨_, rfl, ?_⟩
  intro a H
  have HP := HP.next hb
  refine H.val 9 (.bool true) (by kernel_rfl) (by kernel_rfl) ?_
  intro a H
  refine wpList_nil ?_
  refine then_normal ?_
  refine wp_seq ?_
  refine w_region ?_
  refine H.val 17 (.agg #[(.int .i64 u.channel), (.int .i64 u.frame), (.int .i64 u.version), (.int .i64 u.item), (.int .i64 u.index), (.bool u.key), (.string (bstr u.data)), (.int .i64 u.regions), (.int .i64 u.gain), (.string (bstr u.caption)), (.int .i64 u.os), (.int .i64 u.of), (.slice u.A u.al.length u.c)]) (by kernel_rfl) (ex_loadN (vs := [(.int .i64 u.channel), (.int .i64 u.frame), (.int .i64 u.version), (.int .i64 u.item), (.int .i64 u.index), (.bool u.key), (.string (bstr u.data)), (.int .i64 u.regions), (.int .i64 u.gain), (.string (bstr u.caption)), (.int .i64 u.os), (.int .i64 u.of), (.slice u.A u.al.length u.c)]) (by kernel_rfl) (by kernel_rfl) (by kernel_rfl) rfl (HP.cells 1 rfl 0 13 (by kernel_rfl))) ?_
  intro a H
  refine H.call 18 (by kernel_rfl) (Eq.trans (by kernel_rfl : _ = (callFunc 15 #[(.agg #[(.int .i64 u.channel), (.int .i64 u.frame), (.int .i64 u.version), (.int .i64 u.item), (.int .i64 u.index), (.bool u.key), (.string (bstr u.data)), (.int .i64 u.regions), (.int .i64 u.gain), (.string (bstr u.caption)), (.int .i64 u.os), (.int .i64 u.of), (.slice u.A u.al.length u.c)])]).run Tryd.prog w_5) (Tryd.call15 _ _)) (short_anyU hU (short_any u w_5 (huu.below (HP.below (by kernel_rfl))) hcu hAu)) ?_
  rintro e w_6 ⟨Bu, cu, rfl, halu, hcau, hcbu, hccu, hfru, hb⟩
  refine ⟨_, rfl, ?_⟩
  intro a H
  have HP := (HP.next hb).keepF ⟨rowFp U.al.length Bu, fun w => IsAlts w Bu U.al.length U.al⟩ halu (fun _ _ h hk hs => ⟨h.1, h.2.keep hk hs⟩) (fun j hj => row_sep HP halu.2 hfru hj)
  refine H.store HP 1 b_1 0 13 28 [(.int .i64 u.channel), (.int .i64 u.frame), (.int .i64 u.version), (.int .i64 u.item), (.int .i64 u.index), (.bool u.key), (.string (bstr u.data)), (.int .i64 u.regions), (.int .i64 u.gain), (.string (bstr u.caption)), (.int .i64 u.os), (.int .i64 u.of), (.slice u.A u.al.length u.c)] true (.agg #[(.int .i64 U.channel), (.int .i64 U.frame), (.int .i64 U.version), (.int .i64 U.item), (.int .i64 U.index), (.bool U.key), (.string (bstr U.data)), (.int .i64 U.regions), (.int .i64 U.gain), (.string (bstr U.caption)), (.int .i64 U.os), (.int .i64 U.of), (.slice Bu U.al.length cu)]) [bx b_3 28 [(.int .i64 v.channel), (.int .i64 v.frame), (.int .i64 v.version), (.int .i64 v.item), (.int .i64 v.index), (.bool v.key), (.string (bstr v.data)), (.int .i64 v.regions), (.int .i64 v.gain), (.string (bstr v.caption)), (.int .i64 v.os), (.int .i64 v.of), (.slice v.A v.al.length v.c)] true, bx b_1 28 [(.int .i64 U.channel), (.int .i64 U.frame), (.int .i64 U.version), (.int .i64 U.item), (.int .i64 U.index), (.bool U.key), (.string (bstr U.data)), (.int .i64 U.regions), (.int .i64 U.gain), (.string (bstr U.caption)), (.int .i64 U.os), (.int .i64 U.of), (.slice Bu U.al.length cu)] true] (by kernel_rfl) (by kernel_rfl) (by kernel_rfl) rfl (by kernel_rfl) (by kernel_rfl) (by kernel_rfl) (by kernel_rfl) (by kernel_rfl) ?_
  intro w_7 a H HP
  refine wpList_nil ?_
  refine then_normal ?_
  refine wp_seq ?_
  refine w_region ?_
  refine H.val 19 (.agg #[(.int .i64 v.channel), (.int .i64 v.frame), (.int .i64 v.version), (.int .i64 v.item), (.int .i64 v.index), (.bool v.key), (.string (bstr v.data)), (.int .i64 v.regions), (.int .i64 v.gain), (.string (bstr v.caption)), (.int .i64 v.os), (.int .i64 v.of), (.slice v.A v.al.length v.c)]) (by kernel_rfl) (ex_loadN (vs := [(.int .i64 v.channel), (.int .i64 v.frame), (.int .i64 v.version), (.int .i64 v.item), (.int .i64 v.index), (.bool v.key), (.string (bstr v.data)), (.int .i64 v.regions), (.int .i64 v.gain), (.string (bstr v.caption)), (.int .i64 v.os), (.int .i64 v.of), (.slice v.A v.al.length v.c)]) (by kernel_rfl) (by kernel_rfl) (by kernel_rfl) rfl (HP.cells 0 rfl 0 13 (by kernel_rfl))) ?_
  intro a H
  refine H.call 20 (by kernel_rfl) (Eq.trans (by kernel_rfl : _ = (callFunc 15 #[(.agg #[(.int .i64 v.channel), (.int .i64 v.frame), (.int .i64 v.version), (.int .i64 v.item), (.int .i64 v.index), (.bool v.key), (.string (bstr v.data)), (.int .i64 v.regions), (.int .i64 v.gain), (.string (bstr v.caption)), (.int .i64 v.os), (.int .i64 v.of), (.slice v.A v.al.length v.c)])]).run Tryd.prog w_7) (Tryd.call15 _ _)) (short_anyU hV (short_any v w_7 (huv.below (HP.below (by kernel_rfl))) hcv hAv)) ?_
  rintro e w_8 ⟨Bv, cv, rfl, halv, hcav, hcbv, hccv, hfrv, hb⟩
  refine ⟨_, rfl, ?_⟩
  intro a H
  have HP := (HP.next hb).keepF ⟨rowFp V.al.length Bv, fun w => IsAlts w Bv V.al.length V.al⟩ halv (fun _ _ h hk hs => ⟨h.1, h.2.keep hk hs⟩) (fun j hj => row_sep HP halv.2 hfrv hj)
  refine H.store HP 0 b_3 0 13 28 [(.int .i64 v.channel), (.int .i64 v.frame), (.int .i64 v.version), (.int .i64 v.item), (.int .i64 v.index), (.bool v.key), (.string (bstr v.data)), (.int .i64 v.regions), (.int .i64 v.gain), (.string (bstr v.caption)), (.int .i64 v.os), (.int .i64 v.of), (.slice v.A v.al.length v.c)] true (.agg #[(.int .i64 V.channel), (.int .i64 V.frame), (.int .i64 V.version), (.int .i64 V.item), (.int .i64 V.index), (.bool V.key), (.string (bstr V.data)), (.int .i64 V.regions), (.int .i64 V.gain), (.string (bstr V.caption)), (.int .i64 V.os), (.int .i64 V.of), (.slice Bv V.al.length cv)]) [bx b_3 28 [(.int .i64 V.channel), (.int .i64 V.frame), (.int .i64 V.version), (.int .i64 V.item), (.int .i64 V.index), (.bool V.key), (.string (bstr V.data)), (.int .i64 V.regions), (.int .i64 V.gain), (.string (bstr V.caption)), (.int .i64 V.os), (.int .i64 V.of), (.slice Bv V.al.length cv)] true, bx b_1 28 [(.int .i64 U.channel), (.int .i64 U.frame), (.int .i64 U.version), (.int .i64 U.item), (.int .i64 U.index), (.bool U.key), (.string (bstr U.data)), (.int .i64 U.regions), (.int .i64 U.gain), (.string (bstr U.caption)), (.int .i64 U.os), (.int .i64 U.of), (.slice Bu U.al.length cu)] true] (by kernel_rfl) (by kernel_rfl) (by kernel_rfl) rfl (by kernel_rfl) (by kernel_rfl) (by kernel_rfl) (by kernel_rfl) (by kernel_rfl) ?_
  intro w_9 a H HP
  refine wpList_nil ?_
  refine then_normal ?_
  refine wp_seq ?_
  refine w_region ?_
  refine H.val 21 (.pointer (some ⟨b_1, 0, none⟩)) (by kernel_rfl) (by kernel_rfl) ?_
  intro a H
  refine H.val 22 (.int .i64 U.channel) (by kernel_rfl) (ex_load1 (by kernel_rfl) (by kernel_rfl) (HP.cell 1 rfl 0 rfl)) ?_
  intro a H
  refine H.val 23 (.pointer (some ⟨b_3, 0, none⟩)) (by kernel_rfl) (by kernel_rfl) ?_
  intro a H
  refine H.store HP 0 b_3 0 1 28 [(.int .i64 V.channel), (.int .i64 V.frame), (.int .i64 V.version), (.int .i64 V.item), (.int .i64 V.index), (.bool V.key), (.string (bstr V.data)), (.int .i64 V.regions), (.int .i64 V.gain), (.string (bstr V.caption)), (.int .i64 V.os), (.int .i64 V.of), (.slice Bv V.al.length cv)] true (.int .i64 U.channel) [bx b_3 28 [(.int .i64 U.channel), (.int .i64 V.frame), (.int .i64 V.version), (.int .i64 V.item), (.int .i64 V.index), (.bool V.key), (.string (bstr V.data)), (.int .i64 V.regions), (.int .i64 V.gain), (.string (bstr V.caption)), (.int .i64 V.os), (.int .i64 V.of), (.slice Bv V.al.length cv)] true, bx b_1 28 [(.int .i64 U.channel), (.int .i64 U.frame), (.int .i64 U.version), (.int .i64 U.item), (.int .i64 U.index), (.bool U.key), (.string (bstr U.data)), (.int .i64 U.regions), (.int .i64 U.gain), (.string (bstr U.caption)), (.int .i64 U.os), (.int .i64 U.of), (.slice Bu U.al.length cu)] true] (by kernel_rfl) (by kernel_rfl) (by kernel_rfl) rfl (by kernel_rfl) (by kernel_rfl) (by kernel_rfl) (by kernel_rfl) (by kernel_rfl) ?_
  intro w_10 a H HP
  refine wpList_nil ?_
  refine then_normal ?_
  refine wp_seq ?_
  refine w_region ?_
  refine H.val 24 (.pointer (some ⟨b_1, 1, none⟩)) (by kernel_rfl) (by kernel_rfl) ?_
  intro a H
  refine H.val 25 (.int .i64 U.frame) (by kernel_rfl) (ex_load1 (by kernel_rfl) (by kernel_rfl) (HP.cell 1 rfl 1 rfl)) ?_
  intro a H
  refine H.val 26 (.int .i64 (IntKind.i64.wrap (U.frame + 1))) (by kernel_rfl) (by kernel_rfl) ?_
  intro a H
  refine H.val 27 (.pointer (some ⟨b_3, 1, none⟩)) (by kernel_rfl) (by kernel_rfl) ?_
  intro a H
  refine H.store HP 0 b_3 1 1 28 [(.int .i64 U.channel), (.int .i64 V.frame), (.int .i64 V.version), (.int .i64 V.item), (.int .i64 V.index), (.bool V.key), (.string (bstr V.data)), (.int .i64 V.regions), (.int .i64 V.gain), (.string (bstr V.caption)), (.int .i64 V.os), (.int .i64 V.of), (.slice Bv V.al.length cv)] true (.int .i64 (IntKind.i64.wrap (U.frame + 1))) [bx b_3 28 [(.int .i64 U.channel), (.int .i64 (IntKind.i64.wrap (U.frame + 1))), (.int .i64 V.version), (.int .i64 V.item), (.int .i64 V.index), (.bool V.key), (.string (bstr V.data)), (.int .i64 V.regions), (.int .i64 V.gain), (.string (bstr V.caption)), (.int .i64 V.os), (.int .i64 V.of), (.slice Bv V.al.length cv)] true, bx b_1 28 [(.int .i64 U.channel), (.int .i64 U.frame), (.int .i64 U.version), (.int .i64 U.item), (.int .i64 U.index), (.bool U.key), (.string (bstr U.data)), (.int .i64 U.regions), (.int .i64 U.gain), (.string (bstr U.caption)), (.int .i64 U.os), (.int .i64 U.of), (.slice Bu U.al.length cu)] true] (by kernel_rfl) (by kernel_rfl) (by kernel_rfl) rfl (by kernel_rfl) (by kernel_rfl) (by kernel_rfl) (by kernel_rfl) (by kernel_rfl) ?_
  intro w_11 a H HP
  refine wpList_nil ?_
  refine then_normal ?_
  refine w_cut (fun a wv => Sl 100 [(10, (.string (bstr lu))), (11, (.int .i64 0)), (9, (.bool true)), (8, (.bool false)), (6, (.pointer (some ⟨b_3, 0, none⟩))), (0, (.int .i64 c)), (3, (.bool false))] a ∧ Hp w wv [bx b_3 28 [(.int .i64 U.channel), (.int .i64 (IntKind.i64.wrap (U.frame + 1))), (.int .i64 V.version), (.int .i64 V.item), (.int .i64 V.index), (.bool V.key), (.string (bstr V.data)), (.int .i64 V.regions), (.int .i64 V.gain), (.string (bstr V.caption)), (.int .i64 V.os), (.int .i64 V.of), (.slice Bv V.al.length cv)] true, bx b_1 28 [(.int .i64 U.channel), (.int .i64 U.frame), (.int .i64 U.version), (.int .i64 U.item), (.int .i64 U.index), (.bool U.key), (.string (bstr U.data)), (.int .i64 U.regions), (.int .i64 U.gain), (.string (bstr U.caption)), (.int .i64 U.os), (.int .i64 U.of), (.slice Bu U.al.length cu)] true] [⟨rowFp V.al.length Bv, fun w => IsAlts w Bv V.al.length V.al⟩, ⟨rowFp U.al.length Bu, fun w => IsAlts w Bu U.al.length U.al⟩]) ?_ ?_
  ·
    refine An.start (fun v => Hp w v [bx b_3 28 [(.int .i64 U.channel), (.int .i64 (IntKind.i64.wrap (U.frame + 1))), (.int .i64 V.version), (.int .i64 V.item), (.int .i64 V.index), (.bool V.key), (.string (bstr V.data)), (.int .i64 V.regions), (.int .i64 V.gain), (.string (bstr V.caption)), (.int .i64 V.os), (.int .i64 V.of), (.slice Bv V.al.length cv)] true, bx b_1 28 [(.int .i64 U.channel), (.int .i64 U.frame), (.int .i64 U.version), (.int .i64 U.item), (.int .i64 U.index), (.bool U.key), (.string (bstr U.data)), (.int .i64 U.regions), (.int .i64 U.gain), (.string (bstr U.caption)), (.int .i64 U.os), (.int .i64 U.of), (.slice Bu U.al.length cu)] true] [⟨rowFp V.al.length Bv, fun w => IsAlts w Bv V.al.length V.al⟩, ⟨rowFp U.al.length Bu, fun w => IsAlts w Bu U.al.length U.al⟩]) 9 9 HP wide_follows rfl ?_
    intro w_12 HP
    refine An.pure H (.inr (HP)) 0 29 (.int .i64 c) rfl (by kernel_rfl) (by kernel_rfl) (fun _ _ _ h => h) (fun _ => by kernel_rfl) ?_
    intro a H
    refine An.val H (HP) 2 31 (.agg #[(.int .i64 U.channel), (.int .i64 U.frame), (.int .i64 U.version), (.int .i64 U.item), (.int .i64 U.index), (.bool U.key), (.string (bstr U.data)), (.int .i64 U.regions), (.int .i64 U.gain), (.string (bstr U.caption)), (.int .i64 U.os), (.int .i64 U.of), (.slice Bu U.al.length cu)]) rfl (by kernel_rfl) (by kernel_rfl) (fun _ _ _ h => h) (fun _ hS => ex_loadN (vs := [(.int .i64 U.channel), (.int .i64 U.frame), (.int .i64 U.version), (.int .i64 U.item), (.int .i64 U.index), (.bool U.key), (.string (bstr U.data)), (.int .i64 U.regions), (.int .i64 U.gain), (.string (bstr U.caption)), (.int .i64 U.os), (.int .i64 U.of), (.slice Bu U.al.length cu)]) (by kernel_rfl) (by kernel_rfl) (by kernel_rfl) rfl (hS.cells 1 rfl 0 13 (by kernel_rfl))) ?_
    intro a H
    refine An.one 1 (by kernel_rfl) ?_
    refine Op.call H 30 rfl (by kernel_rfl) (Eq.trans (by kernel_rfl : _ = (callFunc 14 #[(.int .i64 c)]).run Tryd.prog w_12) (Tryd.call14 _ _)) (rate_any c w_12 hc) ?_
    rintro e w_13 ⟨rfl, hb⟩
    refine ⟨_, rfl, ?_⟩
    intro a H
    have HP := HP.next hb
    refine ⟨.inr (HP), ?_⟩
    refine An.one 3 (by kernel_rfl) ?_
    refine Op.call H 32 rfl (by kernel_rfl) (Eq.trans (by kernel_rfl : _ = (callFunc 16 #[(.agg #[(.int .i64 ((rateP c).1)), (.int .i64 ((rateP c).2))]), (.agg #[(.int .i64 U.channel), (.int .i64 U.frame), (.int .i64 U.version), (.int .i64 U.item), (.int .i64 U.index), (.bool U.key), (.string (bstr U.data)), (.int .i64 U.regions), (.int .i64 U.gain), (.string (bstr U.caption)), (.int .i64 U.os), (.int .i64 U.of), (.slice Bu U.al.length cu)])]).run Tryd.prog w_13) (Tryd.call16 _ _)) ((by have hh := pack_any ((rateP c).1) ((rateP c).2) (⟨U.channel, U.frame, U.version, U.item, U.index, U.key, U.data, U.regions, U.gain, U.caption, U.os, U.of, Bu, cu, U.al⟩ : Un) w_13 (hL.below (HP.below (by kernel_rfl))) (HP.fact 1 rfl) (Nat.le_trans hcau hcbu); rw [hZu Bu cu] at hh; exact hh)) ?_
    rintro e w_14 ⟨rfl, hb⟩
    refine ⟨_, rfl, ?_⟩
    intro a H
    have HP := HP.next hb
    refine ⟨.inr (HP), ?_⟩
    refine An.pure H (.inr (HP)) 4 28 (.tuple #[(.string (bstr lu)), (.int .i64 0)]) rfl (by kernel_rfl) (by kernel_rfl) (fun _ _ _ h => h) (fun _ => by kernel_rfl) ?_
    intro a H
    refine An.pure H (.inr (HP)) 5 33 (.string (bstr lu)) rfl (by kernel_rfl) (by kernel_rfl) (fun _ _ _ h => h) (fun _ => by kernel_rfl) ?_
    intro a H
    refine An.pure H (.inr (HP)) 6 34 (.int .i64 0) rfl (by kernel_rfl) (by kernel_rfl) (fun _ _ _ h => h) (fun _ => by kernel_rfl) ?_
    intro a H
    refine An.pure H (.inr (HP)) 7 10 (.string (bstr lu)) rfl (by kernel_rfl) (by kernel_rfl) (fun _ _ _ h => h) (fun _ => by kernel_rfl) ?_
    intro a H
    refine An.pure H (.inr (HP)) 8 11 (.int .i64 0) rfl (by kernel_rfl) (by kernel_rfl) (fun _ _ _ h => h) (fun _ => by kernel_rfl) ?_
    intro a H
    refine An.done (by kernel_rfl) ?_
    have H := H.keep (L' := [(11, (.int .i64 0)), (10, (.string (bstr lu))), (27, (.pointer (some ⟨b_3, 1, none⟩))), (26, (.int .i64 (IntKind.i64.wrap (U.frame + 1)))), (25, (.int .i64 U.frame)), (24, (.pointer (some ⟨b_1, 1, none⟩))), (23, (.pointer (some ⟨b_3, 0, none⟩))), (22, (.int .i64 U.channel)), (21, (.pointer (some ⟨b_1, 0, none⟩))), (20, (.agg #[(.int .i64 V.channel), (.int .i64 V.frame), (.int .i64 V.version), (.int .i64 V.item), (.int .i64 V.index), (.bool V.key), (.string (bstr V.data)), (.int .i64 V.regions), (.int .i64 V.gain), (.string (bstr V.caption)), (.int .i64 V.os), (.int .i64 V.of), (.slice Bv V.al.length cv)])), (19, (.agg #[(.int .i64 v.channel), (.int .i64 v.frame), (.int .i64 v.version), (.int .i64 v.item), (.int .i64 v.index), (.bool v.key), (.string (bstr v.data)), (.int .i64 v.regions), (.int .i64 v.gain), (.string (bstr v.caption)), (.int .i64 v.os), (.int .i64 v.of), (.slice v.A v.al.length v.c)])), (18, (.agg #[(.int .i64 U.channel), (.int .i64 U.frame), (.int .i64 U.version), (.int .i64 U.item), (.int .i64 U.index), (.bool U.key), (.string (bstr U.data)), (.int .i64 U.regions), (.int .i64 U.gain), (.string (bstr U.caption)), (.int .i64 U.os), (.int .i64 U.of), (.slice Bu U.al.length cu)])), (17, (.agg #[(.int .i64 u.channel), (.int .i64 u.frame), (.int .i64 u.version), (.int .i64 u.item), (.int .i64 u.index), (.bool u.key), (.string (bstr u.data)), (.int .i64 u.regions), (.int .i64 u.gain), (.string (bstr u.caption)), (.int .i64 u.os), (.int .i64 u.of), (.slice u.A u.al.length u.c)])), (9, (.bool true)), (16, (.bool true)), (8, (.bool false)), (6, (.pointer (some ⟨b_3, 0, none⟩))), (5, (.pointer (some ⟨b_1, 0, none⟩))), (0, (.int .i64 c)), (1, (.agg #[(.int .i64 u.channel), (.int .i64 u.frame), (.int .i64 u.version), (.int .i64 u.item), (.int .i64 u.index), (.bool u.key), (.string (bstr u.data)), (.int .i64 u.regions), (.int .i64 u.gain), (.string (bstr u.caption)), (.int .i64 u.os), (.int .i64 u.of), (.slice u.A u.al.length u.c)])), (2, (.agg #[(.int .i64 v.channel), (.int .i64 v.frame), (.int .i64 v.version), (.int .i64 v.item), (.int .i64 v.index), (.bool v.key), (.string (bstr v.data)), (.int .i64 v.regions), (.int .i64 v.gain), (.string (bstr v.caption)), (.int .i64 v.os), (.int .i64 v.of), (.slice v.A v.al.length v.c)])), (3, (.bool false))]) (by kernel_rfl)
    refine then_normal ?_
    exact ⟨H.keep (by kernel_rfl), HP⟩
  ·
    rintro a w_15 ⟨H, HP⟩
    refine w_cut (fun a wv => Sl 100 [(12, (.string (bstr ([])))), (13, (.int .i64 180)), (10, (.string (bstr lu))), (11, (.int .i64 0)), (9, (.bool true)), (8, (.bool false)), (3, (.bool false))] a ∧ Hp w wv [bx b_3 28 [(.int .i64 U.channel), (.int .i64 (IntKind.i64.wrap (U.frame + 1))), (.int .i64 V.version), (.int .i64 V.item), (.int .i64 V.index), (.bool V.key), (.string (bstr V.data)), (.int .i64 V.regions), (.int .i64 V.gain), (.string (bstr V.caption)), (.int .i64 V.os), (.int .i64 V.of), (.slice Bv V.al.length cv)] true, bx b_1 28 [(.int .i64 U.channel), (.int .i64 U.frame), (.int .i64 U.version), (.int .i64 U.item), (.int .i64 U.index), (.bool U.key), (.string (bstr U.data)), (.int .i64 U.regions), (.int .i64 U.gain), (.string (bstr U.caption)), (.int .i64 U.os), (.int .i64 U.of), (.slice Bu U.al.length cu)] true] [⟨rowFp V.al.length Bv, fun w => IsAlts w Bv V.al.length V.al⟩, ⟨rowFp U.al.length Bu, fun w => IsAlts w Bu U.al.length U.al⟩]) ?_ ?_
    ·
      refine An.start (fun v => Hp w v [bx b_3 28 [(.int .i64 U.channel), (.int .i64 (IntKind.i64.wrap (U.frame + 1))), (.int .i64 V.version), (.int .i64 V.item), (.int .i64 V.index), (.bool V.key), (.string (bstr V.data)), (.int .i64 V.regions), (.int .i64 V.gain), (.string (bstr V.caption)), (.int .i64 V.os), (.int .i64 V.of), (.slice Bv V.al.length cv)] true, bx b_1 28 [(.int .i64 U.channel), (.int .i64 U.frame), (.int .i64 U.version), (.int .i64 U.item), (.int .i64 U.index), (.bool U.key), (.string (bstr U.data)), (.int .i64 U.regions), (.int .i64 U.gain), (.string (bstr U.caption)), (.int .i64 U.os), (.int .i64 U.of), (.slice Bu U.al.length cu)] true] [⟨rowFp V.al.length Bv, fun w => IsAlts w Bv V.al.length V.al⟩, ⟨rowFp U.al.length Bu, fun w => IsAlts w Bu U.al.length U.al⟩]) 9 9 HP wide_follows rfl ?_
      intro w_16 HP
      refine An.pure H (.inr (HP)) 0 36 (.int .i64 c) rfl (by kernel_rfl) (by kernel_rfl) (fun _ _ _ h => h) (fun _ => by kernel_rfl) ?_
      intro a H
      refine An.val H (HP) 2 38 (.agg #[(.int .i64 U.channel), (.int .i64 (IntKind.i64.wrap (U.frame + 1))), (.int .i64 V.version), (.int .i64 V.item), (.int .i64 V.index), (.bool V.key), (.string (bstr V.data)), (.int .i64 V.regions), (.int .i64 V.gain), (.string (bstr V.caption)), (.int .i64 V.os), (.int .i64 V.of), (.slice Bv V.al.length cv)]) rfl (by kernel_rfl) (by kernel_rfl) (fun _ _ _ h => h) (fun _ hS => ex_loadN (vs := [(.int .i64 U.channel), (.int .i64 (IntKind.i64.wrap (U.frame + 1))), (.int .i64 V.version), (.int .i64 V.item), (.int .i64 V.index), (.bool V.key), (.string (bstr V.data)), (.int .i64 V.regions), (.int .i64 V.gain), (.string (bstr V.caption)), (.int .i64 V.os), (.int .i64 V.of), (.slice Bv V.al.length cv)]) (by kernel_rfl) (by kernel_rfl) (by kernel_rfl) rfl (hS.cells 0 rfl 0 13 (by kernel_rfl))) ?_
      intro a H
      refine An.one 1 (by kernel_rfl) ?_
      refine Op.call H 37 rfl (by kernel_rfl) (Eq.trans (by kernel_rfl : _ = (callFunc 14 #[(.int .i64 c)]).run Tryd.prog w_16) (Tryd.call14 _ _)) (rate_any c w_16 hc) ?_
      rintro e w_17 ⟨rfl, hb⟩
      refine ⟨_, rfl, ?_⟩
      intro a H
      have HP := HP.next hb
      refine ⟨.inr (HP), ?_⟩
      refine An.one 3 (by kernel_rfl) ?_
      refine Op.call H 39 rfl (by kernel_rfl) (Eq.trans (by kernel_rfl : _ = (callFunc 16 #[(.agg #[(.int .i64 ((rateP c).1)), (.int .i64 ((rateP c).2))]), (.agg #[(.int .i64 U.channel), (.int .i64 (IntKind.i64.wrap (U.frame + 1))), (.int .i64 V.version), (.int .i64 V.item), (.int .i64 V.index), (.bool V.key), (.string (bstr V.data)), (.int .i64 V.regions), (.int .i64 V.gain), (.string (bstr V.caption)), (.int .i64 V.os), (.int .i64 V.of), (.slice Bv V.al.length cv)])]).run Tryd.prog w_17) (Tryd.call16 _ _)) ((by have hh := pack_any ((rateP c).1) ((rateP c).2) (⟨U.channel, IntKind.i64.wrap (U.frame + 1), V.version, V.item, V.index, V.key, V.data, V.regions, V.gain, V.caption, V.os, V.of, Bv, cv, V.al⟩ : Un) w_17 (hL.below (HP.below (by kernel_rfl))) (HP.fact 0 rfl) (Nat.le_trans hcav hcbv); rw [hZv Bv cv] at hh; exact hh)) ?_
      rintro e w_18 ⟨rfl, hb⟩
      refine ⟨_, rfl, ?_⟩
      intro a H
      have HP := HP.next hb
      refine ⟨.inr (HP), ?_⟩
      refine An.pure H (.inr (HP)) 4 35 (.tuple #[(.string (bstr ([]))), (.int .i64 180)]) rfl (by kernel_rfl) (by kernel_rfl) (fun _ _ _ h => h) (fun _ => by kernel_rfl) ?_
      intro a H
      refine An.pure H (.inr (HP)) 5 40 (.string (bstr ([]))) rfl (by kernel_rfl) (by kernel_rfl) (fun _ _ _ h => h) (fun _ => by kernel_rfl) ?_
      intro a H
      refine An.pure H (.inr (HP)) 6 41 (.int .i64 180) rfl (by kernel_rfl) (by kernel_rfl) (fun _ _ _ h => h) (fun _ => by kernel_rfl) ?_
      intro a H
      refine An.pure H (.inr (HP)) 7 12 (.string (bstr ([]))) rfl (by kernel_rfl) (by kernel_rfl) (fun _ _ _ h => h) (fun _ => by kernel_rfl) ?_
      intro a H
      refine An.pure H (.inr (HP)) 8 13 (.int .i64 180) rfl (by kernel_rfl) (by kernel_rfl) (fun _ _ _ h => h) (fun _ => by kernel_rfl) ?_
      intro a H
      refine An.done (by kernel_rfl) ?_
      have H := H.keep (L' := [(13, (.int .i64 180)), (12, (.string (bstr ([])))), (10, (.string (bstr lu))), (11, (.int .i64 0)), (9, (.bool true)), (8, (.bool false)), (6, (.pointer (some ⟨b_3, 0, none⟩))), (0, (.int .i64 c)), (3, (.bool false))]) (by kernel_rfl)
      refine then_normal ?_
      exact ⟨H.keep (by kernel_rfl), HP⟩
    ·
      rintro a w_19 ⟨H, HP⟩
      refine wp_seq ?_
      refine wp_seq ?_
      refine w_region ?_
      refine H.val 42 (.int .i64 0) (by kernel_rfl) (by kernel_rfl) ?_
      intro a H
      refine H.val 43 (.bool false) (by kernel_rfl) (by kernel_rfl) ?_
      intro a H
      refine H.val 44 (.bool false) (by kernel_rfl) (by kernel_rfl) ?_
      intro a H
      refine H.val 45 (.int .i64 180) (by kernel_rfl) (by kernel_rfl) ?_
      intro a H
      refine H.val 46 (.bool true) (by kernel_rfl) (by kernel_rfl) ?_
      intro a H
      refine H.val 47 (.bool true) (by kernel_rfl) (by kernel_rfl) ?_
      intro a H
      refine H.val 48 (.bool true) (by kernel_rfl) (by kernel_rfl) ?_
      intro a H
      refine H.skip 49 (by kernel_rfl) ?_
      intro a H
      refine H.skip 50 (by kernel_rfl) ?_
      intro a H
      refine H.skip 51 (by kernel_rfl) ?_
      intro a H
      refine H.val 52 (.bool true) (by kernel_rfl) (by kernel_rfl) ?_
      intro a H
      refine H.val 53 (.bool true) (by kernel_rfl) (by kernel_rfl) ?_
      intro a H
      refine H.skip 54 (by kernel_rfl) ?_
      intro a H
      refine H.skip 55 (by kernel_rfl) ?_
      intro a H
      refine H.skip 56 (by kernel_rfl) ?_
      intro a H
      refine H.val 57 (.bool true) (by kernel_rfl) (by kernel_rfl) ?_
      intro a H
      refine wpList_nil ?_
      have H := H.keep (L' := [(57, (.bool true)), (12, (.string (bstr ([])))), (13, (.int .i64 180)), (10, (.string (bstr lu))), (11, (.int .i64 0)), (9, (.bool true)), (8, (.bool false)), (3, (.bool false))]) (by kernel_rfl)
      refine then_normal ?_
      refine w_ift H rfl ?_
      refine wp_seq ?_
      refine w_region ?_
      refine H.val 58 (.bool true) (by kernel_rfl) (by kernel_rfl) ?_
      intro a H
      refine H.val 59 (.bool true) (by kernel_rfl) (by kernel_rfl) ?_
      intro a H
      refine H.val 60 (.int .i64 0) (by kernel_rfl) (by kernel_rfl) ?_
      intro a H
      refine H.val 61 (.bool false) (by kernel_rfl) (by kernel_rfl) ?_
      intro a H
      refine H.val 62 (.bool false) (by kernel_rfl) (by kernel_rfl) ?_
      intro a H
      refine H.val 63 (.int .i64 180) (by kernel_rfl) (by kernel_rfl) ?_
      intro a H
      refine H.val 64 (.bool true) (by kernel_rfl) (by kernel_rfl) ?_
      intro a H
      refine H.val 65 (.bool true) (by kernel_rfl) (by kernel_rfl) ?_
      intro a H
      refine H.val 66 (.bool true) (by kernel_rfl) (by kernel_rfl) ?_
      intro a H
      refine H.val 8 (.bool true) (by kernel_rfl) (by kernel_rfl) ?_
      intro a H
      refine wpList_nil ?_
      have H := H.keep (L' := [(8, (.bool true)), (57, (.bool true)), (12, (.string (bstr ([])))), (13, (.int .i64 180)), (10, (.string (bstr lu))), (11, (.int .i64 0)), (9, (.bool true)), (3, (.bool false))]) (by kernel_rfl)
      refine then_normal ?_
      refine wp_ret ?_
      refine then_ret ?_
      refine H.ret1 (fn := Tryd.f12) Tryd.results12 (RV.tmp_ (v := (.bool true)) (by kernel_rfl)) ?_
      exact ⟨rfl, (HP.below (by kernel_rfl))⟩
set_option maxRecDepth 100000 in
set_option maxHeartbeats 4000000 in
theorem gap_fss (c : Int) (u v U V : Un) (w : World) (hU : shortU u = U) (hV : shortU v = V) (hL : Laid w) (hc : -9223372036854775808 ≤ c ∧ c ≤ 9223372036854775807) (huu : IsAlts w u.A u.al.length u.al) (hcu : u.al.length ≤ u.c) (hAu : u.A = none → u.c = 0) (huv : IsAlts w v.A v.al.length v.al) (hcv : v.al.length ≤ v.c) (hAv : v.A = none → v.c = 0) (lu : List UInt8) (lv : List UInt8) (hZu : ∀ B c', packP (rateP c).1 (rateP c).2 ({ U with A := B, c := c' } : Un) = some lu) (hZv : ∀ B c', packP (rateP c).1 (rateP c).2 (⟨U.channel, IntKind.i64.wrap (U.frame + 1), V.version, V.item, V.index, V.key, V.data, V.regions, V.gain, V.caption, V.os, V.of, B, c', V.al⟩ : Un) = some lv) :
    Calls Tryd.prog 12 #[.int .i64 c, u.val, v.val, .bool false] w fun e w' => e = .returned (.bool true) ∧ Below w.heap.size w w' := by
  have HP := Hp.start w
  obtain ⟨hlu, hlu1, hlu2⟩ := pack_len (hZu none 0)
  obtain ⟨hlv, hlv1, hlv2⟩ := pack_len (hZv none 0)
  have hfw : followsP lu lv = true := gap_follows (hZu none 0) (hZv none 0) rfl rfl
  refine w_enter 100 [(0, (.int .i64 c)), (1, (.agg #[(.int .i64 u.channel), (.int .i64 u.frame), (.int .i64 u.version), (.int .i64 u.item), (.int .i64 u.index), (.bool u.key), (.string (bstr u.data)), (.int .i64 u.regions), (.int .i64 u.gain), (.string (bstr u.caption)), (.int .i64 u.os), (.int .i64 u.of), (.slice u.A u.al.length u.c)])), (2, (.agg #[(.int .i64 v.channel), (.int .i64 v.frame), (.int .i64 v.version), (.int .i64 v.item), (.int .i64 v.index), (.bool v.key), (.string (bstr v.data)), (.int .i64 v.regions), (.int .i64 v.gain), (.string (bstr v.caption)), (.int .i64 v.os), (.int .i64 v.of), (.slice v.A v.al.length v.c)])), (3, (.bool false))] Tryd.func12 rfl Tryd.ntmps12 (by kernel_rfl) (by kernel_rfl) ?_
  intro a H
  refine wp_seq ?_
  refine w_region ?_
  refine H.alloc HP 5 (fun b => (.pointer (some ⟨b, 0, none⟩))) 28 [(.int .i64 u.channel), (.int .i64 u.frame), (.int .i64 u.version), (.int .i64 u.item), (.int .i64 u.index), (.bool u.key), (.string (bstr u.data)), (.int .i64 u.regions), (.int .i64 u.gain), (.string (bstr u.caption)), (.int .i64 u.os), (.int .i64 u.of), (.slice u.A u.al.length u.c)] (by kernel_rfl) (fun w => by kernel_rfl) ?_
  intro b_1 w_2 a H HP
  refine H.alloc HP 6 (fun b => (.pointer (some ⟨b, 0, none⟩))) 28 [(.int .i64 v.channel), (.int .i64 v.frame), (.int .i64 v.version), (.int .i64 v.item), (.int .i64 v.index), (.bool v.key), (.string (bstr v.data)), (.int .i64 v.regions), (.int .i64 v.gain), (.string (bstr v.caption)), (.int .i64 v.os), (.int .i64 v.of), (.slice v.A v.al.length v.c)] (by kernel_rfl) (fun w => by kernel_rfl) ?_
  intro b_3 w_4 a H HP
  refine H.val 8 (.bool false) (by kernel_rfl) (by kernel_rfl) ?_
  intro a H
  refine wpList_nil ?_
  refine then_normal ?_
  refine wp_seq ?_
  refine w_region ?_
  refine H.call 16 (by kernel_rfl) (Eq.trans (by kernel_rfl : _ = (callFunc 13 #[]).run Tryd.prog w_4) (Tryd.call13 _ _)) (sane_any w_4 (hL.below (HP.below (by kernel_rfl)))) ?_
  rintro e w_5 ⟨rfl, hb⟩
  refine ⟨_, rfl, ?_⟩
  intro a H
  have HP := HP.next hb
  refine H.val 9 (.bool true) (by kernel_rfl) (by kernel_rfl) ?_
  intro a H
  refine wpList_nil ?_
  refine then_normal ?_
  refine wp_seq ?_
  refine w_region ?_
  refine H.val 17 (.agg #[(.int .i64 u.channel), (.int .i64 u.frame), (.int .i64 u.version), (.int .i64 u.item), (.int .i64 u.index), (.bool u.key), (.string (bstr u.data)), (.int .i64 u.regions), (.int .i64 u.gain), (.string (bstr u.caption)), (.int .i64 u.os), (.int .i64 u.of), (.slice u.A u.al.length u.c)]) (by kernel_rfl) (ex_loadN (vs := [(.int .i64 u.channel), (.int .i64 u.frame), (.int .i64 u.version), (.int .i64 u.item), (.int .i64 u.index), (.bool u.key), (.string (bstr u.data)), (.int .i64 u.regions), (.int .i64 u.gain), (.string (bstr u.caption)), (.int .i64 u.os), (.int .i64 u.of), (.slice u.A u.al.length u.c)]) (by kernel_rfl) (by kernel_rfl) (by kernel_rfl) rfl (HP.cells 1 rfl 0 13 (by kernel_rfl))) ?_
  intro a H
  refine H.call 18 (by kernel_rfl) (Eq.trans (by kernel_rfl : _ = (callFunc 15 #[(.agg #[(.int .i64 u.channel), (.int .i64 u.frame), (.int .i64 u.version), (.int .i64 u.item), (.int .i64 u.index), (.bool u.key), (.string (bstr u.data)), (.int .i64 u.regions), (.int .i64 u.gain), (.string (bstr u.caption)), (.int .i64 u.os), (.int .i64 u.of), (.slice u.A u.al.length u.c)])]).run Tryd.prog w_5) (Tryd.call15 _ _)) (short_anyU hU (short_any u w_5 (huu.below (HP.below (by kernel_rfl))) hcu hAu)) ?_
  rintro e w_6 ⟨Bu, cu, rfl, halu, hcau, hcbu, hccu, hfru, hb⟩
  refine ⟨_, rfl, ?_⟩
  intro a H
  have HP := (HP.next hb).keepF ⟨rowFp U.al.length Bu, fun w => IsAlts w Bu U.al.length U.al⟩ halu (fun _ _ h hk hs => ⟨h.1, h.2.keep hk hs⟩) (fun j hj => row_sep HP halu.2 hfru hj)
  refine H.store HP 1 b_1 0 13 28 [(.int .i64 u.channel), (.int .i64 u.frame), (.int .i64 u.version), (.int .i64 u.item), (.int .i64 u.index), (.bool u.key), (.string (bstr u.data)), (.int .i64 u.regions), (.int .i64 u.gain), (.string (bstr u.caption)), (.int .i64 u.os), (.int .i64 u.of), (.slice u.A u.al.length u.c)] true (.agg #[(.int .i64 U.channel), (.int .i64 U.frame), (.int .i64 U.version), (.int .i64 U.item), (.int .i64 U.index), (.bool U.key), (.string (bstr U.data)), (.int .i64 U.regions), (.int .i64 U.gain), (.string (bstr U.caption)), (.int .i64 U.os), (.int .i64 U.of), (.slice Bu U.al.length cu)]) [bx b_3 28 [(.int .i64 v.channel), (.int .i64 v.frame), (.int .i64 v.version), (.int .i64 v.item), (.int .i64 v.index), (.bool v.key), (.string (bstr v.data)), (.int .i64 v.regions), (.int .i64 v.gain), (.string (bstr v.caption)), (.int .i64 v.os), (.int .i64 v.of), (.slice v.A v.al.length v.c)] true, bx b_1 28 [(.int .i64 U.channel), (.int .i64 U.frame), (.int .i64 U.version), (.int .i64 U.item), (.int .i64 U.index), (.bool U.key), (.string (bstr U.data)), (.int .i64 U.regions), (.int .i64 U.gain), (.string (bstr U.caption)), (.int .i64 U.os), (.int .i64 U.of), (.slice Bu U.al.length cu)] true] (by kernel_rfl) (by kernel_rfl) (by kernel_rfl) rfl (by kernel_rfl) (by kernel_rfl) (by kernel_rfl) (by kernel_rfl) (by kernel_rfl) ?_
  intro w_7 a H HP
  refine wpList_nil ?_
  refine then_normal ?_
  refine wp_seq ?_
  refine w_region ?_
  refine H.val 19 (.agg #[(.int .i64 v.channel), (.int .i64 v.frame), (.int .i64 v.version), (.int .i64 v.item), (.int .i64 v.index), (.bool v.key), (.string (bstr v.data)), (.int .i64 v.regions), (.int .i64 v.gain), (.string (bstr v.caption)), (.int .i64 v.os), (.int .i64 v.of), (.slice v.A v.al.length v.c)]) (by kernel_rfl) (ex_loadN (vs := [(.int .i64 v.channel), (.int .i64 v.frame), (.int .i64 v.version), (.int .i64 v.item), (.int .i64 v.index), (.bool v.key), (.string (bstr v.data)), (.int .i64 v.regions), (.int .i64 v.gain), (.string (bstr v.caption)), (.int .i64 v.os), (.int .i64 v.of), (.slice v.A v.al.length v.c)]) (by kernel_rfl) (by kernel_rfl) (by kernel_rfl) rfl (HP.cells 0 rfl 0 13 (by kernel_rfl))) ?_
  intro a H
  refine H.call 20 (by kernel_rfl) (Eq.trans (by kernel_rfl : _ = (callFunc 15 #[(.agg #[(.int .i64 v.channel), (.int .i64 v.frame), (.int .i64 v.version), (.int .i64 v.item), (.int .i64 v.index), (.bool v.key), (.string (bstr v.data)), (.int .i64 v.regions), (.int .i64 v.gain), (.string (bstr v.caption)), (.int .i64 v.os), (.int .i64 v.of), (.slice v.A v.al.length v.c)])]).run Tryd.prog w_7) (Tryd.call15 _ _)) (short_anyU hV (short_any v w_7 (huv.below (HP.below (by kernel_rfl))) hcv hAv)) ?_
  rintro e w_8 ⟨Bv, cv, rfl, halv, hcav, hcbv, hccv, hfrv, hb⟩
  refine ⟨_, rfl, ?_⟩
  intro a H
  have HP := (HP.next hb).keepF ⟨rowFp V.al.length Bv, fun w => IsAlts w Bv V.al.length V.al⟩ halv (fun _ _ h hk hs => ⟨h.1, h.2.keep hk hs⟩) (fun j hj => row_sep HP halv.2 hfrv hj)
  refine H.store HP 0 b_3 0 13 28 [(.int .i64 v.channel), (.int .i64 v.frame), (.int .i64 v.version), (.int .i64 v.item), (.int .i64 v.index), (.bool v.key), (.string (bstr v.data)), (.int .i64 v.regions), (.int .i64 v.gain), (.string (bstr v.caption)), (.int .i64 v.os), (.int .i64 v.of), (.slice v.A v.al.length v.c)] true (.agg #[(.int .i64 V.channel), (.int .i64 V.frame), (.int .i64 V.version), (.int .i64 V.item), (.int .i64 V.index), (.bool V.key), (.string (bstr V.data)), (.int .i64 V.regions), (.int .i64 V.gain), (.string (bstr V.caption)), (.int .i64 V.os), (.int .i64 V.of), (.slice Bv V.al.length cv)]) [bx b_3 28 [(.int .i64 V.channel), (.int .i64 V.frame), (.int .i64 V.version), (.int .i64 V.item), (.int .i64 V.index), (.bool V.key), (.string (bstr V.data)), (.int .i64 V.regions), (.int .i64 V.gain), (.string (bstr V.caption)), (.int .i64 V.os), (.int .i64 V.of), (.slice Bv V.al.length cv)] true, bx b_1 28 [(.int .i64 U.channel), (.int .i64 U.frame), (.int .i64 U.version), (.int .i64 U.item), (.int .i64 U.index), (.bool U.key), (.string (bstr U.data)), (.int .i64 U.regions), (.int .i64 U.gain), (.string (bstr U.caption)), (.int .i64 U.os), (.int .i64 U.of), (.slice Bu U.al.length cu)] true] (by kernel_rfl) (by kernel_rfl) (by kernel_rfl) rfl (by kernel_rfl) (by kernel_rfl) (by kernel_rfl) (by kernel_rfl) (by kernel_rfl) ?_
  intro w_9 a H HP
  refine wpList_nil ?_
  refine then_normal ?_
  refine wp_seq ?_
  refine w_region ?_
  refine H.val 21 (.pointer (some ⟨b_1, 0, none⟩)) (by kernel_rfl) (by kernel_rfl) ?_
  intro a H
  refine H.val 22 (.int .i64 U.channel) (by kernel_rfl) (ex_load1 (by kernel_rfl) (by kernel_rfl) (HP.cell 1 rfl 0 rfl)) ?_
  intro a H
  refine H.val 23 (.pointer (some ⟨b_3, 0, none⟩)) (by kernel_rfl) (by kernel_rfl) ?_
  intro a H
  refine H.store HP 0 b_3 0 1 28 [(.int .i64 V.channel), (.int .i64 V.frame), (.int .i64 V.version), (.int .i64 V.item), (.int .i64 V.index), (.bool V.key), (.string (bstr V.data)), (.int .i64 V.regions), (.int .i64 V.gain), (.string (bstr V.caption)), (.int .i64 V.os), (.int .i64 V.of), (.slice Bv V.al.length cv)] true (.int .i64 U.channel) [bx b_3 28 [(.int .i64 U.channel), (.int .i64 V.frame), (.int .i64 V.version), (.int .i64 V.item), (.int .i64 V.index), (.bool V.key), (.string (bstr V.data)), (.int .i64 V.regions), (.int .i64 V.gain), (.string (bstr V.caption)), (.int .i64 V.os), (.int .i64 V.of), (.slice Bv V.al.length cv)] true, bx b_1 28 [(.int .i64 U.channel), (.int .i64 U.frame), (.int .i64 U.version), (.int .i64 U.item), (.int .i64 U.index), (.bool U.key), (.string (bstr U.data)), (.int .i64 U.regions), (.int .i64 U.gain), (.string (bstr U.caption)), (.int .i64 U.os), (.int .i64 U.of), (.slice Bu U.al.length cu)] true] (by kernel_rfl) (by kernel_rfl) (by kernel_rfl) rfl (by kernel_rfl) (by kernel_rfl) (by kernel_rfl) (by kernel_rfl) (by kernel_rfl) ?_
  intro w_10 a H HP
  refine wpList_nil ?_
  refine then_normal ?_
  refine wp_seq ?_
  refine w_region ?_
  refine H.val 24 (.pointer (some ⟨b_1, 1, none⟩)) (by kernel_rfl) (by kernel_rfl) ?_
  intro a H
  refine H.val 25 (.int .i64 U.frame) (by kernel_rfl) (ex_load1 (by kernel_rfl) (by kernel_rfl) (HP.cell 1 rfl 1 rfl)) ?_
  intro a H
  refine H.val 26 (.int .i64 (IntKind.i64.wrap (U.frame + 1))) (by kernel_rfl) (by kernel_rfl) ?_
  intro a H
  refine H.val 27 (.pointer (some ⟨b_3, 1, none⟩)) (by kernel_rfl) (by kernel_rfl) ?_
  intro a H
  refine H.store HP 0 b_3 1 1 28 [(.int .i64 U.channel), (.int .i64 V.frame), (.int .i64 V.version), (.int .i64 V.item), (.int .i64 V.index), (.bool V.key), (.string (bstr V.data)), (.int .i64 V.regions), (.int .i64 V.gain), (.string (bstr V.caption)), (.int .i64 V.os), (.int .i64 V.of), (.slice Bv V.al.length cv)] true (.int .i64 (IntKind.i64.wrap (U.frame + 1))) [bx b_3 28 [(.int .i64 U.channel), (.int .i64 (IntKind.i64.wrap (U.frame + 1))), (.int .i64 V.version), (.int .i64 V.item), (.int .i64 V.index), (.bool V.key), (.string (bstr V.data)), (.int .i64 V.regions), (.int .i64 V.gain), (.string (bstr V.caption)), (.int .i64 V.os), (.int .i64 V.of), (.slice Bv V.al.length cv)] true, bx b_1 28 [(.int .i64 U.channel), (.int .i64 U.frame), (.int .i64 U.version), (.int .i64 U.item), (.int .i64 U.index), (.bool U.key), (.string (bstr U.data)), (.int .i64 U.regions), (.int .i64 U.gain), (.string (bstr U.caption)), (.int .i64 U.os), (.int .i64 U.of), (.slice Bu U.al.length cu)] true] (by kernel_rfl) (by kernel_rfl) (by kernel_rfl) rfl (by kernel_rfl) (by kernel_rfl) (by kernel_rfl) (by kernel_rfl) (by kernel_rfl) ?_
  intro w_11 a H HP
  refine wpList_nil ?_
  refine then_normal ?_
  refine w_cut (fun a wv => Sl 100 [(10, (.string (bstr lu))), (11, (.int .i64 0)), (9, (.bool true)), (8, (.bool false)), (6, (.pointer (some ⟨b_3, 0, none⟩))), (0, (.int .i64 c)), (3, (.bool false))] a ∧ Hp w wv [bx b_3 28 [(.int .i64 U.channel), (.int .i64 (IntKind.i64.wrap (U.frame + 1))), (.int .i64 V.version), (.int .i64 V.item), (.int .i64 V.index), (.bool V.key), (.string (bstr V.data)), (.int .i64 V.regions), (.int .i64 V.gain), (.string (bstr V.caption)), (.int .i64 V.os), (.int .i64 V.of), (.slice Bv V.al.length cv)] true, bx b_1 28 [(.int .i64 U.channel), (.int .i64 U.frame), (.int .i64 U.version), (.int .i64 U.item), (.int .i64 U.index), (.bool U.key), (.string (bstr U.data)), (.int .i64 U.regions), (.int .i64 U.gain), (.string (bstr U.caption)), (.int .i64 U.os), (.int .i64 U.of), (.slice Bu U.al.length cu)] true] [⟨rowFp V.al.length Bv, fun w => IsAlts w Bv V.al.length V.al⟩, ⟨rowFp U.al.length Bu, fun w => IsAlts w Bu U.al.length U.al⟩]) ?_ ?_
  ·
    refine An.start (fun v => Hp w v [bx b_3 28 [(.int .i64 U.channel), (.int .i64 (IntKind.i64.wrap (U.frame + 1))), (.int .i64 V.version), (.int .i64 V.item), (.int .i64 V.index), (.bool V.key), (.string (bstr V.data)), (.int .i64 V.regions), (.int .i64 V.gain), (.string (bstr V.caption)), (.int .i64 V.os), (.int .i64 V.of), (.slice Bv V.al.length cv)] true, bx b_1 28 [(.int .i64 U.channel), (.int .i64 U.frame), (.int .i64 U.version), (.int .i64 U.item), (.int .i64 U.index), (.bool U.key), (.string (bstr U.data)), (.int .i64 U.regions), (.int .i64 U.gain), (.string (bstr U.caption)), (.int .i64 U.os), (.int .i64 U.of), (.slice Bu U.al.length cu)] true] [⟨rowFp V.al.length Bv, fun w => IsAlts w Bv V.al.length V.al⟩, ⟨rowFp U.al.length Bu, fun w => IsAlts w Bu U.al.length U.al⟩]) 9 9 HP wide_follows rfl ?_
    intro w_12 HP
    refine An.pure H (.inr (HP)) 0 29 (.int .i64 c) rfl (by kernel_rfl) (by kernel_rfl) (fun _ _ _ h => h) (fun _ => by kernel_rfl) ?_
    intro a H
    refine An.val H (HP) 2 31 (.agg #[(.int .i64 U.channel), (.int .i64 U.frame), (.int .i64 U.version), (.int .i64 U.item), (.int .i64 U.index), (.bool U.key), (.string (bstr U.data)), (.int .i64 U.regions), (.int .i64 U.gain), (.string (bstr U.caption)), (.int .i64 U.os), (.int .i64 U.of), (.slice Bu U.al.length cu)]) rfl (by kernel_rfl) (by kernel_rfl) (fun _ _ _ h => h) (fun _ hS => ex_loadN (vs := [(.int .i64 U.channel), (.int .i64 U.frame), (.int .i64 U.version), (.int .i64 U.item), (.int .i64 U.index), (.bool U.key), (.string (bstr U.data)), (.int .i64 U.regions), (.int .i64 U.gain), (.string (bstr U.caption)), (.int .i64 U.os), (.int .i64 U.of), (.slice Bu U.al.length cu)]) (by kernel_rfl) (by kernel_rfl) (by kernel_rfl) rfl (hS.cells 1 rfl 0 13 (by kernel_rfl))) ?_
    intro a H
    refine An.one 1 (by kernel_rfl) ?_
    refine Op.call H 30 rfl (by kernel_rfl) (Eq.trans (by kernel_rfl : _ = (callFunc 14 #[(.int .i64 c)]).run Tryd.prog w_12) (Tryd.call14 _ _)) (rate_any c w_12 hc) ?_
    rintro e w_13 ⟨rfl, hb⟩
    refine ⟨_, rfl, ?_⟩
    intro a H
    have HP := HP.next hb
    refine ⟨.inr (HP), ?_⟩
    refine An.one 3 (by kernel_rfl) ?_
    refine Op.call H 32 rfl (by kernel_rfl) (Eq.trans (by kernel_rfl : _ = (callFunc 16 #[(.agg #[(.int .i64 ((rateP c).1)), (.int .i64 ((rateP c).2))]), (.agg #[(.int .i64 U.channel), (.int .i64 U.frame), (.int .i64 U.version), (.int .i64 U.item), (.int .i64 U.index), (.bool U.key), (.string (bstr U.data)), (.int .i64 U.regions), (.int .i64 U.gain), (.string (bstr U.caption)), (.int .i64 U.os), (.int .i64 U.of), (.slice Bu U.al.length cu)])]).run Tryd.prog w_13) (Tryd.call16 _ _)) ((by have hh := pack_any ((rateP c).1) ((rateP c).2) (⟨U.channel, U.frame, U.version, U.item, U.index, U.key, U.data, U.regions, U.gain, U.caption, U.os, U.of, Bu, cu, U.al⟩ : Un) w_13 (hL.below (HP.below (by kernel_rfl))) (HP.fact 1 rfl) (Nat.le_trans hcau hcbu); rw [hZu Bu cu] at hh; exact hh)) ?_
    rintro e w_14 ⟨rfl, hb⟩
    refine ⟨_, rfl, ?_⟩
    intro a H
    have HP := HP.next hb
    refine ⟨.inr (HP), ?_⟩
    refine An.pure H (.inr (HP)) 4 28 (.tuple #[(.string (bstr lu)), (.int .i64 0)]) rfl (by kernel_rfl) (by kernel_rfl) (fun _ _ _ h => h) (fun _ => by kernel_rfl) ?_
    intro a H
    refine An.pure H (.inr (HP)) 5 33 (.string (bstr lu)) rfl (by kernel_rfl) (by kernel_rfl) (fun _ _ _ h => h) (fun _ => by kernel_rfl) ?_
    intro a H
    refine An.pure H (.inr (HP)) 6 34 (.int .i64 0) rfl (by kernel_rfl) (by kernel_rfl) (fun _ _ _ h => h) (fun _ => by kernel_rfl) ?_
    intro a H
    refine An.pure H (.inr (HP)) 7 10 (.string (bstr lu)) rfl (by kernel_rfl) (by kernel_rfl) (fun _ _ _ h => h) (fun _ => by kernel_rfl) ?_
    intro a H
    refine An.pure H (.inr (HP)) 8 11 (.int .i64 0) rfl (by kernel_rfl) (by kernel_rfl) (fun _ _ _ h => h) (fun _ => by kernel_rfl) ?_
    intro a H
    refine An.done (by kernel_rfl) ?_
    have H := H.keep (L' := [(11, (.int .i64 0)), (10, (.string (bstr lu))), (27, (.pointer (some ⟨b_3, 1, none⟩))), (26, (.int .i64 (IntKind.i64.wrap (U.frame + 1)))), (25, (.int .i64 U.frame)), (24, (.pointer (some ⟨b_1, 1, none⟩))), (23, (.pointer (some ⟨b_3, 0, none⟩))), (22, (.int .i64 U.channel)), (21, (.pointer (some ⟨b_1, 0, none⟩))), (20, (.agg #[(.int .i64 V.channel), (.int .i64 V.frame), (.int .i64 V.version), (.int .i64 V.item), (.int .i64 V.index), (.bool V.key), (.string (bstr V.data)), (.int .i64 V.regions), (.int .i64 V.gain), (.string (bstr V.caption)), (.int .i64 V.os), (.int .i64 V.of), (.slice Bv V.al.length cv)])), (19, (.agg #[(.int .i64 v.channel), (.int .i64 v.frame), (.int .i64 v.version), (.int .i64 v.item), (.int .i64 v.index), (.bool v.key), (.string (bstr v.data)), (.int .i64 v.regions), (.int .i64 v.gain), (.string (bstr v.caption)), (.int .i64 v.os), (.int .i64 v.of), (.slice v.A v.al.length v.c)])), (18, (.agg #[(.int .i64 U.channel), (.int .i64 U.frame), (.int .i64 U.version), (.int .i64 U.item), (.int .i64 U.index), (.bool U.key), (.string (bstr U.data)), (.int .i64 U.regions), (.int .i64 U.gain), (.string (bstr U.caption)), (.int .i64 U.os), (.int .i64 U.of), (.slice Bu U.al.length cu)])), (17, (.agg #[(.int .i64 u.channel), (.int .i64 u.frame), (.int .i64 u.version), (.int .i64 u.item), (.int .i64 u.index), (.bool u.key), (.string (bstr u.data)), (.int .i64 u.regions), (.int .i64 u.gain), (.string (bstr u.caption)), (.int .i64 u.os), (.int .i64 u.of), (.slice u.A u.al.length u.c)])), (9, (.bool true)), (16, (.bool true)), (8, (.bool false)), (6, (.pointer (some ⟨b_3, 0, none⟩))), (5, (.pointer (some ⟨b_1, 0, none⟩))), (0, (.int .i64 c)), (1, (.agg #[(.int .i64 u.channel), (.int .i64 u.frame), (.int .i64 u.version), (.int .i64 u.item), (.int .i64 u.index), (.bool u.key), (.string (bstr u.data)), (.int .i64 u.regions), (.int .i64 u.gain), (.string (bstr u.caption)), (.int .i64 u.os), (.int .i64 u.of), (.slice u.A u.al.length u.c)])), (2, (.agg #[(.int .i64 v.channel), (.int .i64 v.frame), (.int .i64 v.version), (.int .i64 v.item), (.int .i64 v.index), (.bool v.key), (.string (bstr v.data)), (.int .i64 v.regions), (.int .i64 v.gain), (.string (bstr v.caption)), (.int .i64 v.os), (.int .i64 v.of), (.slice v.A v.al.length v.c)])), (3, (.bool false))]) (by kernel_rfl)
    refine then_normal ?_
    exact ⟨H.keep (by kernel_rfl), HP⟩
  ·
    rintro a w_15 ⟨H, HP⟩
    refine w_cut (fun a wv => Sl 100 [(12, (.string (bstr lv))), (13, (.int .i64 0)), (10, (.string (bstr lu))), (11, (.int .i64 0)), (9, (.bool true)), (8, (.bool false)), (3, (.bool false))] a ∧ Hp w wv [bx b_3 28 [(.int .i64 U.channel), (.int .i64 (IntKind.i64.wrap (U.frame + 1))), (.int .i64 V.version), (.int .i64 V.item), (.int .i64 V.index), (.bool V.key), (.string (bstr V.data)), (.int .i64 V.regions), (.int .i64 V.gain), (.string (bstr V.caption)), (.int .i64 V.os), (.int .i64 V.of), (.slice Bv V.al.length cv)] true, bx b_1 28 [(.int .i64 U.channel), (.int .i64 U.frame), (.int .i64 U.version), (.int .i64 U.item), (.int .i64 U.index), (.bool U.key), (.string (bstr U.data)), (.int .i64 U.regions), (.int .i64 U.gain), (.string (bstr U.caption)), (.int .i64 U.os), (.int .i64 U.of), (.slice Bu U.al.length cu)] true] [⟨rowFp V.al.length Bv, fun w => IsAlts w Bv V.al.length V.al⟩, ⟨rowFp U.al.length Bu, fun w => IsAlts w Bu U.al.length U.al⟩]) ?_ ?_
    ·
      refine An.start (fun v => Hp w v [bx b_3 28 [(.int .i64 U.channel), (.int .i64 (IntKind.i64.wrap (U.frame + 1))), (.int .i64 V.version), (.int .i64 V.item), (.int .i64 V.index), (.bool V.key), (.string (bstr V.data)), (.int .i64 V.regions), (.int .i64 V.gain), (.string (bstr V.caption)), (.int .i64 V.os), (.int .i64 V.of), (.slice Bv V.al.length cv)] true, bx b_1 28 [(.int .i64 U.channel), (.int .i64 U.frame), (.int .i64 U.version), (.int .i64 U.item), (.int .i64 U.index), (.bool U.key), (.string (bstr U.data)), (.int .i64 U.regions), (.int .i64 U.gain), (.string (bstr U.caption)), (.int .i64 U.os), (.int .i64 U.of), (.slice Bu U.al.length cu)] true] [⟨rowFp V.al.length Bv, fun w => IsAlts w Bv V.al.length V.al⟩, ⟨rowFp U.al.length Bu, fun w => IsAlts w Bu U.al.length U.al⟩]) 9 9 HP wide_follows rfl ?_
      intro w_16 HP
      refine An.pure H (.inr (HP)) 0 36 (.int .i64 c) rfl (by kernel_rfl) (by kernel_rfl) (fun _ _ _ h => h) (fun _ => by kernel_rfl) ?_
      intro a H
      refine An.val H (HP) 2 38 (.agg #[(.int .i64 U.channel), (.int .i64 (IntKind.i64.wrap (U.frame + 1))), (.int .i64 V.version), (.int .i64 V.item), (.int .i64 V.index), (.bool V.key), (.string (bstr V.data)), (.int .i64 V.regions), (.int .i64 V.gain), (.string (bstr V.caption)), (.int .i64 V.os), (.int .i64 V.of), (.slice Bv V.al.length cv)]) rfl (by kernel_rfl) (by kernel_rfl) (fun _ _ _ h => h) (fun _ hS => ex_loadN (vs := [(.int .i64 U.channel), (.int .i64 (IntKind.i64.wrap (U.frame + 1))), (.int .i64 V.version), (.int .i64 V.item), (.int .i64 V.index), (.bool V.key), (.string (bstr V.data)), (.int .i64 V.regions), (.int .i64 V.gain), (.string (bstr V.caption)), (.int .i64 V.os), (.int .i64 V.of), (.slice Bv V.al.length cv)]) (by kernel_rfl) (by kernel_rfl) (by kernel_rfl) rfl (hS.cells 0 rfl 0 13 (by kernel_rfl))) ?_
      intro a H
      refine An.one 1 (by kernel_rfl) ?_
      refine Op.call H 37 rfl (by kernel_rfl) (Eq.trans (by kernel_rfl : _ = (callFunc 14 #[(.int .i64 c)]).run Tryd.prog w_16) (Tryd.call14 _ _)) (rate_any c w_16 hc) ?_
      rintro e w_17 ⟨rfl, hb⟩
      refine ⟨_, rfl, ?_⟩
      intro a H
      have HP := HP.next hb
      refine ⟨.inr (HP), ?_⟩
      refine An.one 3 (by kernel_rfl) ?_
      refine Op.call H 39 rfl (by kernel_rfl) (Eq.trans (by kernel_rfl : _ = (callFunc 16 #[(.agg #[(.int .i64 ((rateP c).1)), (.int .i64 ((rateP c).2))]), (.agg #[(.int .i64 U.channel), (.int .i64 (IntKind.i64.wrap (U.frame + 1))), (.int .i64 V.version), (.int .i64 V.item), (.int .i64 V.index), (.bool V.key), (.string (bstr V.data)), (.int .i64 V.regions), (.int .i64 V.gain), (.string (bstr V.caption)), (.int .i64 V.os), (.int .i64 V.of), (.slice Bv V.al.length cv)])]).run Tryd.prog w_17) (Tryd.call16 _ _)) ((by have hh := pack_any ((rateP c).1) ((rateP c).2) (⟨U.channel, IntKind.i64.wrap (U.frame + 1), V.version, V.item, V.index, V.key, V.data, V.regions, V.gain, V.caption, V.os, V.of, Bv, cv, V.al⟩ : Un) w_17 (hL.below (HP.below (by kernel_rfl))) (HP.fact 0 rfl) (Nat.le_trans hcav hcbv); rw [hZv Bv cv] at hh; exact hh)) ?_
      rintro e w_18 ⟨rfl, hb⟩
      refine ⟨_, rfl, ?_⟩
      intro a H
      have HP := HP.next hb
      refine ⟨.inr (HP), ?_⟩
      refine An.pure H (.inr (HP)) 4 35 (.tuple #[(.string (bstr lv)), (.int .i64 0)]) rfl (by kernel_rfl) (by kernel_rfl) (fun _ _ _ h => h) (fun _ => by kernel_rfl) ?_
      intro a H
      refine An.pure H (.inr (HP)) 5 40 (.string (bstr lv)) rfl (by kernel_rfl) (by kernel_rfl) (fun _ _ _ h => h) (fun _ => by kernel_rfl) ?_
      intro a H
      refine An.pure H (.inr (HP)) 6 41 (.int .i64 0) rfl (by kernel_rfl) (by kernel_rfl) (fun _ _ _ h => h) (fun _ => by kernel_rfl) ?_
      intro a H
      refine An.pure H (.inr (HP)) 7 12 (.string (bstr lv)) rfl (by kernel_rfl) (by kernel_rfl) (fun _ _ _ h => h) (fun _ => by kernel_rfl) ?_
      intro a H
      refine An.pure H (.inr (HP)) 8 13 (.int .i64 0) rfl (by kernel_rfl) (by kernel_rfl) (fun _ _ _ h => h) (fun _ => by kernel_rfl) ?_
      intro a H
      refine An.done (by kernel_rfl) ?_
      have H := H.keep (L' := [(13, (.int .i64 0)), (12, (.string (bstr lv))), (10, (.string (bstr lu))), (11, (.int .i64 0)), (9, (.bool true)), (8, (.bool false)), (6, (.pointer (some ⟨b_3, 0, none⟩))), (0, (.int .i64 c)), (3, (.bool false))]) (by kernel_rfl)
      refine then_normal ?_
      exact ⟨H.keep (by kernel_rfl), HP⟩
    ·
      rintro a w_19 ⟨H, HP⟩
      refine wp_seq ?_
      refine wp_seq ?_
      refine w_region ?_
      refine H.val 42 (.int .i64 0) (by kernel_rfl) (by kernel_rfl) ?_
      intro a H
      refine H.val 43 (.bool false) (by kernel_rfl) (by kernel_rfl) ?_
      intro a H
      refine H.val 44 (.bool false) (by kernel_rfl) (by kernel_rfl) ?_
      intro a H
      refine H.val 45 (.int .i64 0) (by kernel_rfl) (by kernel_rfl) ?_
      intro a H
      refine H.val 46 (.bool false) (by kernel_rfl) (by kernel_rfl) ?_
      intro a H
      refine H.val 47 (.bool false) (by kernel_rfl) (by kernel_rfl) ?_
      intro a H
      refine H.val 48 (.bool false) (by kernel_rfl) (by kernel_rfl) ?_
      intro a H
      refine H.val 49 (.string (bstr lu)) (by kernel_rfl) (by kernel_rfl) ?_
      intro a H
      refine H.val 50 (.int .i64 ((lu.length : Nat) : Int)) (by kernel_rfl) (by kernel_rfl) ?_
      intro a H
      refine H.valE 51 (.bool (decide (((lu.length : Nat) : Int) < 64))) (.bool false) (by kernel_rfl) (by kernel_rfl) ((congrArg Value.bool (decide_eq_false (by omega)))) ?_
      intro a H
      refine H.val 52 (.bool false) (by kernel_rfl) (by kernel_rfl) ?_
      intro a H
      refine H.val 53 (.bool false) (by kernel_rfl) (by kernel_rfl) ?_
      intro a H
      refine H.val 54 (.string (bstr lv)) (by kernel_rfl) (by kernel_rfl) ?_
      intro a H
      refine H.val 55 (.int .i64 ((lv.length : Nat) : Int)) (by kernel_rfl) (by kernel_rfl) ?_
      intro a H
      refine H.valE 56 (.bool (decide (((lv.length : Nat) : Int) < 64))) (.bool false) (by kernel_rfl) (by kernel_rfl) ((congrArg Value.bool (decide_eq_false (by omega)))) ?_
      intro a H
      refine H.val 57 (.bool false) (by kernel_rfl) (by kernel_rfl) ?_
      intro a H
      refine wpList_nil ?_
      have H := H.keep (L' := [(57, (.bool false)), (12, (.string (bstr lv))), (13, (.int .i64 0)), (10, (.string (bstr lu))), (11, (.int .i64 0)), (9, (.bool true)), (8, (.bool false)), (3, (.bool false))]) (by kernel_rfl)
      refine then_normal ?_
      refine w_iff H rfl ?_
      refine wp_skip ?_
      refine then_normal ?_
      refine wp_seq ?_
      refine w_region ?_
      refine H.val 67 (.string (bstr lu)) (by kernel_rfl) (by kernel_rfl) ?_
      intro a H
      refine H.val 68 (.string (bstr (lu.drop 64))) (by kernel_rfl) (ex_ssliceL (k := .i64) (l := lu) (i := 64) (a := 64) (by kernel_rfl) (by kernel_rfl) (by kernel_rfl) (by omega) (by omega)) ?_
      intro a H
      refine H.val 14 (.string (bstr (lu.drop 64))) (by kernel_rfl) (by kernel_rfl) ?_
      intro a H
      refine wpList_nil ?_
      refine then_normal ?_
      refine wp_seq ?_
      refine w_region ?_
      refine H.val 69 (.string (bstr lv)) (by kernel_rfl) (by kernel_rfl) ?_
      intro a H
      refine H.val 70 (.string (bstr (lv.drop 64))) (by kernel_rfl) (ex_ssliceL (k := .i64) (l := lv) (i := 64) (a := 64) (by kernel_rfl) (by kernel_rfl) (by kernel_rfl) (by omega) (by omega)) ?_
      intro a H
      refine H.val 15 (.string (bstr (lv.drop 64))) (by kernel_rfl) (by kernel_rfl) ?_
      intro a H
      refine wpList_nil ?_
      refine then_normal ?_
      refine wp_seq ?_
      refine wp_seq ?_
      refine w_region ?_
      refine H.val 71 (.bool false) (by kernel_rfl) (by kernel_rfl) ?_
      intro a H
      refine wpList_nil ?_
      refine then_normal ?_
      refine w_iff H rfl ?_
      refine wp_skip ?_
      refine then_normal ?_
      refine wp_seq ?_
      refine w_region ?_
      refine H.val 82 (.bool true) (by kernel_rfl) (by kernel_rfl) ?_
      intro a H
      refine H.val 83 (.bool true) (by kernel_rfl) (by kernel_rfl) ?_
      intro a H
      refine H.val 84 (.string (bstr lu)) (by kernel_rfl) (by kernel_rfl) ?_
      intro a H
      refine H.val 85 (.string (bstr lv)) (by kernel_rfl) (by kernel_rfl) ?_
      intro a H
      refine H.call 86 (by kernel_rfl) (Eq.trans (by kernel_rfl : _ = (callFunc 24 #[(.string (bstr lu)), (.string (bstr lv))]).run Tryd.prog w_19) (Tryd.call24 _ _)) ((by have hh := follows_any lu lv w_19 (by first | omega | (simp only [List.length_take, List.length_drop]; omega)) (by first | omega | (simp only [List.length_take, List.length_drop]; omega)); rw [hfw] at hh; exact hh)) ?_
      rintro e w_20 ⟨rfl, hb⟩
      refine ⟨_, rfl, ?_⟩
      intro a H
      have HP := HP.next hb
      refine H.val 87 (.bool true) (by kernel_rfl) (by kernel_rfl) ?_
      intro a H
      refine H.val 88 (.bool true) (by kernel_rfl) (by kernel_rfl) ?_
      intro a H
      refine H.val 89 (.string (bstr (lu.drop 64))) (by kernel_rfl) (by kernel_rfl) ?_
      intro a H
      refine H.val 90 (.string (bstr lv)) (by kernel_rfl) (by kernel_rfl) ?_
      intro a H
      refine H.call 91 (by kernel_rfl) (Eq.trans (by kernel_rfl : _ = (callFunc 24 #[(.string (bstr (lu.drop 64))), (.string (bstr lv))]).run Tryd.prog w_20) (Tryd.call24 _ _)) ((by have hh := follows_any (lu.drop 64) lv w_20 (by first | omega | (simp only [List.length_take, List.length_drop]; omega)) (by first | omega | (simp only [List.length_take, List.length_drop]; omega)); rw [follows_l (exam_drop (hZu none 0))] at hh; exact hh)) ?_
      rintro e w_21 ⟨rfl, hb⟩
      refine ⟨_, rfl, ?_⟩
      intro a H
      have HP := HP.next hb
      refine H.val 92 (.bool true) (by kernel_rfl) (by kernel_rfl) ?_
      intro a H
      refine H.val 93 (.bool true) (by kernel_rfl) (by kernel_rfl) ?_
      intro a H
      refine H.val 94 (.bool true) (by kernel_rfl) (by kernel_rfl) ?_
      intro a H
      refine H.val 95 (.string (bstr lu)) (by kernel_rfl) (by kernel_rfl) ?_
      intro a H
      refine H.val 96 (.string (bstr (lv.drop 64))) (by kernel_rfl) (by kernel_rfl) ?_
      intro a H
      refine H.call 97 (by kernel_rfl) (Eq.trans (by kernel_rfl : _ = (callFunc 24 #[(.string (bstr lu)), (.string (bstr (lv.drop 64)))]).run Tryd.prog w_21) (Tryd.call24 _ _)) ((by have hh := follows_any lu (lv.drop 64) w_21 (by first | omega | (simp only [List.length_take, List.length_drop]; omega)) (by first | omega | (simp only [List.length_take, List.length_drop]; omega)); rw [follows_r (exam_drop (hZv none 0))] at hh; exact hh)) ?_
      rintro e w_22 ⟨rfl, hb⟩
      refine ⟨_, rfl, ?_⟩
      intro a H
      have HP := HP.next hb
      refine H.val 98 (.bool true) (by kernel_rfl) (by kernel_rfl) ?_
      intro a H
      refine H.val 99 (.bool true) (by kernel_rfl) (by kernel_rfl) ?_
      intro a H
      refine H.val 8 (.bool true) (by kernel_rfl) (by kernel_rfl) ?_
      intro a H
      refine wpList_nil ?_
      have H := H.keep (L' := [(8, (.bool true)), (71, (.bool false)), (15, (.string (bstr (lv.drop 64)))), (70, (.string (bstr (lv.drop 64)))), (69, (.string (bstr lv))), (14, (.string (bstr (lu.drop 64)))), (68, (.string (bstr (lu.drop 64)))), (67, (.string (bstr lu))), (57, (.bool false)), (12, (.string (bstr lv))), (13, (.int .i64 0)), (10, (.string (bstr lu))), (11, (.int .i64 0)), (9, (.bool true)), (3, (.bool false))]) (by kernel_rfl)
      refine then_normal ?_
      refine wp_ret ?_
      refine H.ret1 (fn := Tryd.f12) Tryd.results12 (RV.tmp_ (v := (.bool true)) (by kernel_rfl)) ?_
      exact ⟨rfl, (HP.below (by kernel_rfl))⟩
theorem gap_all (c : Int) (u v : Un) (last : Bool) (w : World) (hL : Laid w) (hc : -9223372036854775808 ≤ c ∧ c ≤ 9223372036854775807) (huu : IsAlts w u.A u.al.length u.al) (hcu : u.al.length ≤ u.c) (hAu : u.A = none → u.c = 0) (huv : IsAlts w v.A v.al.length v.al) (hcv : v.al.length ≤ v.c) (hAv : v.A = none → v.c = 0) :
    Calls Tryd.prog 12 #[.int .i64 c, u.val, v.val, .bool last] w fun e w' => e = .returned (.bool true) ∧ Below w.heap.size w w' := by
  obtain ⟨U, hU⟩ : ∃ U, shortU u = U := ⟨_, rfl⟩
  obtain ⟨V, hV⟩ : ∃ V, shortU v = V := ⟨_, rfl⟩
  cases last with
  | true =>
    cases hu' : packP (rateP c).1 (rateP c).2 U with
    | none =>
      obtain ⟨Zv, hv'⟩ : ∃ Z, packP (rateP c).1 (rateP c).2 (⟨U.channel, IntKind.i64.wrap (U.frame + 1), V.version, V.item, V.index, V.key, V.data, V.regions, V.gain, V.caption, V.os, V.of, none, 0, V.al⟩ : Un) = Z := ⟨_, rfl⟩
      exact gap_tn c u v U V w hU hV hL hc huu hcu hAu huv hcv hAv Zv (fun _ _ => hu') (fun _ _ => hv')
    | some lu =>
      cases hv' : packP (rateP c).1 (rateP c).2 (⟨U.channel, IntKind.i64.wrap (U.frame + 1), V.version, V.item, V.index, V.key, V.data, V.regions, V.gain, V.caption, V.os, V.of, none, 0, V.al⟩ : Un) with
      | none => exact gap_tsn c u v U V w hU hV hL hc huu hcu hAu huv hcv hAv lu (fun _ _ => hu') (fun _ _ => hv')
      | some lv => exact gap_tss c u v U V w hU hV hL hc huu hcu hAu huv hcv hAv lu lv (fun _ _ => hu') (fun _ _ => hv')
  | false =>
    cases hu' : packP (rateP c).1 (rateP c).2 U with
    | none =>
      obtain ⟨Zv, hv'⟩ : ∃ Z, packP (rateP c).1 (rateP c).2 (⟨U.channel, IntKind.i64.wrap (U.frame + 1), V.version, V.item, V.index, V.key, V.data, V.regions, V.gain, V.caption, V.os, V.of, none, 0, V.al⟩ : Un) = Z := ⟨_, rfl⟩
      exact gap_fn c u v U V w hU hV hL hc huu hcu hAu huv hcv hAv Zv (fun _ _ => hu') (fun _ _ => hv')
    | some lu =>
      cases hv' : packP (rateP c).1 (rateP c).2 (⟨U.channel, IntKind.i64.wrap (U.frame + 1), V.version, V.item, V.index, V.key, V.data, V.regions, V.gain, V.caption, V.os, V.of, none, 0, V.al⟩ : Un) with
      | none => exact gap_fsn c u v U V w hU hV hL hc huu hcu hAu huv hcv hAv lu (fun _ _ => hu') (fun _ _ => hv')
      | some lv => exact gap_fss c u v U V w hU hV hL hc huu hcu hAu huv hcv hAv lu lv (fun _ _ => hu') (fun _ _ => hv')
end Go.Proofs.YtgdjpaeclicdfaaDoor
