/- TransportFollows: the walk. -/
import Derived.Test.YtgdjpaeclicdfaaDoorLwA
namespace Go.Proofs.YtgdjpaeclicdfaaDoor
open Go.ChangeShapes Go.WideShapes Go.ChangeAt Go.RowKit
set_option linter.unusedVariables false
set_option linter.unusedSimpArgs false

theorem valid_of_pack {rn rd : Int} {u : Un} {l : List UInt8} (h : packP rn rd u = some l) : (0 ≤ u.channel ∧ u.channel < 40) ∧ (0 ≤ u.frame ∧ u.frame ≤ 100000000) := by
  obtain ⟨_, hv, _⟩ := packP_some h
  obtain ⟨hf, _⟩ := validU_facts hv
  exact ⟨⟨hf.1, hf.2.1⟩, hf.2.2.1, hf.2.2.2.1⟩
theorem both_frames {rn rd : Int} {u v : Un} {l m : List UInt8} (h : packP rn rd u = some l) (k : packP rn rd v = some m) : (0 ≤ u.frame ∧ u.frame ≤ 100000000) ∧ (0 ≤ v.frame ∧ v.frame ≤ 100000000) := ⟨(valid_of_pack h).2, (valid_of_pack k).2⟩
theorem follows_law {rn rd : Int} {u v : Un} {l m : List UInt8} (h : packP rn rd u = some l) (k : packP rn rd v = some m) : followsP l m = ((u.channel == v.channel) && ((u.frame + 1) % 16 == v.frame % 16)) := by
  have h1 := pack_exam h
  have h2 := pack_exam k
  have h3 := valid_of_pack h
  have h4 := valid_of_pack k
  unfold followsP
  rw [h1, h2]
  simp only [Option.isSome_some, Option.getD_some, Bool.true_and]
  rw [Bool.eq_iff_iff]
  simp only [Bool.and_eq_true, beq_iff_eq]
  constructor
  · rintro ⟨a, b⟩; constructor <;> omega
  · rintro ⟨a, b⟩; constructor <;> omega
set_option maxRecDepth 100000 in
set_option maxHeartbeats 4000000 in
theorem fol_tn (c k : Int) (u v U V : Un) (w : World) (hU : shortU u = U) (hV : shortU v = V) (hL : Laid w) (hc : -9223372036854775808 ≤ c ∧ c ≤ 9223372036854775807) (hk : -9223372036854775808 ≤ k ∧ k ≤ 9223372036854775807) (huu : IsAlts w u.A u.al.length u.al) (hcu : u.al.length ≤ u.c) (hAu : u.A = none → u.c = 0) (huv : IsAlts w v.A v.al.length v.al) (hcv : v.al.length ≤ v.c) (hAv : v.A = none → v.c = 0) (Zv : Option (List UInt8)) (hZu : ∀ B c', packP (rateP c).1 (rateP c).2 ({ U with A := B, c := c' } : Un) = none) (hZv : ∀ B c', packP (rateP c).1 (rateP c).2 (⟨U.channel, IntKind.i64.wrap (U.frame + pickI k 40), V.version, V.item, V.index, V.key, V.data, V.regions, V.gain, V.caption, V.os, V.of, B, c', V.al⟩ : Un) = Zv) :
    Calls Tryd.prog 11 #[.int .i64 c, u.val, v.val, .int .i64 k, .bool true] w fun e w' => e = .returned (.bool true) ∧ Below w.heap.size w w' := by
  have HP := Hp.start w
  have hp40 := pickI_lt k 40 (by omega)
  refine w_enter 88 [(0, (.int .i64 c)), (1, (.agg #[(.int .i64 u.channel), (.int .i64 u.frame), (.int .i64 u.version), (.int .i64 u.item), (.int .i64 u.index), (.bool u.key), (.string (bstr u.data)), (.int .i64 u.regions), (.int .i64 u.gain), (.string (bstr u.caption)), (.int .i64 u.os), (.int .i64 u.of), (.slice u.A u.al.length u.c)])), (2, (.agg #[(.int .i64 v.channel), (.int .i64 v.frame), (.int .i64 v.version), (.int .i64 v.item), (.int .i64 v.index), (.bool v.key), (.string (bstr v.data)), (.int .i64 v.regions), (.int .i64 v.gain), (.string (bstr v.caption)), (.int .i64 v.os), (.int .i64 v.of), (.slice v.A v.al.length v.c)])), (3, (.int .i64 k)), (4, (.bool true))] Tryd.func11 rfl Tryd.ntmps11 (by kernel_rfl) (by kernel_rfl) ?_
  intro a H
  refine wp_seq ?_
  refine w_region ?_
  refine H.alloc HP 6 (fun b => (.pointer (some ⟨b, 0, none⟩))) 28 [(.int .i64 u.channel), (.int .i64 u.frame), (.int .i64 u.version), (.int .i64 u.item), (.int .i64 u.index), (.bool u.key), (.string (bstr u.data)), (.int .i64 u.regions), (.int .i64 u.gain), (.string (bstr u.caption)), (.int .i64 u.os), (.int .i64 u.of), (.slice u.A u.al.length u.c)] (by kernel_rfl) (fun w => by kernel_rfl) ?_
  intro b_1 w_2 a H HP
  refine H.alloc HP 7 (fun b => (.pointer (some ⟨b, 0, none⟩))) 28 [(.int .i64 v.channel), (.int .i64 v.frame), (.int .i64 v.version), (.int .i64 v.item), (.int .i64 v.index), (.bool v.key), (.string (bstr v.data)), (.int .i64 v.regions), (.int .i64 v.gain), (.string (bstr v.caption)), (.int .i64 v.os), (.int .i64 v.of), (.slice v.A v.al.length v.c)] (by kernel_rfl) (fun w => by kernel_rfl) ?_
  intro b_3 w_4 a H HP
  refine H.val 10 (.bool false) (by kernel_rfl) (by kernel_rfl) ?_
  intro a H
  refine wpList_nil ?_
  refine then_normal ?_
  refine wp_seq ?_
  refine w_region ?_
  refine H.call 17 (by kernel_rfl) (Eq.trans (by kernel_rfl : _ = (callFunc 13 #[]).run Tryd.prog w_4) (Tryd.call13 _ _)) (sane_any w_4 (hL.below (HP.below (by kernel_rfl)))) ?_
  rintro e w_5 ⟨rfl, hb⟩
  refine ⟨_, rfl, ?_⟩
  intro a H
  have HP := HP.next hb
  refine H.val 11 (.bool true) (by kernel_rfl) (by kernel_rfl) ?_
  intro a H
  refine wpList_nil ?_
  refine then_normal ?_
  refine wp_seq ?_
  refine w_region ?_
  refine H.val 18 (.agg #[(.int .i64 u.channel), (.int .i64 u.frame), (.int .i64 u.version), (.int .i64 u.item), (.int .i64 u.index), (.bool u.key), (.string (bstr u.data)), (.int .i64 u.regions), (.int .i64 u.gain), (.string (bstr u.caption)), (.int .i64 u.os), (.int .i64 u.of), (.slice u.A u.al.length u.c)]) (by kernel_rfl) (ex_loadN (vs := [(.int .i64 u.channel), (.int .i64 u.frame), (.int .i64 u.version), (.int .i64 u.item), (.int .i64 u.index), (.bool u.key), (.string (bstr u.data)), (.int .i64 u.regions), (.int .i64 u.gain), (.string (bstr u.caption)), (.int .i64 u.os), (.int .i64 u.of), (.slice u.A u.al.length u.c)]) (by kernel_rfl) (by kernel_rfl) (by kernel_rfl) rfl (HP.cells 1 rfl 0 13 (by kernel_rfl))) ?_
  intro a H
  refine H.call 19 (by kernel_rfl) (Eq.trans (by kernel_rfl : _ = (callFunc 15 #[(.agg #[(.int .i64 u.channel), (.int .i64 u.frame), (.int .i64 u.version), (.int .i64 u.item), (.int .i64 u.index), (.bool u.key), (.string (bstr u.data)), (.int .i64 u.regions), (.int .i64 u.gain), (.string (bstr u.caption)), (.int .i64 u.os), (.int .i64 u.of), (.slice u.A u.al.length u.c)])]).run Tryd.prog w_5) (Tryd.call15 _ _)) (short_anyU hU (short_any u w_5 (huu.below (HP.below (by kernel_rfl))) hcu hAu)) ?_
  rintro e w_6 ⟨Bu, cu, rfl, halu, hcau, hcbu, hccu, hfru, hb⟩
  refine ⟨_, rfl, ?_⟩
  intro a H
  have HP := (HP.next hb).keepF ⟨rowFp U.al.length Bu, fun w => IsAlts w Bu U.al.length U.al⟩ halu (fun _ _ h hk hs => ⟨h.1, h.2.keep hk hs⟩) (fun j hj => row_sep HP halu.2 hfru hj)
  refine H.store HP 1 b_1 0 13 28 [(.int .i64 u.channel), (.int .i64 u.frame), (.int .i64 u.version), (.int .i64 u.item), (.int .i64 u.index), (.bool u.key), (.string (bstr u.data)), (.int .i64 u.regions), (.int .i64 u.gain), (.string (bstr u.caption)), (.int .i64 u.os), (.int .i64 u.of), (.slice u.A u.al.length u.c)] true (.agg #[(.int .i64 U.channel), (.int .i64 U.frame), (.int .i64 U.version), (.int .i64 U.item), (.int .i64 U.index), (.bool U.key), (.string (bstr U.data)), (.int .i64 U.regions), (.int .i64 U.gain), (.string (bstr U.caption)), (.int .i64 U.os), (.int .i64 U.of), (.slice Bu U.al.length cu)]) [bx b_3 28 [(.int .i64 v.channel), (.int .i64 v.frame), (.int .i64 v.version), (.int .i64 v.item), (.int .i64 v.index), (.bool v.key), (.string (bstr v.data)), (.int .i64 v.regions), (.int .i64 v.gain), (.string (bstr v.caption)), (.int .i64 v.os), (.int .i64 v.of), (.slice v.A v.al.length v.c)] true, bx b_1 28 [(.int .i64 U.channel), (.int .i64 U.frame), (.int .i64 U.version), (.int .i64 U.item), (.int .i64 U.index), (.bool U.key), (.string (bstr U.data)), (.int .i64 U.regions), (.int .i64 U.gain), (.string (bstr U.caption)), (.int .i64 U.os), (.int .i64 U.of), (.slice Bu U.al.length cu)] true] (by kernel_rfl) (by kernel_rfl) (by kernel_rfl) rfl (by kernel_rfl) (by kernel_rfl) (by kernel_rfl) (by kernel_rfl) (by kernel_rfl) ?_
  intro w_7 a H HP
  refine wpList_nil ?_
  refine then_normal ?_
  refine wp_seq ?_
  refine w_region ?_
  refine H.val 20 (.agg #[(.int .i64 v.channel), (.int .i64 v.frame), (.int .i64 v.version), (.int .i64 v.item), (.int .i64 v.index), (.bool v.key), (.string (bstr v.data)), (.int .i64 v.regions), (.int .i64 v.gain), (.string (bstr v.caption)), (.int .i64 v.os), (.int .i64 v.of), (.slice v.A v.al.length v.c)]) (by kernel_rfl) (ex_loadN (vs := [(.int .i64 v.channel), (.int .i64 v.frame), (.int .i64 v.version), (.int .i64 v.item), (.int .i64 v.index), (.bool v.key), (.string (bstr v.data)), (.int .i64 v.regions), (.int .i64 v.gain), (.string (bstr v.caption)), (.int .i64 v.os), (.int .i64 v.of), (.slice v.A v.al.length v.c)]) (by kernel_rfl) (by kernel_rfl) (by kernel_rfl) rfl (HP.cells 0 rfl 0 13 (by kernel_rfl))) ?_
  intro a H
  refine H.call 21 (by kernel_rfl) (Eq.trans (by kernel_rfl : _ = (callFunc 15 #[(.agg #[(.int .i64 v.channel), (.int .i64 v.frame), (.int .i64 v.version), (.int .i64 v.item), (.int .i64 v.index), (.bool v.key), (.string (bstr v.data)), (.int .i64 v.regions), (.int .i64 v.gain), (.string (bstr v.caption)), (.int .i64 v.os), (.int .i64 v.of), (.slice v.A v.al.length v.c)])]).run Tryd.prog w_7) (Tryd.call15 _ _)) (short_anyU hV (short_any v w_7 (huv.below (HP.below (by kernel_rfl))) hcv hAv)) ?_
  rintro e w_8 ⟨Bv, cv, rfl, halv, hcav, hcbv, hccv, hfrv, hb⟩
  refine ⟨_, rfl, ?_⟩
  intro a H
  have HP := (HP.next hb).keepF ⟨rowFp V.al.length Bv, fun w => IsAlts w Bv V.al.length V.al⟩ halv (fun _ _ h hk hs => ⟨h.1, h.2.keep hk hs⟩) (fun j hj => row_sep HP halv.2 hfrv hj)
  refine H.store HP 0 b_3 0 13 28 [(.int .i64 v.channel), (.int .i64 v.frame), (.int .i64 v.version), (.int .i64 v.item), (.int .i64 v.index), (.bool v.key), (.string (bstr v.data)), (.int .i64 v.regions), (.int .i64 v.gain), (.string (bstr v.caption)), (.int .i64 v.os), (.int .i64 v.of), (.slice v.A v.al.length v.c)] true (.agg #[(.int .i64 V.channel), (.int .i64 V.frame), (.int .i64 V.version), (.int .i64 V.item), (.int .i64 V.index), (.bool V.key), (.string (bstr V.data)), (.int .i64 V.regions), (.int .i64 V.gain), (.string (bstr V.caption)), (.int .i64 V.os), (.int .i64 V.of), (.slice Bv V.al.length cv)]) [bx b_3 28 [(.int .i64 V.channel), (.int .i64 V.frame), (.int .i64 V.version), (.int .i64 V.item), (.int .i64 V.index), (.bool V.key), (.string (bstr V.data)), (.int .i64 V.regions), (.int .i64 V.gain), (.string (bstr V.caption)), (.int .i64 V.os), (.int .i64 V.of), (.slice Bv V.al.length cv)] true, bx b_1 28 [(.int .i64 U.channel), (.int .i64 U.frame), (.int .i64 U.version), (.int .i64 U.item), (.int .i64 U.index), (.bool U.key), (.string (bstr U.data)), (.int .i64 U.regions), (.int .i64 U.gain), (.string (bstr U.caption)), (.int .i64 U.os), (.int .i64 U.of), (.slice Bu U.al.length cu)] true] (by kernel_rfl) (by kernel_rfl) (by kernel_rfl) rfl (by kernel_rfl) (by kernel_rfl) (by kernel_rfl) (by kernel_rfl) (by kernel_rfl) ?_
  intro w_9 a H HP
  refine wpList_nil ?_
  refine then_normal ?_
  refine wp_seq ?_
  refine w_region ?_
  refine H.val 22 (.int .i64 k) (by kernel_rfl) (by kernel_rfl) ?_
  intro a H
  refine H.call 23 (by kernel_rfl) (Eq.trans (by kernel_rfl : _ = (callFunc 27 #[(.int .i64 k), (.int .i64 40)]).run Tryd.prog w_9) (Tryd.call27 _ _)) (pick_any k 40 w_9 (by omega) (by omega)) ?_
  rintro e w_10 ⟨rfl, rfl⟩
  refine ⟨_, rfl, ?_⟩
  intro a H
  refine H.val 3 (.int .i64 (pickI k 40)) (by kernel_rfl) (by kernel_rfl) ?_
  intro a H
  refine wpList_nil ?_
  refine then_normal ?_
  refine wp_seq ?_
  refine wp_seq ?_
  refine w_region ?_
  refine H.val 24 (.bool true) (by kernel_rfl) (by kernel_rfl) ?_
  intro a H
  refine wpList_nil ?_
  refine then_normal ?_
  refine w_ift H rfl ?_
  refine wp_seq ?_
  refine w_region ?_
  refine H.val 25 (.pointer (some ⟨b_1, 0, none⟩)) (by kernel_rfl) (by kernel_rfl) ?_
  intro a H
  refine H.val 26 (.int .i64 U.channel) (by kernel_rfl) (ex_load1 (by kernel_rfl) (by kernel_rfl) (HP.cell 1 rfl 0 rfl)) ?_
  intro a H
  refine H.val 27 (.pointer (some ⟨b_3, 0, none⟩)) (by kernel_rfl) (by kernel_rfl) ?_
  intro a H
  refine H.store HP 0 b_3 0 1 28 [(.int .i64 V.channel), (.int .i64 V.frame), (.int .i64 V.version), (.int .i64 V.item), (.int .i64 V.index), (.bool V.key), (.string (bstr V.data)), (.int .i64 V.regions), (.int .i64 V.gain), (.string (bstr V.caption)), (.int .i64 V.os), (.int .i64 V.of), (.slice Bv V.al.length cv)] true (.int .i64 U.channel) [bx b_3 28 [(.int .i64 U.channel), (.int .i64 V.frame), (.int .i64 V.version), (.int .i64 V.item), (.int .i64 V.index), (.bool V.key), (.string (bstr V.data)), (.int .i64 V.regions), (.int .i64 V.gain), (.string (bstr V.caption)), (.int .i64 V.os), (.int .i64 V.of), (.slice Bv V.al.length cv)] true, bx b_1 28 [(.int .i64 U.channel), (.int .i64 U.frame), (.int .i64 U.version), (.int .i64 U.item), (.int .i64 U.index), (.bool U.key), (.string (bstr U.data)), (.int .i64 U.regions), (.int .i64 U.gain), (.string (bstr U.caption)), (.int .i64 U.os), (.int .i64 U.of), (.slice Bu U.al.length cu)] true] (by kernel_rfl) (by kernel_rfl) (by kernel_rfl) rfl (by kernel_rfl) (by kernel_rfl) (by kernel_rfl) (by kernel_rfl) (by kernel_rfl) ?_
  intro w_11 a H HP
  refine wpList_nil ?_
  refine then_normal ?_
  refine w_region ?_
  refine H.val 28 (.pointer (some ⟨b_1, 1, none⟩)) (by kernel_rfl) (by kernel_rfl) ?_
  intro a H
  refine H.val 29 (.int .i64 U.frame) (by kernel_rfl) (ex_load1 (by kernel_rfl) (by kernel_rfl) (HP.cell 1 rfl 1 rfl)) ?_
  intro a H
  refine H.val 30 (.int .i64 (pickI k 40)) (by kernel_rfl) (by kernel_rfl) ?_
  intro a H
  refine H.val 31 (.int .i64 (IntKind.i64.wrap (U.frame + (pickI k 40)))) (by kernel_rfl) (by kernel_rfl) ?_
  intro a H
  refine H.val 32 (.pointer (some ⟨b_3, 1, none⟩)) (by kernel_rfl) (by kernel_rfl) ?_
  intro a H
  refine H.store HP 0 b_3 1 1 28 [(.int .i64 U.channel), (.int .i64 V.frame), (.int .i64 V.version), (.int .i64 V.item), (.int .i64 V.index), (.bool V.key), (.string (bstr V.data)), (.int .i64 V.regions), (.int .i64 V.gain), (.string (bstr V.caption)), (.int .i64 V.os), (.int .i64 V.of), (.slice Bv V.al.length cv)] true (.int .i64 (IntKind.i64.wrap (U.frame + (pickI k 40)))) [bx b_3 28 [(.int .i64 U.channel), (.int .i64 (IntKind.i64.wrap (U.frame + (pickI k 40)))), (.int .i64 V.version), (.int .i64 V.item), (.int .i64 V.index), (.bool V.key), (.string (bstr V.data)), (.int .i64 V.regions), (.int .i64 V.gain), (.string (bstr V.caption)), (.int .i64 V.os), (.int .i64 V.of), (.slice Bv V.al.length cv)] true, bx b_1 28 [(.int .i64 U.channel), (.int .i64 U.frame), (.int .i64 U.version), (.int .i64 U.item), (.int .i64 U.index), (.bool U.key), (.string (bstr U.data)), (.int .i64 U.regions), (.int .i64 U.gain), (.string (bstr U.caption)), (.int .i64 U.os), (.int .i64 U.of), (.slice Bu U.al.length cu)] true] (by kernel_rfl) (by kernel_rfl) (by kernel_rfl) rfl (by kernel_rfl) (by kernel_rfl) (by kernel_rfl) (by kernel_rfl) (by kernel_rfl) ?_
  intro w_12 a H HP
  refine wpList_nil ?_
  have H := H.keep (L' := [(27, (.pointer (some ⟨b_3, 0, none⟩))), (26, (.int .i64 U.channel)), (25, (.pointer (some ⟨b_1, 0, none⟩))), (24, (.bool true)), (3, (.int .i64 (pickI k 40))), (23, (.int .i64 (pickI k 40))), (22, (.int .i64 k)), (21, (.agg #[(.int .i64 V.channel), (.int .i64 V.frame), (.int .i64 V.version), (.int .i64 V.item), (.int .i64 V.index), (.bool V.key), (.string (bstr V.data)), (.int .i64 V.regions), (.int .i64 V.gain), (.string (bstr V.caption)), (.int .i64 V.os), (.int .i64 V.of), (.slice Bv V.al.length cv)])), (20, (.agg #[(.int .i64 v.channel), (.int .i64 v.frame), (.int .i64 v.version), (.int .i64 v.item), (.int .i64 v.index), (.bool v.key), (.string (bstr v.data)), (.int .i64 v.regions), (.int .i64 v.gain), (.string (bstr v.caption)), (.int .i64 v.os), (.int .i64 v.of), (.slice v.A v.al.length v.c)])), (19, (.agg #[(.int .i64 U.channel), (.int .i64 U.frame), (.int .i64 U.version), (.int .i64 U.item), (.int .i64 U.index), (.bool U.key), (.string (bstr U.data)), (.int .i64 U.regions), (.int .i64 U.gain), (.string (bstr U.caption)), (.int .i64 U.os), (.int .i64 U.of), (.slice Bu U.al.length cu)])), (18, (.agg #[(.int .i64 u.channel), (.int .i64 u.frame), (.int .i64 u.version), (.int .i64 u.item), (.int .i64 u.index), (.bool u.key), (.string (bstr u.data)), (.int .i64 u.regions), (.int .i64 u.gain), (.string (bstr u.caption)), (.int .i64 u.os), (.int .i64 u.of), (.slice u.A u.al.length u.c)])), (11, (.bool true)), (17, (.bool true)), (10, (.bool false)), (7, (.pointer (some ⟨b_3, 0, none⟩))), (6, (.pointer (some ⟨b_1, 0, none⟩))), (0, (.int .i64 c)), (1, (.agg #[(.int .i64 u.channel), (.int .i64 u.frame), (.int .i64 u.version), (.int .i64 u.item), (.int .i64 u.index), (.bool u.key), (.string (bstr u.data)), (.int .i64 u.regions), (.int .i64 u.gain), (.string (bstr u.caption)), (.int .i64 u.os), (.int .i64 u.of), (.slice u.A u.al.length u.c)])), (2, (.agg #[(.int .i64 v.channel), (.int .i64 v.frame), (.int .i64 v.version), (.int .i64 v.item), (.int .i64 v.index), (.bool v.key), (.string (bstr v.data)), (.int .i64 v.regions), (.int .i64 v.gain), (.string (bstr v.caption)), (.int .i64 v.os), (.int .i64 v.of), (.slice v.A v.al.length v.c)])), (4, (.bool true))]) (by kernel_rfl)
  refine then_normal ?_
  refine w_cut (fun a wv => Sl 88 [(12, (.string (bstr ([])))), (13, (.int .i64 180)), (24, (.bool true)), (3, (.int .i64 (pickI k 40))), (11, (.bool true)), (10, (.bool false)), (7, (.pointer (some ⟨b_3, 0, none⟩))), (6, (.pointer (some ⟨b_1, 0, none⟩))), (0, (.int .i64 c)), (4, (.bool true))] a ∧ Hp w wv [bx b_3 28 [(.int .i64 U.channel), (.int .i64 (IntKind.i64.wrap (U.frame + (pickI k 40)))), (.int .i64 V.version), (.int .i64 V.item), (.int .i64 V.index), (.bool V.key), (.string (bstr V.data)), (.int .i64 V.regions), (.int .i64 V.gain), (.string (bstr V.caption)), (.int .i64 V.os), (.int .i64 V.of), (.slice Bv V.al.length cv)] true, bx b_1 28 [(.int .i64 U.channel), (.int .i64 U.frame), (.int .i64 U.version), (.int .i64 U.item), (.int .i64 U.index), (.bool U.key), (.string (bstr U.data)), (.int .i64 U.regions), (.int .i64 U.gain), (.string (bstr U.caption)), (.int .i64 U.os), (.int .i64 U.of), (.slice Bu U.al.length cu)] true] [⟨rowFp V.al.length Bv, fun w => IsAlts w Bv V.al.length V.al⟩, ⟨rowFp U.al.length Bu, fun w => IsAlts w Bu U.al.length U.al⟩]) ?_ ?_
  ·
    refine An.start (fun v => Hp w v [bx b_3 28 [(.int .i64 U.channel), (.int .i64 (IntKind.i64.wrap (U.frame + (pickI k 40)))), (.int .i64 V.version), (.int .i64 V.item), (.int .i64 V.index), (.bool V.key), (.string (bstr V.data)), (.int .i64 V.regions), (.int .i64 V.gain), (.string (bstr V.caption)), (.int .i64 V.os), (.int .i64 V.of), (.slice Bv V.al.length cv)] true, bx b_1 28 [(.int .i64 U.channel), (.int .i64 U.frame), (.int .i64 U.version), (.int .i64 U.item), (.int .i64 U.index), (.bool U.key), (.string (bstr U.data)), (.int .i64 U.regions), (.int .i64 U.gain), (.string (bstr U.caption)), (.int .i64 U.os), (.int .i64 U.of), (.slice Bu U.al.length cu)] true] [⟨rowFp V.al.length Bv, fun w => IsAlts w Bv V.al.length V.al⟩, ⟨rowFp U.al.length Bu, fun w => IsAlts w Bu U.al.length U.al⟩]) 9 9 HP wide_follows rfl ?_
    intro w_13 HP
    refine An.pure H (.inr (HP)) 0 34 (.int .i64 c) rfl (by kernel_rfl) (by kernel_rfl) (fun _ _ _ h => h) (fun _ => by kernel_rfl) ?_
    intro a H
    refine An.val H (HP) 2 36 (.agg #[(.int .i64 U.channel), (.int .i64 U.frame), (.int .i64 U.version), (.int .i64 U.item), (.int .i64 U.index), (.bool U.key), (.string (bstr U.data)), (.int .i64 U.regions), (.int .i64 U.gain), (.string (bstr U.caption)), (.int .i64 U.os), (.int .i64 U.of), (.slice Bu U.al.length cu)]) rfl (by kernel_rfl) (by kernel_rfl) (fun _ _ _ h => h) (fun _ hS => ex_loadN (vs := [(.int .i64 U.channel), (.int .i64 U.frame), (.int .i64 U.version), (.int .i64 U.item), (.int .i64 U.index), (.bool U.key), (.string (bstr U.data)), (.int .i64 U.regions), (.int .i64 U.gain), (.string (bstr U.caption)), (.int .i64 U.os), (.int .i64 U.of), (.slice Bu U.al.length cu)]) (by kernel_rfl) (by kernel_rfl) (by kernel_rfl) rfl (hS.cells 1 rfl 0 13 (by kernel_rfl))) ?_
    intro a H
    refine An.one 1 (by kernel_rfl) ?_
    refine Op.call H 35 rfl (by kernel_rfl) (Eq.trans (by kernel_rfl : _ = (callFunc 14 #[(.int .i64 c)]).run Tryd.prog w_13) (Tryd.call14 _ _)) (rate_any c w_13 hc) ?_
    rintro e w_14 ⟨rfl, hb⟩
    refine ⟨_, rfl, ?_⟩
    intro a H
    have HP := HP.next hb
    refine ⟨.inr (HP), ?_⟩
    refine An.one 3 (by kernel_rfl) ?_
    refine Op.call H 37 rfl (by kernel_rfl) (Eq.trans (by kernel_rfl : _ = (callFunc 16 #[(.agg #[(.int .i64 ((rateP c).1)), (.int .i64 ((rateP c).2))]), (.agg #[(.int .i64 U.channel), (.int .i64 U.frame), (.int .i64 U.version), (.int .i64 U.item), (.int .i64 U.index), (.bool U.key), (.string (bstr U.data)), (.int .i64 U.regions), (.int .i64 U.gain), (.string (bstr U.caption)), (.int .i64 U.os), (.int .i64 U.of), (.slice Bu U.al.length cu)])]).run Tryd.prog w_14) (Tryd.call16 _ _)) ((by have hh := pack_any ((rateP c).1) ((rateP c).2) (⟨U.channel, U.frame, U.version, U.item, U.index, U.key, U.data, U.regions, U.gain, U.caption, U.os, U.of, Bu, cu, U.al⟩ : Un) w_14 (hL.below (HP.below (by kernel_rfl))) (HP.fact 1 rfl) (Nat.le_trans hcau hcbu); rw [hZu Bu cu] at hh; exact hh)) ?_
    rintro e w_15 ⟨rfl, hb⟩
    refine ⟨_, rfl, ?_⟩
    intro a H
    have HP := HP.next hb
    refine ⟨.inr (HP), ?_⟩
    refine An.pure H (.inr (HP)) 4 33 (.tuple #[(.string (bstr ([]))), (.int .i64 180)]) rfl (by kernel_rfl) (by kernel_rfl) (fun _ _ _ h => h) (fun _ => by kernel_rfl) ?_
    intro a H
    refine An.pure H (.inr (HP)) 5 38 (.string (bstr ([]))) rfl (by kernel_rfl) (by kernel_rfl) (fun _ _ _ h => h) (fun _ => by kernel_rfl) ?_
    intro a H
    refine An.pure H (.inr (HP)) 6 39 (.int .i64 180) rfl (by kernel_rfl) (by kernel_rfl) (fun _ _ _ h => h) (fun _ => by kernel_rfl) ?_
    intro a H
    refine An.pure H (.inr (HP)) 7 12 (.string (bstr ([]))) rfl (by kernel_rfl) (by kernel_rfl) (fun _ _ _ h => h) (fun _ => by kernel_rfl) ?_
    intro a H
    refine An.pure H (.inr (HP)) 8 13 (.int .i64 180) rfl (by kernel_rfl) (by kernel_rfl) (fun _ _ _ h => h) (fun _ => by kernel_rfl) ?_
    intro a H
    refine An.done (by kernel_rfl) ?_
    have H := H.keep (L' := [(13, (.int .i64 180)), (12, (.string (bstr ([])))), (27, (.pointer (some ⟨b_3, 0, none⟩))), (26, (.int .i64 U.channel)), (25, (.pointer (some ⟨b_1, 0, none⟩))), (24, (.bool true)), (3, (.int .i64 (pickI k 40))), (23, (.int .i64 (pickI k 40))), (22, (.int .i64 k)), (21, (.agg #[(.int .i64 V.channel), (.int .i64 V.frame), (.int .i64 V.version), (.int .i64 V.item), (.int .i64 V.index), (.bool V.key), (.string (bstr V.data)), (.int .i64 V.regions), (.int .i64 V.gain), (.string (bstr V.caption)), (.int .i64 V.os), (.int .i64 V.of), (.slice Bv V.al.length cv)])), (20, (.agg #[(.int .i64 v.channel), (.int .i64 v.frame), (.int .i64 v.version), (.int .i64 v.item), (.int .i64 v.index), (.bool v.key), (.string (bstr v.data)), (.int .i64 v.regions), (.int .i64 v.gain), (.string (bstr v.caption)), (.int .i64 v.os), (.int .i64 v.of), (.slice v.A v.al.length v.c)])), (19, (.agg #[(.int .i64 U.channel), (.int .i64 U.frame), (.int .i64 U.version), (.int .i64 U.item), (.int .i64 U.index), (.bool U.key), (.string (bstr U.data)), (.int .i64 U.regions), (.int .i64 U.gain), (.string (bstr U.caption)), (.int .i64 U.os), (.int .i64 U.of), (.slice Bu U.al.length cu)])), (18, (.agg #[(.int .i64 u.channel), (.int .i64 u.frame), (.int .i64 u.version), (.int .i64 u.item), (.int .i64 u.index), (.bool u.key), (.string (bstr u.data)), (.int .i64 u.regions), (.int .i64 u.gain), (.string (bstr u.caption)), (.int .i64 u.os), (.int .i64 u.of), (.slice u.A u.al.length u.c)])), (11, (.bool true)), (17, (.bool true)), (10, (.bool false)), (7, (.pointer (some ⟨b_3, 0, none⟩))), (6, (.pointer (some ⟨b_1, 0, none⟩))), (0, (.int .i64 c)), (1, (.agg #[(.int .i64 u.channel), (.int .i64 u.frame), (.int .i64 u.version), (.int .i64 u.item), (.int .i64 u.index), (.bool u.key), (.string (bstr u.data)), (.int .i64 u.regions), (.int .i64 u.gain), (.string (bstr u.caption)), (.int .i64 u.os), (.int .i64 u.of), (.slice u.A u.al.length u.c)])), (2, (.agg #[(.int .i64 v.channel), (.int .i64 v.frame), (.int .i64 v.version), (.int .i64 v.item), (.int .i64 v.index), (.bool v.key), (.string (bstr v.data)), (.int .i64 v.regions), (.int .i64 v.gain), (.string (bstr v.caption)), (.int .i64 v.os), (.int .i64 v.of), (.slice v.A v.al.length v.c)])), (4, (.bool true))]) (by kernel_rfl)
    refine then_normal ?_
    exact ⟨H.keep (by kernel_rfl), HP⟩
  ·
    rintro a w_16 ⟨H, HP⟩
    refine w_cut (fun a wv => Sl 88 [(14, (.string (bstr (Zv.getD [])))), (15, (.int .i64 (if Zv.isSome = true then 0 else 180 : Int))), (12, (.string (bstr ([])))), (13, (.int .i64 180)), (24, (.bool true)), (3, (.int .i64 (pickI k 40))), (11, (.bool true)), (10, (.bool false)), (7, (.pointer (some ⟨b_3, 0, none⟩))), (6, (.pointer (some ⟨b_1, 0, none⟩))), (4, (.bool true))] a ∧ Hp w wv [bx b_3 28 [(.int .i64 U.channel), (.int .i64 (IntKind.i64.wrap (U.frame + (pickI k 40)))), (.int .i64 V.version), (.int .i64 V.item), (.int .i64 V.index), (.bool V.key), (.string (bstr V.data)), (.int .i64 V.regions), (.int .i64 V.gain), (.string (bstr V.caption)), (.int .i64 V.os), (.int .i64 V.of), (.slice Bv V.al.length cv)] true, bx b_1 28 [(.int .i64 U.channel), (.int .i64 U.frame), (.int .i64 U.version), (.int .i64 U.item), (.int .i64 U.index), (.bool U.key), (.string (bstr U.data)), (.int .i64 U.regions), (.int .i64 U.gain), (.string (bstr U.caption)), (.int .i64 U.os), (.int .i64 U.of), (.slice Bu U.al.length cu)] true] [⟨rowFp V.al.length Bv, fun w => IsAlts w Bv V.al.length V.al⟩, ⟨rowFp U.al.length Bu, fun w => IsAlts w Bu U.al.length U.al⟩]) ?_ ?_
    ·
      refine An.start (fun v => Hp w v [bx b_3 28 [(.int .i64 U.channel), (.int .i64 (IntKind.i64.wrap (U.frame + (pickI k 40)))), (.int .i64 V.version), (.int .i64 V.item), (.int .i64 V.index), (.bool V.key), (.string (bstr V.data)), (.int .i64 V.regions), (.int .i64 V.gain), (.string (bstr V.caption)), (.int .i64 V.os), (.int .i64 V.of), (.slice Bv V.al.length cv)] true, bx b_1 28 [(.int .i64 U.channel), (.int .i64 U.frame), (.int .i64 U.version), (.int .i64 U.item), (.int .i64 U.index), (.bool U.key), (.string (bstr U.data)), (.int .i64 U.regions), (.int .i64 U.gain), (.string (bstr U.caption)), (.int .i64 U.os), (.int .i64 U.of), (.slice Bu U.al.length cu)] true] [⟨rowFp V.al.length Bv, fun w => IsAlts w Bv V.al.length V.al⟩, ⟨rowFp U.al.length Bu, fun w => IsAlts w Bu U.al.length U.al⟩]) 9 9 HP wide_follows rfl ?_
      intro w_17 HP
      refine An.pure H (.inr (HP)) 0 41 (.int .i64 c) rfl (by kernel_rfl) (by kernel_rfl) (fun _ _ _ h => h) (fun _ => by kernel_rfl) ?_
      intro a H
      refine An.val H (HP) 2 43 (.agg #[(.int .i64 U.channel), (.int .i64 (IntKind.i64.wrap (U.frame + (pickI k 40)))), (.int .i64 V.version), (.int .i64 V.item), (.int .i64 V.index), (.bool V.key), (.string (bstr V.data)), (.int .i64 V.regions), (.int .i64 V.gain), (.string (bstr V.caption)), (.int .i64 V.os), (.int .i64 V.of), (.slice Bv V.al.length cv)]) rfl (by kernel_rfl) (by kernel_rfl) (fun _ _ _ h => h) (fun _ hS => ex_loadN (vs := [(.int .i64 U.channel), (.int .i64 (IntKind.i64.wrap (U.frame + (pickI k 40)))), (.int .i64 V.version), (.int .i64 V.item), (.int .i64 V.index), (.bool V.key), (.string (bstr V.data)), (.int .i64 V.regions), (.int .i64 V.gain), (.string (bstr V.caption)), (.int .i64 V.os), (.int .i64 V.of), (.slice Bv V.al.length cv)]) (by kernel_rfl) (by kernel_rfl) (by kernel_rfl) rfl (hS.cells 0 rfl 0 13 (by kernel_rfl))) ?_
      intro a H
      refine An.one 1 (by kernel_rfl) ?_
      refine Op.call H 42 rfl (by kernel_rfl) (Eq.trans (by kernel_rfl : _ = (callFunc 14 #[(.int .i64 c)]).run Tryd.prog w_17) (Tryd.call14 _ _)) (rate_any c w_17 hc) ?_
      rintro e w_18 ⟨rfl, hb⟩
      refine ⟨_, rfl, ?_⟩
      intro a H
      have HP := HP.next hb
      refine ⟨.inr (HP), ?_⟩
      refine An.one 3 (by kernel_rfl) ?_
      refine Op.call H 44 rfl (by kernel_rfl) (Eq.trans (by kernel_rfl : _ = (callFunc 16 #[(.agg #[(.int .i64 ((rateP c).1)), (.int .i64 ((rateP c).2))]), (.agg #[(.int .i64 U.channel), (.int .i64 (IntKind.i64.wrap (U.frame + (pickI k 40)))), (.int .i64 V.version), (.int .i64 V.item), (.int .i64 V.index), (.bool V.key), (.string (bstr V.data)), (.int .i64 V.regions), (.int .i64 V.gain), (.string (bstr V.caption)), (.int .i64 V.os), (.int .i64 V.of), (.slice Bv V.al.length cv)])]).run Tryd.prog w_18) (Tryd.call16 _ _)) ((by have hh := pack_any ((rateP c).1) ((rateP c).2) (⟨U.channel, IntKind.i64.wrap (U.frame + (pickI k 40)), V.version, V.item, V.index, V.key, V.data, V.regions, V.gain, V.caption, V.os, V.of, Bv, cv, V.al⟩ : Un) w_18 (hL.below (HP.below (by kernel_rfl))) (HP.fact 0 rfl) (Nat.le_trans hcav hcbv); rw [hZv Bv cv, packV_eq] at hh; exact hh)) ?_
      rintro e w_19 ⟨rfl, hb⟩
      refine ⟨_, rfl, ?_⟩
      intro a H
      have HP := HP.next hb
      refine ⟨.inr (HP), ?_⟩
      refine An.pure H (.inr (HP)) 4 40 (.tuple #[(.string (bstr (Zv.getD []))), (.int .i64 (if Zv.isSome = true then 0 else 180 : Int))]) rfl (by kernel_rfl) (by kernel_rfl) (fun _ _ _ h => h) (fun _ => by kernel_rfl) ?_
      intro a H
      refine An.pure H (.inr (HP)) 5 45 (.string (bstr (Zv.getD []))) rfl (by kernel_rfl) (by kernel_rfl) (fun _ _ _ h => h) (fun _ => by kernel_rfl) ?_
      intro a H
      refine An.pure H (.inr (HP)) 6 46 (.int .i64 (if Zv.isSome = true then 0 else 180 : Int)) rfl (by kernel_rfl) (by kernel_rfl) (fun _ _ _ h => h) (fun _ => by kernel_rfl) ?_
      intro a H
      refine An.pure H (.inr (HP)) 7 14 (.string (bstr (Zv.getD []))) rfl (by kernel_rfl) (by kernel_rfl) (fun _ _ _ h => h) (fun _ => by kernel_rfl) ?_
      intro a H
      refine An.pure H (.inr (HP)) 8 15 (.int .i64 (if Zv.isSome = true then 0 else 180 : Int)) rfl (by kernel_rfl) (by kernel_rfl) (fun _ _ _ h => h) (fun _ => by kernel_rfl) ?_
      intro a H
      refine An.done (by kernel_rfl) ?_
      have H := H.keep (L' := [(15, (.int .i64 (if Zv.isSome = true then 0 else 180 : Int))), (14, (.string (bstr (Zv.getD [])))), (12, (.string (bstr ([])))), (13, (.int .i64 180)), (24, (.bool true)), (3, (.int .i64 (pickI k 40))), (11, (.bool true)), (10, (.bool false)), (7, (.pointer (some ⟨b_3, 0, none⟩))), (6, (.pointer (some ⟨b_1, 0, none⟩))), (0, (.int .i64 c)), (4, (.bool true))]) (by kernel_rfl)
      refine then_normal ?_
      exact ⟨H.keep (by kernel_rfl), HP⟩
    ·
      rintro a w_20 ⟨H, HP⟩
      refine wp_seq ?_
      refine wp_seq ?_
      refine w_region ?_
      refine H.val 47 (.int .i64 180) (by kernel_rfl) (by kernel_rfl) ?_
      intro a H
      refine H.val 48 (.bool true) (by kernel_rfl) (by kernel_rfl) ?_
      intro a H
      refine H.val 49 (.bool true) (by kernel_rfl) (by kernel_rfl) ?_
      intro a H
      refine H.skip 50 (by kernel_rfl) ?_
      intro a H
      refine H.skip 51 (by kernel_rfl) ?_
      intro a H
      refine H.val 52 (.bool true) (by kernel_rfl) (by kernel_rfl) ?_
      intro a H
      refine wpList_nil ?_
      refine then_normal ?_
      refine w_ift H rfl ?_
      refine wp_seq ?_
      refine w_region ?_
      refine H.val 53 (.bool true) (by kernel_rfl) (by kernel_rfl) ?_
      intro a H
      refine H.val 10 (.bool true) (by kernel_rfl) (by kernel_rfl) ?_
      intro a H
      refine wpList_nil ?_
      refine then_normal ?_
      refine wp_ret ?_
      refine then_ret ?_
      refine H.ret1 (fn := Tryd.f11) Tryd.results11 (RV.tmp_ (v := (.bool true)) (by kernel_rfl)) ?_
      exact ⟨rfl, (HP.below (by kernel_rfl))⟩
set_option maxRecDepth 100000 in
set_option maxHeartbeats 4000000 in
theorem fol_tsn (c k : Int) (u v U V : Un) (w : World) (hU : shortU u = U) (hV : shortU v = V) (hL : Laid w) (hc : -9223372036854775808 ≤ c ∧ c ≤ 9223372036854775807) (hk : -9223372036854775808 ≤ k ∧ k ≤ 9223372036854775807) (huu : IsAlts w u.A u.al.length u.al) (hcu : u.al.length ≤ u.c) (hAu : u.A = none → u.c = 0) (huv : IsAlts w v.A v.al.length v.al) (hcv : v.al.length ≤ v.c) (hAv : v.A = none → v.c = 0) (lu : List UInt8) (hZu : ∀ B c', packP (rateP c).1 (rateP c).2 ({ U with A := B, c := c' } : Un) = some lu) (hZv : ∀ B c', packP (rateP c).1 (rateP c).2 (⟨U.channel, IntKind.i64.wrap (U.frame + pickI k 40), V.version, V.item, V.index, V.key, V.data, V.regions, V.gain, V.caption, V.os, V.of, B, c', V.al⟩ : Un) = none) :
    Calls Tryd.prog 11 #[.int .i64 c, u.val, v.val, .int .i64 k, .bool true] w fun e w' => e = .returned (.bool true) ∧ Below w.heap.size w w' := by
  have HP := Hp.start w
  have hp40 := pickI_lt k 40 (by omega)
  refine w_enter 88 [(0, (.int .i64 c)), (1, (.agg #[(.int .i64 u.channel), (.int .i64 u.frame), (.int .i64 u.version), (.int .i64 u.item), (.int .i64 u.index), (.bool u.key), (.string (bstr u.data)), (.int .i64 u.regions), (.int .i64 u.gain), (.string (bstr u.caption)), (.int .i64 u.os), (.int .i64 u.of), (.slice u.A u.al.length u.c)])), (2, (.agg #[(.int .i64 v.channel), (.int .i64 v.frame), (.int .i64 v.version), (.int .i64 v.item), (.int .i64 v.index), (.bool v.key), (.string (bstr v.data)), (.int .i64 v.regions), (.int .i64 v.gain), (.string (bstr v.caption)), (.int .i64 v.os), (.int .i64 v.of), (.slice v.A v.al.length v.c)])), (3, (.int .i64 k)), (4, (.bool true))] Tryd.func11 rfl Tryd.ntmps11 (by kernel_rfl) (by kernel_rfl) ?_
  intro a H
  refine wp_seq ?_
  refine w_region ?_
  refine H.alloc HP 6 (fun b => (.pointer (some ⟨b, 0, none⟩))) 28 [(.int .i64 u.channel), (.int .i64 u.frame), (.int .i64 u.version), (.int .i64 u.item), (.int .i64 u.index), (.bool u.key), (.string (bstr u.data)), (.int .i64 u.regions), (.int .i64 u.gain), (.string (bstr u.caption)), (.int .i64 u.os), (.int .i64 u.of), (.slice u.A u.al.length u.c)] (by kernel_rfl) (fun w => by kernel_rfl) ?_
  intro b_1 w_2 a H HP
  refine H.alloc HP 7 (fun b => (.pointer (some ⟨b, 0, none⟩))) 28 [(.int .i64 v.channel), (.int .i64 v.frame), (.int .i64 v.version), (.int .i64 v.item), (.int .i64 v.index), (.bool v.key), (.string (bstr v.data)), (.int .i64 v.regions), (.int .i64 v.gain), (.string (bstr v.caption)), (.int .i64 v.os), (.int .i64 v.of), (.slice v.A v.al.length v.c)] (by kernel_rfl) (fun w => by kernel_rfl) ?_
  intro b_3 w_4 a H HP
  refine H.val 10 (.bool false) (by kernel_rfl) (by kernel_rfl) ?_
  intro a H
  refine wpList_nil ?_
  refine then_normal ?_
  refine wp_seq ?_
  refine w_region ?_
  refine H.call 17 (by kernel_rfl) (Eq.trans (by kernel_rfl : _ = (callFunc 13 #[]).run Tryd.prog w_4) (Tryd.call13 _ _)) (sane_any w_4 (hL.below (HP.below (by kernel_rfl)))) ?_
  rintro e w_5 ⟨rfl, hb⟩
  refine ⟨_, rfl, ?_⟩
  intro a H
  have HP := HP.next hb
  refine H.val 11 (.bool true) (by kernel_rfl) (by kernel_rfl) ?_
  intro a H
  refine wpList_nil ?_
  refine then_normal ?_
  refine wp_seq ?_
  refine w_region ?_
  refine H.val 18 (.agg #[(.int .i64 u.channel), (.int .i64 u.frame), (.int .i64 u.version), (.int .i64 u.item), (.int .i64 u.index), (.bool u.key), (.string (bstr u.data)), (.int .i64 u.regions), (.int .i64 u.gain), (.string (bstr u.caption)), (.int .i64 u.os), (.int .i64 u.of), (.slice u.A u.al.length u.c)]) (by kernel_rfl) (ex_loadN (vs := [(.int .i64 u.channel), (.int .i64 u.frame), (.int .i64 u.version), (.int .i64 u.item), (.int .i64 u.index), (.bool u.key), (.string (bstr u.data)), (.int .i64 u.regions), (.int .i64 u.gain), (.string (bstr u.caption)), (.int .i64 u.os), (.int .i64 u.of), (.slice u.A u.al.length u.c)]) (by kernel_rfl) (by kernel_rfl) (by kernel_rfl) rfl (HP.cells 1 rfl 0 13 (by kernel_rfl))) ?_
  intro a H
  refine H.call 19 (by kernel_rfl) (Eq.trans (by kernel_rfl : _ = (callFunc 15 #[(.agg #[(.int .i64 u.channel), (.int .i64 u.frame), (.int .i64 u.version), (.int .i64 u.item), (.int .i64 u.index), (.bool u.key), (.string (bstr u.data)), (.int .i64 u.regions), (.int .i64 u.gain), (.string (bstr u.caption)), (.int .i64 u.os), (.int .i64 u.of), (.slice u.A u.al.length u.c)])]).run Tryd.prog w_5) (Tryd.call15 _ _)) (short_anyU hU (short_any u w_5 (huu.below (HP.below (by kernel_rfl))) hcu hAu)) ?_
  rintro e w_6 ⟨Bu, cu, rfl, halu, hcau, hcbu, hccu, hfru, hb⟩
  refine ⟨_, rfl, ?_⟩
  intro a H
  have HP := (HP.next hb).keepF ⟨rowFp U.al.length Bu, fun w => IsAlts w Bu U.al.length U.al⟩ halu (fun _ _ h hk hs => ⟨h.1, h.2.keep hk hs⟩) (fun j hj => row_sep HP halu.2 hfru hj)
  refine H.store HP 1 b_1 0 13 28 [(.int .i64 u.channel), (.int .i64 u.frame), (.int .i64 u.version), (.int .i64 u.item), (.int .i64 u.index), (.bool u.key), (.string (bstr u.data)), (.int .i64 u.regions), (.int .i64 u.gain), (.string (bstr u.caption)), (.int .i64 u.os), (.int .i64 u.of), (.slice u.A u.al.length u.c)] true (.agg #[(.int .i64 U.channel), (.int .i64 U.frame), (.int .i64 U.version), (.int .i64 U.item), (.int .i64 U.index), (.bool U.key), (.string (bstr U.data)), (.int .i64 U.regions), (.int .i64 U.gain), (.string (bstr U.caption)), (.int .i64 U.os), (.int .i64 U.of), (.slice Bu U.al.length cu)]) [bx b_3 28 [(.int .i64 v.channel), (.int .i64 v.frame), (.int .i64 v.version), (.int .i64 v.item), (.int .i64 v.index), (.bool v.key), (.string (bstr v.data)), (.int .i64 v.regions), (.int .i64 v.gain), (.string (bstr v.caption)), (.int .i64 v.os), (.int .i64 v.of), (.slice v.A v.al.length v.c)] true, bx b_1 28 [(.int .i64 U.channel), (.int .i64 U.frame), (.int .i64 U.version), (.int .i64 U.item), (.int .i64 U.index), (.bool U.key), (.string (bstr U.data)), (.int .i64 U.regions), (.int .i64 U.gain), (.string (bstr U.caption)), (.int .i64 U.os), (.int .i64 U.of), (.slice Bu U.al.length cu)] true] (by kernel_rfl) (by kernel_rfl) (by kernel_rfl) rfl (by kernel_rfl) (by kernel_rfl) (by kernel_rfl) (by kernel_rfl) (by kernel_rfl) ?_
  intro w_7 a H HP
  refine wpList_nil ?_
  refine then_normal ?_
  refine wp_seq ?_
  refine w_region ?_
  refine H.val 20 (.agg #[(.int .i64 v.channel), (.int .i64 v.frame), (.int .i64 v.version), (.int .i64 v.item), (.int .i64 v.index), (.bool v.key), (.string (bstr v.data)), (.int .i64 v.regions), (.int .i64 v.gain), (.string (bstr v.caption)), (.int .i64 v.os), (.int .i64 v.of), (.slice v.A v.al.length v.c)]) (by kernel_rfl) (ex_loadN (vs := [(.int .i64 v.channel), (.int .i64 v.frame), (.int .i64 v.version), (.int .i64 v.item), (.int .i64 v.index), (.bool v.key), (.string (bstr v.data)), (.int .i64 v.regions), (.int .i64 v.gain), (.string (bstr v.caption)), (.int .i64 v.os), (.int .i64 v.of), (.slice v.A v.al.length v.c)]) (by kernel_rfl) (by kernel_rfl) (by kernel_rfl) rfl (HP.cells 0 rfl 0 13 (by kernel_rfl))) ?_
  intro a H
  refine H.call 21 (by kernel_rfl) (Eq.trans (by kernel_rfl : _ = (callFunc 15 #[(.agg #[(.int .i64 v.channel), (.int .i64 v.frame), (.int .i64 v.version), (.int .i64 v.item), (.int .i64 v.index), (.bool v.key), (.string (bstr v.data)), (.int .i64 v.regions), (.int .i64 v.gain), (.string (bstr v.caption)), (.int .i64 v.os), (.int .i64 v.of), (.slice v.A v.al.length v.c)])]).run Tryd.prog w_7) (Tryd.call15 _ _)) (short_anyU hV (short_any v w_7 (huv.below (HP.below (by kernel_rfl))) hcv hAv)) ?_
  rintro e w_8 ⟨Bv, cv, rfl, halv, hcav, hcbv, hccv, hfrv, hb⟩
  refine ⟨_, rfl, ?_⟩
  intro a H
  have HP := (HP.next hb).keepF ⟨rowFp V.al.length Bv, fun w => IsAlts w Bv V.al.length V.al⟩ halv (fun _ _ h hk hs => ⟨h.1, h.2.keep hk hs⟩) (fun j hj => row_sep HP halv.2 hfrv hj)
  refine H.store HP 0 b_3 0 13 28 [(.int .i64 v.channel), (.int .i64 v.frame), (.int .i64 v.version), (.int .i64 v.item), (.int .i64 v.index), (.bool v.key), (.string (bstr v.data)), (.int .i64 v.regions), (.int .i64 v.gain), (.string (bstr v.caption)), (.int .i64 v.os), (.int .i64 v.of), (.slice v.A v.al.length v.c)] true (.agg #[(.int .i64 V.channel), (.int .i64 V.frame), (.int .i64 V.version), (.int .i64 V.item), (.int .i64 V.index), (.bool V.key), (.string (bstr V.data)), (.int .i64 V.regions), (.int .i64 V.gain), (.string (bstr V.caption)), (.int .i64 V.os), (.int .i64 V.of), (.slice Bv V.al.length cv)]) [bx b_3 28 [(.int .i64 V.channel), (.int .i64 V.frame), (.int .i64 V.version), (.int .i64 V.item), (.int .i64 V.index), (.bool V.key), (.string (bstr V.data)), (.int .i64 V.regions), (.int .i64 V.gain), (.string (bstr V.caption)), (.int .i64 V.os), (.int .i64 V.of), (.slice Bv V.al.length cv)] true, bx b_1 28 [(.int .i64 U.channel), (.int .i64 U.frame), (.int .i64 U.version), (.int .i64 U.item), (.int .i64 U.index), (.bool U.key), (.string (bstr U.data)), (.int .i64 U.regions), (.int .i64 U.gain), (.string (bstr U.caption)), (.int .i64 U.os), (.int .i64 U.of), (.slice Bu U.al.length cu)] true] (by kernel_rfl) (by kernel_rfl) (by kernel_rfl) rfl (by kernel_rfl) (by kernel_rfl) (by kernel_rfl) (by kernel_rfl) (by kernel_rfl) ?_
  intro w_9 a H HP
  refine wpList_nil ?_
  refine then_normal ?_
  refine wp_seq ?_
  refine w_region ?_
  refine H.val 22 (.int .i64 k) (by kernel_rfl) (by kernel_rfl) ?_
  intro a H
  refine H.call 23 (by kernel_rfl) (Eq.trans (by kernel_rfl : _ = (callFunc 27 #[(.int .i64 k), (.int .i64 40)]).run Tryd.prog w_9) (Tryd.call27 _ _)) (pick_any k 40 w_9 (by omega) (by omega)) ?_
  rintro e w_10 ⟨rfl, rfl⟩
  refine ⟨_, rfl, ?_⟩
  intro a H
  refine H.val 3 (.int .i64 (pickI k 40)) (by kernel_rfl) (by kernel_rfl) ?_
  intro a H
  refine wpList_nil ?_
  refine then_normal ?_
  refine wp_seq ?_
  refine wp_seq ?_
  refine w_region ?_
  refine H.val 24 (.bool true) (by kernel_rfl) (by kernel_rfl) ?_
  intro a H
  refine wpList_nil ?_
  refine then_normal ?_
  refine w_ift H rfl ?_
  refine wp_seq ?_
  refine w_region ?_
  refine H.val 25 (.pointer (some ⟨b_1, 0, none⟩)) (by kernel_rfl) (by kernel_rfl) ?_
  intro a H
  refine H.val 26 (.int .i64 U.channel) (by kernel_rfl) (ex_load1 (by kernel_rfl) (by kernel_rfl) (HP.cell 1 rfl 0 rfl)) ?_
  intro a H
  refine H.val 27 (.pointer (some ⟨b_3, 0, none⟩)) (by kernel_rfl) (by kernel_rfl) ?_
  intro a H
  refine H.store HP 0 b_3 0 1 28 [(.int .i64 V.channel), (.int .i64 V.frame), (.int .i64 V.version), (.int .i64 V.item), (.int .i64 V.index), (.bool V.key), (.string (bstr V.data)), (.int .i64 V.regions), (.int .i64 V.gain), (.string (bstr V.caption)), (.int .i64 V.os), (.int .i64 V.of), (.slice Bv V.al.length cv)] true (.int .i64 U.channel) [bx b_3 28 [(.int .i64 U.channel), (.int .i64 V.frame), (.int .i64 V.version), (.int .i64 V.item), (.int .i64 V.index), (.bool V.key), (.string (bstr V.data)), (.int .i64 V.regions), (.int .i64 V.gain), (.string (bstr V.caption)), (.int .i64 V.os), (.int .i64 V.of), (.slice Bv V.al.length cv)] true, bx b_1 28 [(.int .i64 U.channel), (.int .i64 U.frame), (.int .i64 U.version), (.int .i64 U.item), (.int .i64 U.index), (.bool U.key), (.string (bstr U.data)), (.int .i64 U.regions), (.int .i64 U.gain), (.string (bstr U.caption)), (.int .i64 U.os), (.int .i64 U.of), (.slice Bu U.al.length cu)] true] (by kernel_rfl) (by kernel_rfl) (by kernel_rfl) rfl (by kernel_rfl) (by kernel_rfl) (by kernel_rfl) (by kernel_rfl) (by kernel_rfl) ?_
  intro w_11 a H HP
  refine wpList_nil ?_
  refine then_normal ?_
  refine w_region ?_
  refine H.val 28 (.pointer (some ⟨b_1, 1, none⟩)) (by kernel_rfl) (by kernel_rfl) ?_
  intro a H
  refine H.val 29 (.int .i64 U.frame) (by kernel_rfl) (ex_load1 (by kernel_rfl) (by kernel_rfl) (HP.cell 1 rfl 1 rfl)) ?_
  intro a H
  refine H.val 30 (.int .i64 (pickI k 40)) (by kernel_rfl) (by kernel_rfl) ?_
  intro a H
  refine H.val 31 (.int .i64 (IntKind.i64.wrap (U.frame + (pickI k 40)))) (by kernel_rfl) (by kernel_rfl) ?_
  intro a H
  refine H.val 32 (.pointer (some ⟨b_3, 1, none⟩)) (by kernel_rfl) (by kernel_rfl) ?_
  intro a H
  refine H.store HP 0 b_3 1 1 28 [(.int .i64 U.channel), (.int .i64 V.frame), (.int .i64 V.version), (.int .i64 V.item), (.int .i64 V.index), (.bool V.key), (.string (bstr V.data)), (.int .i64 V.regions), (.int .i64 V.gain), (.string (bstr V.caption)), (.int .i64 V.os), (.int .i64 V.of), (.slice Bv V.al.length cv)] true (.int .i64 (IntKind.i64.wrap (U.frame + (pickI k 40)))) [bx b_3 28 [(.int .i64 U.channel), (.int .i64 (IntKind.i64.wrap (U.frame + (pickI k 40)))), (.int .i64 V.version), (.int .i64 V.item), (.int .i64 V.index), (.bool V.key), (.string (bstr V.data)), (.int .i64 V.regions), (.int .i64 V.gain), (.string (bstr V.caption)), (.int .i64 V.os), (.int .i64 V.of), (.slice Bv V.al.length cv)] true, bx b_1 28 [(.int .i64 U.channel), (.int .i64 U.frame), (.int .i64 U.version), (.int .i64 U.item), (.int .i64 U.index), (.bool U.key), (.string (bstr U.data)), (.int .i64 U.regions), (.int .i64 U.gain), (.string (bstr U.caption)), (.int .i64 U.os), (.int .i64 U.of), (.slice Bu U.al.length cu)] true] (by kernel_rfl) (by kernel_rfl) (by kernel_rfl) rfl (by kernel_rfl) (by kernel_rfl) (by kernel_rfl) (by kernel_rfl) (by kernel_rfl) ?_
  intro w_12 a H HP
  refine wpList_nil ?_
  have H := H.keep (L' := [(27, (.pointer (some ⟨b_3, 0, none⟩))), (26, (.int .i64 U.channel)), (25, (.pointer (some ⟨b_1, 0, none⟩))), (24, (.bool true)), (3, (.int .i64 (pickI k 40))), (23, (.int .i64 (pickI k 40))), (22, (.int .i64 k)), (21, (.agg #[(.int .i64 V.channel), (.int .i64 V.frame), (.int .i64 V.version), (.int .i64 V.item), (.int .i64 V.index), (.bool V.key), (.string (bstr V.data)), (.int .i64 V.regions), (.int .i64 V.gain), (.string (bstr V.caption)), (.int .i64 V.os), (.int .i64 V.of), (.slice Bv V.al.length cv)])), (20, (.agg #[(.int .i64 v.channel), (.int .i64 v.frame), (.int .i64 v.version), (.int .i64 v.item), (.int .i64 v.index), (.bool v.key), (.string (bstr v.data)), (.int .i64 v.regions), (.int .i64 v.gain), (.string (bstr v.caption)), (.int .i64 v.os), (.int .i64 v.of), (.slice v.A v.al.length v.c)])), (19, (.agg #[(.int .i64 U.channel), (.int .i64 U.frame), (.int .i64 U.version), (.int .i64 U.item), (.int .i64 U.index), (.bool U.key), (.string (bstr U.data)), (.int .i64 U.regions), (.int .i64 U.gain), (.string (bstr U.caption)), (.int .i64 U.os), (.int .i64 U.of), (.slice Bu U.al.length cu)])), (18, (.agg #[(.int .i64 u.channel), (.int .i64 u.frame), (.int .i64 u.version), (.int .i64 u.item), (.int .i64 u.index), (.bool u.key), (.string (bstr u.data)), (.int .i64 u.regions), (.int .i64 u.gain), (.string (bstr u.caption)), (.int .i64 u.os), (.int .i64 u.of), (.slice u.A u.al.length u.c)])), (11, (.bool true)), (17, (.bool true)), (10, (.bool false)), (7, (.pointer (some ⟨b_3, 0, none⟩))), (6, (.pointer (some ⟨b_1, 0, none⟩))), (0, (.int .i64 c)), (1, (.agg #[(.int .i64 u.channel), (.int .i64 u.frame), (.int .i64 u.version), (.int .i64 u.item), (.int .i64 u.index), (.bool u.key), (.string (bstr u.data)), (.int .i64 u.regions), (.int .i64 u.gain), (.string (bstr u.caption)), (.int .i64 u.os), (.int .i64 u.of), (.slice u.A u.al.length u.c)])), (2, (.agg #[(.int .i64 v.channel), (.int .i64 v.frame), (.int .i64 v.version), (.int .i64 v.item), (.int .i64 v.index), (.bool v.key), (.string (bstr v.data)), (.int .i64 v.regions), (.int .i64 v.gain), (.string (bstr v.caption)), (.int .i64 v.os), (.int .i64 v.of), (.slice v.A v.al.length v.c)])), (4, (.bool true))]) (by kernel_rfl)
  refine then_normal ?_
  refine w_cut (fun a wv => Sl 88 [(12, (.string (bstr lu))), (13, (.int .i64 0)), (24, (.bool true)), (3, (.int .i64 (pickI k 40))), (11, (.bool true)), (10, (.bool false)), (7, (.pointer (some ⟨b_3, 0, none⟩))), (6, (.pointer (some ⟨b_1, 0, none⟩))), (0, (.int .i64 c)), (4, (.bool true))] a ∧ Hp w wv [bx b_3 28 [(.int .i64 U.channel), (.int .i64 (IntKind.i64.wrap (U.frame + (pickI k 40)))), (.int .i64 V.version), (.int .i64 V.item), (.int .i64 V.index), (.bool V.key), (.string (bstr V.data)), (.int .i64 V.regions), (.int .i64 V.gain), (.string (bstr V.caption)), (.int .i64 V.os), (.int .i64 V.of), (.slice Bv V.al.length cv)] true, bx b_1 28 [(.int .i64 U.channel), (.int .i64 U.frame), (.int .i64 U.version), (.int .i64 U.item), (.int .i64 U.index), (.bool U.key), (.string (bstr U.data)), (.int .i64 U.regions), (.int .i64 U.gain), (.string (bstr U.caption)), (.int .i64 U.os), (.int .i64 U.of), (.slice Bu U.al.length cu)] true] [⟨rowFp V.al.length Bv, fun w => IsAlts w Bv V.al.length V.al⟩, ⟨rowFp U.al.length Bu, fun w => IsAlts w Bu U.al.length U.al⟩]) ?_ ?_
  ·
    refine An.start (fun v => Hp w v [bx b_3 28 [(.int .i64 U.channel), (.int .i64 (IntKind.i64.wrap (U.frame + (pickI k 40)))), (.int .i64 V.version), (.int .i64 V.item), (.int .i64 V.index), (.bool V.key), (.string (bstr V.data)), (.int .i64 V.regions), (.int .i64 V.gain), (.string (bstr V.caption)), (.int .i64 V.os), (.int .i64 V.of), (.slice Bv V.al.length cv)] true, bx b_1 28 [(.int .i64 U.channel), (.int .i64 U.frame), (.int .i64 U.version), (.int .i64 U.item), (.int .i64 U.index), (.bool U.key), (.string (bstr U.data)), (.int .i64 U.regions), (.int .i64 U.gain), (.string (bstr U.caption)), (.int .i64 U.os), (.int .i64 U.of), (.slice Bu U.al.length cu)] true] [⟨rowFp V.al.length Bv, fun w => IsAlts w Bv V.al.length V.al⟩, ⟨rowFp U.al.length Bu, fun w => IsAlts w Bu U.al.length U.al⟩]) 9 9 HP wide_follows rfl ?_
    intro w_13 HP
    refine An.pure H (.inr (HP)) 0 34 (.int .i64 c) rfl (by kernel_rfl) (by kernel_rfl) (fun _ _ _ h => h) (fun _ => by kernel_rfl) ?_
    intro a H
    refine An.val H (HP) 2 36 (.agg #[(.int .i64 U.channel), (.int .i64 U.frame), (.int .i64 U.version), (.int .i64 U.item), (.int .i64 U.index), (.bool U.key), (.string (bstr U.data)), (.int .i64 U.regions), (.int .i64 U.gain), (.string (bstr U.caption)), (.int .i64 U.os), (.int .i64 U.of), (.slice Bu U.al.length cu)]) rfl (by kernel_rfl) (by kernel_rfl) (fun _ _ _ h => h) (fun _ hS => ex_loadN (vs := [(.int .i64 U.channel), (.int .i64 U.frame), (.int .i64 U.version), (.int .i64 U.item), (.int .i64 U.index), (.bool U.key), (.string (bstr U.data)), (.int .i64 U.regions), (.int .i64 U.gain), (.string (bstr U.caption)), (.int .i64 U.os), (.int .i64 U.of), (.slice Bu U.al.length cu)]) (by kernel_rfl) (by kernel_rfl) (by kernel_rfl) rfl (hS.cells 1 rfl 0 13 (by kernel_rfl))) ?_
    intro a H
    refine An.one 1 (by kernel_rfl) ?_
    refine Op.call H 35 rfl (by kernel_rfl) (Eq.trans (by kernel_rfl : _ = (callFunc 14 #[(.int .i64 c)]).run Tryd.prog w_13) (Tryd.call14 _ _)) (rate_any c w_13 hc) ?_
    rintro e w_14 ⟨rfl, hb⟩
    refine ⟨_, rfl, ?_⟩
    intro a H
    have HP := HP.next hb
    refine ⟨.inr (HP), ?_⟩
    refine An.one 3 (by kernel_rfl) ?_
    refine Op.call H 37 rfl (by kernel_rfl) (Eq.trans (by kernel_rfl : _ = (callFunc 16 #[(.agg #[(.int .i64 ((rateP c).1)), (.int .i64 ((rateP c).2))]), (.agg #[(.int .i64 U.channel), (.int .i64 U.frame), (.int .i64 U.version), (.int .i64 U.item), (.int .i64 U.index), (.bool U.key), (.string (bstr U.data)), (.int .i64 U.regions), (.int .i64 U.gain), (.string (bstr U.caption)), (.int .i64 U.os), (.int .i64 U.of), (.slice Bu U.al.length cu)])]).run Tryd.prog w_14) (Tryd.call16 _ _)) ((by have hh := pack_any ((rateP c).1) ((rateP c).2) (⟨U.channel, U.frame, U.version, U.item, U.index, U.key, U.data, U.regions, U.gain, U.caption, U.os, U.of, Bu, cu, U.al⟩ : Un) w_14 (hL.below (HP.below (by kernel_rfl))) (HP.fact 1 rfl) (Nat.le_trans hcau hcbu); rw [hZu Bu cu] at hh; exact hh)) ?_
    rintro e w_15 ⟨rfl, hb⟩
    refine ⟨_, rfl, ?_⟩
    intro a H
    have HP := HP.next hb
    refine ⟨.inr (HP), ?_⟩
    refine An.pure H (.inr (HP)) 4 33 (.tuple #[(.string (bstr lu)), (.int .i64 0)]) rfl (by kernel_rfl) (by kernel_rfl) (fun _ _ _ h => h) (fun _ => by kernel_rfl) ?_
    intro a H
    refine An.pure H (.inr (HP)) 5 38 (.string (bstr lu)) rfl (by kernel_rfl) (by kernel_rfl) (fun _ _ _ h => h) (fun _ => by kernel_rfl) ?_
    intro a H
    refine An.pure H (.inr (HP)) 6 39 (.int .i64 0) rfl (by kernel_rfl) (by kernel_rfl) (fun _ _ _ h => h) (fun _ => by kernel_rfl) ?_
    intro a H
    refine An.pure H (.inr (HP)) 7 12 (.string (bstr lu)) rfl (by kernel_rfl) (by kernel_rfl) (fun _ _ _ h => h) (fun _ => by kernel_rfl) ?_
    intro a H
    refine An.pure H (.inr (HP)) 8 13 (.int .i64 0) rfl (by kernel_rfl) (by kernel_rfl) (fun _ _ _ h => h) (fun _ => by kernel_rfl) ?_
    intro a H
    refine An.done (by kernel_rfl) ?_
    have H := H.keep (L' := [(13, (.int .i64 0)), (12, (.string (bstr lu))), (27, (.pointer (some ⟨b_3, 0, none⟩))), (26, (.int .i64 U.channel)), (25, (.pointer (some ⟨b_1, 0, none⟩))), (24, (.bool true)), (3, (.int .i64 (pickI k 40))), (23, (.int .i64 (pickI k 40))), (22, (.int .i64 k)), (21, (.agg #[(.int .i64 V.channel), (.int .i64 V.frame), (.int .i64 V.version), (.int .i64 V.item), (.int .i64 V.index), (.bool V.key), (.string (bstr V.data)), (.int .i64 V.regions), (.int .i64 V.gain), (.string (bstr V.caption)), (.int .i64 V.os), (.int .i64 V.of), (.slice Bv V.al.length cv)])), (20, (.agg #[(.int .i64 v.channel), (.int .i64 v.frame), (.int .i64 v.version), (.int .i64 v.item), (.int .i64 v.index), (.bool v.key), (.string (bstr v.data)), (.int .i64 v.regions), (.int .i64 v.gain), (.string (bstr v.caption)), (.int .i64 v.os), (.int .i64 v.of), (.slice v.A v.al.length v.c)])), (19, (.agg #[(.int .i64 U.channel), (.int .i64 U.frame), (.int .i64 U.version), (.int .i64 U.item), (.int .i64 U.index), (.bool U.key), (.string (bstr U.data)), (.int .i64 U.regions), (.int .i64 U.gain), (.string (bstr U.caption)), (.int .i64 U.os), (.int .i64 U.of), (.slice Bu U.al.length cu)])), (18, (.agg #[(.int .i64 u.channel), (.int .i64 u.frame), (.int .i64 u.version), (.int .i64 u.item), (.int .i64 u.index), (.bool u.key), (.string (bstr u.data)), (.int .i64 u.regions), (.int .i64 u.gain), (.string (bstr u.caption)), (.int .i64 u.os), (.int .i64 u.of), (.slice u.A u.al.length u.c)])), (11, (.bool true)), (17, (.bool true)), (10, (.bool false)), (7, (.pointer (some ⟨b_3, 0, none⟩))), (6, (.pointer (some ⟨b_1, 0, none⟩))), (0, (.int .i64 c)), (1, (.agg #[(.int .i64 u.channel), (.int .i64 u.frame), (.int .i64 u.version), (.int .i64 u.item), (.int .i64 u.index), (.bool u.key), (.string (bstr u.data)), (.int .i64 u.regions), (.int .i64 u.gain), (.string (bstr u.caption)), (.int .i64 u.os), (.int .i64 u.of), (.slice u.A u.al.length u.c)])), (2, (.agg #[(.int .i64 v.channel), (.int .i64 v.frame), (.int .i64 v.version), (.int .i64 v.item), (.int .i64 v.index), (.bool v.key), (.string (bstr v.data)), (.int .i64 v.regions), (.int .i64 v.gain), (.string (bstr v.caption)), (.int .i64 v.os), (.int .i64 v.of), (.slice v.A v.al.length v.c)])), (4, (.bool true))]) (by kernel_rfl)
    refine then_normal ?_
    exact ⟨H.keep (by kernel_rfl), HP⟩
  ·
    rintro a w_16 ⟨H, HP⟩
    refine w_cut (fun a wv => Sl 88 [(14, (.string (bstr ([])))), (15, (.int .i64 180)), (12, (.string (bstr lu))), (13, (.int .i64 0)), (24, (.bool true)), (3, (.int .i64 (pickI k 40))), (11, (.bool true)), (10, (.bool false)), (7, (.pointer (some ⟨b_3, 0, none⟩))), (6, (.pointer (some ⟨b_1, 0, none⟩))), (4, (.bool true))] a ∧ Hp w wv [bx b_3 28 [(.int .i64 U.channel), (.int .i64 (IntKind.i64.wrap (U.frame + (pickI k 40)))), (.int .i64 V.version), (.int .i64 V.item), (.int .i64 V.index), (.bool V.key), (.string (bstr V.data)), (.int .i64 V.regions), (.int .i64 V.gain), (.string (bstr V.caption)), (.int .i64 V.os), (.int .i64 V.of), (.slice Bv V.al.length cv)] true, bx b_1 28 [(.int .i64 U.channel), (.int .i64 U.frame), (.int .i64 U.version), (.int .i64 U.item), (.int .i64 U.index), (.bool U.key), (.string (bstr U.data)), (.int .i64 U.regions), (.int .i64 U.gain), (.string (bstr U.caption)), (.int .i64 U.os), (.int .i64 U.of), (.slice Bu U.al.length cu)] true] [⟨rowFp V.al.length Bv, fun w => IsAlts w Bv V.al.length V.al⟩, ⟨rowFp U.al.length Bu, fun w => IsAlts w Bu U.al.length U.al⟩]) ?_ ?_
    ·
      refine An.start (fun v => Hp w v [bx b_3 28 [(.int .i64 U.channel), (.int .i64 (IntKind.i64.wrap (U.frame + (pickI k 40)))), (.int .i64 V.version), (.int .i64 V.item), (.int .i64 V.index), (.bool V.key), (.string (bstr V.data)), (.int .i64 V.regions), (.int .i64 V.gain), (.string (bstr V.caption)), (.int .i64 V.os), (.int .i64 V.of), (.slice Bv V.al.length cv)] true, bx b_1 28 [(.int .i64 U.channel), (.int .i64 U.frame), (.int .i64 U.version), (.int .i64 U.item), (.int .i64 U.index), (.bool U.key), (.string (bstr U.data)), (.int .i64 U.regions), (.int .i64 U.gain), (.string (bstr U.caption)), (.int .i64 U.os), (.int .i64 U.of), (.slice Bu U.al.length cu)] true] [⟨rowFp V.al.length Bv, fun w => IsAlts w Bv V.al.length V.al⟩, ⟨rowFp U.al.length Bu, fun w => IsAlts w Bu U.al.length U.al⟩]) 9 9 HP wide_follows rfl ?_
      intro w_17 HP
      refine An.pure H (.inr (HP)) 0 41 (.int .i64 c) rfl (by kernel_rfl) (by kernel_rfl) (fun _ _ _ h => h) (fun _ => by kernel_rfl) ?_
      intro a H
      refine An.val H (HP) 2 43 (.agg #[(.int .i64 U.channel), (.int .i64 (IntKind.i64.wrap (U.frame + (pickI k 40)))), (.int .i64 V.version), (.int .i64 V.item), (.int .i64 V.index), (.bool V.key), (.string (bstr V.data)), (.int .i64 V.regions), (.int .i64 V.gain), (.string (bstr V.caption)), (.int .i64 V.os), (.int .i64 V.of), (.slice Bv V.al.length cv)]) rfl (by kernel_rfl) (by kernel_rfl) (fun _ _ _ h => h) (fun _ hS => ex_loadN (vs := [(.int .i64 U.channel), (.int .i64 (IntKind.i64.wrap (U.frame + (pickI k 40)))), (.int .i64 V.version), (.int .i64 V.item), (.int .i64 V.index), (.bool V.key), (.string (bstr V.data)), (.int .i64 V.regions), (.int .i64 V.gain), (.string (bstr V.caption)), (.int .i64 V.os), (.int .i64 V.of), (.slice Bv V.al.length cv)]) (by kernel_rfl) (by kernel_rfl) (by kernel_rfl) rfl (hS.cells 0 rfl 0 13 (by kernel_rfl))) ?_
      intro a H
      refine An.one 1 (by kernel_rfl) ?_
      refine Op.call H 42 rfl (by kernel_rfl) (Eq.trans (by kernel_rfl : _ = (callFunc 14 #[(.int .i64 c)]).run Tryd.prog w_17) (Tryd.call14 _ _)) (rate_any c w_17 hc) ?_
      rintro e w_18 ⟨rfl, hb⟩
      refine ⟨_, rfl, ?_⟩
      intro a H
      have HP := HP.next hb
      refine ⟨.inr (HP), ?_⟩
      refine An.one 3 (by kernel_rfl) ?_
      refine Op.call H 44 rfl (by kernel_rfl) (Eq.trans (by kernel_rfl : _ = (callFunc 16 #[(.agg #[(.int .i64 ((rateP c).1)), (.int .i64 ((rateP c).2))]), (.agg #[(.int .i64 U.channel), (.int .i64 (IntKind.i64.wrap (U.frame + (pickI k 40)))), (.int .i64 V.version), (.int .i64 V.item), (.int .i64 V.index), (.bool V.key), (.string (bstr V.data)), (.int .i64 V.regions), (.int .i64 V.gain), (.string (bstr V.caption)), (.int .i64 V.os), (.int .i64 V.of), (.slice Bv V.al.length cv)])]).run Tryd.prog w_18) (Tryd.call16 _ _)) ((by have hh := pack_any ((rateP c).1) ((rateP c).2) (⟨U.channel, IntKind.i64.wrap (U.frame + (pickI k 40)), V.version, V.item, V.index, V.key, V.data, V.regions, V.gain, V.caption, V.os, V.of, Bv, cv, V.al⟩ : Un) w_18 (hL.below (HP.below (by kernel_rfl))) (HP.fact 0 rfl) (Nat.le_trans hcav hcbv); rw [hZv Bv cv] at hh; exact hh)) ?_
      rintro e w_19 ⟨rfl, hb⟩
      refine ⟨_, rfl, ?_⟩
      intro a H
      have HP := HP.next hb
      refine ⟨.inr (HP), ?_⟩
      refine An.pure H (.inr (HP)) 4 40 (.tuple #[(.string (bstr ([]))), (.int .i64 180)]) rfl (by kernel_rfl) (by kernel_rfl) (fun _ _ _ h => h) (fun _ => by kernel_rfl) ?_
      intro a H
      refine An.pure H (.inr (HP)) 5 45 (.string (bstr ([]))) rfl (by kernel_rfl) (by kernel_rfl) (fun _ _ _ h => h) (fun _ => by kernel_rfl) ?_
      intro a H
      refine An.pure H (.inr (HP)) 6 46 (.int .i64 180) rfl (by kernel_rfl) (by kernel_rfl) (fun _ _ _ h => h) (fun _ => by kernel_rfl) ?_
      intro a H
      refine An.pure H (.inr (HP)) 7 14 (.string (bstr ([]))) rfl (by kernel_rfl) (by kernel_rfl) (fun _ _ _ h => h) (fun _ => by kernel_rfl) ?_
      intro a H
      refine An.pure H (.inr (HP)) 8 15 (.int .i64 180) rfl (by kernel_rfl) (by kernel_rfl) (fun _ _ _ h => h) (fun _ => by kernel_rfl) ?_
      intro a H
      refine An.done (by kernel_rfl) ?_
      have H := H.keep (L' := [(15, (.int .i64 180)), (14, (.string (bstr ([])))), (12, (.string (bstr lu))), (13, (.int .i64 0)), (24, (.bool true)), (3, (.int .i64 (pickI k 40))), (11, (.bool true)), (10, (.bool false)), (7, (.pointer (some ⟨b_3, 0, none⟩))), (6, (.pointer (some ⟨b_1, 0, none⟩))), (0, (.int .i64 c)), (4, (.bool true))]) (by kernel_rfl)
      refine then_normal ?_
      exact ⟨H.keep (by kernel_rfl), HP⟩
    ·
      rintro a w_20 ⟨H, HP⟩
      refine wp_seq ?_
      refine wp_seq ?_
      refine w_region ?_
      refine H.val 47 (.int .i64 0) (by kernel_rfl) (by kernel_rfl) ?_
      intro a H
      refine H.val 48 (.bool false) (by kernel_rfl) (by kernel_rfl) ?_
      intro a H
      refine H.val 49 (.bool false) (by kernel_rfl) (by kernel_rfl) ?_
      intro a H
      refine H.val 50 (.int .i64 180) (by kernel_rfl) (by kernel_rfl) ?_
      intro a H
      refine H.val 51 (.bool true) (by kernel_rfl) (by kernel_rfl) ?_
      intro a H
      refine H.val 52 (.bool true) (by kernel_rfl) (by kernel_rfl) ?_
      intro a H
      refine wpList_nil ?_
      refine then_normal ?_
      refine w_ift H rfl ?_
      refine wp_seq ?_
      refine w_region ?_
      refine H.val 53 (.bool true) (by kernel_rfl) (by kernel_rfl) ?_
      intro a H
      refine H.val 10 (.bool true) (by kernel_rfl) (by kernel_rfl) ?_
      intro a H
      refine wpList_nil ?_
      refine then_normal ?_
      refine wp_ret ?_
      refine then_ret ?_
      refine H.ret1 (fn := Tryd.f11) Tryd.results11 (RV.tmp_ (v := (.bool true)) (by kernel_rfl)) ?_
      exact ⟨rfl, (HP.below (by kernel_rfl))⟩
set_option maxRecDepth 100000 in
set_option maxHeartbeats 4000000 in
theorem fol_tss (c k : Int) (u v U V : Un) (w : World) (hU : shortU u = U) (hV : shortU v = V) (hL : Laid w) (hc : -9223372036854775808 ≤ c ∧ c ≤ 9223372036854775807) (hk : -9223372036854775808 ≤ k ∧ k ≤ 9223372036854775807) (huu : IsAlts w u.A u.al.length u.al) (hcu : u.al.length ≤ u.c) (hAu : u.A = none → u.c = 0) (huv : IsAlts w v.A v.al.length v.al) (hcv : v.al.length ≤ v.c) (hAv : v.A = none → v.c = 0) (lu : List UInt8) (lv : List UInt8) (hZu : ∀ B c', packP (rateP c).1 (rateP c).2 ({ U with A := B, c := c' } : Un) = some lu) (hZv : ∀ B c', packP (rateP c).1 (rateP c).2 (⟨U.channel, IntKind.i64.wrap (U.frame + pickI k 40), V.version, V.item, V.index, V.key, V.data, V.regions, V.gain, V.caption, V.os, V.of, B, c', V.al⟩ : Un) = some lv) (hch : (U.channel == U.channel) = true) (hfr : ((U.frame + 1) % 16 == (IntKind.i64.wrap (U.frame + pickI k 40)) % 16) = true) (hfw : followsP lu lv = true) :
    Calls Tryd.prog 11 #[.int .i64 c, u.val, v.val, .int .i64 k, .bool true] w fun e w' => e = .returned (.bool true) ∧ Below w.heap.size w w' := by
  have HP := Hp.start w
  have hp40 := pickI_lt k 40 (by omega)
  obtain ⟨hlu, _, hlu2⟩ := pack_len (hZu none 0)
  obtain ⟨hlv, _, hlv2⟩ := pack_len (hZv none 0)
  obtain ⟨hfu, hfv⟩ := both_frames (hZu none 0) (hZv none 0)
  simp only at hfu hfv
  refine w_enter 88 [(0, (.int .i64 c)), (1, (.agg #[(.int .i64 u.channel), (.int .i64 u.frame), (.int .i64 u.version), (.int .i64 u.item), (.int .i64 u.index), (.bool u.key), (.string (bstr u.data)), (.int .i64 u.regions), (.int .i64 u.gain), (.string (bstr u.caption)), (.int .i64 u.os), (.int .i64 u.of), (.slice u.A u.al.length u.c)])), (2, (.agg #[(.int .i64 v.channel), (.int .i64 v.frame), (.int .i64 v.version), (.int .i64 v.item), (.int .i64 v.index), (.bool v.key), (.string (bstr v.data)), (.int .i64 v.regions), (.int .i64 v.gain), (.string (bstr v.caption)), (.int .i64 v.os), (.int .i64 v.of), (.slice v.A v.al.length v.c)])), (3, (.int .i64 k)), (4, (.bool true))] Tryd.func11 rfl Tryd.ntmps11 (by kernel_rfl) (by kernel_rfl) ?_
  intro a H
  refine wp_seq ?_
  refine w_region ?_
  refine H.alloc HP 6 (fun b => (.pointer (some ⟨b, 0, none⟩))) 28 [(.int .i64 u.channel), (.int .i64 u.frame), (.int .i64 u.version), (.int .i64 u.item), (.int .i64 u.index), (.bool u.key), (.string (bstr u.data)), (.int .i64 u.regions), (.int .i64 u.gain), (.string (bstr u.caption)), (.int .i64 u.os), (.int .i64 u.of), (.slice u.A u.al.length u.c)] (by kernel_rfl) (fun w => by kernel_rfl) ?_
  intro b_1 w_2 a H HP
  refine H.alloc HP 7 (fun b => (.pointer (some ⟨b, 0, none⟩))) 28 [(.int .i64 v.channel), (.int .i64 v.frame), (.int .i64 v.version), (.int .i64 v.item), (.int .i64 v.index), (.bool v.key), (.string (bstr v.data)), (.int .i64 v.regions), (.int .i64 v.gain), (.string (bstr v.caption)), (.int .i64 v.os), (.int .i64 v.of), (.slice v.A v.al.length v.c)] (by kernel_rfl) (fun w => by kernel_rfl) ?_
  intro b_3 w_4 a H HP
  refine H.val 10 (.bool false) (by kernel_rfl) (by kernel_rfl) ?_
  intro a H
  refine wpList_nil ?_
  refine then_normal ?_
  refine wp_seq ?_
  refine w_region ?_
  refine H.call 17 (by kernel_rfl) (Eq.trans (by kernel_rfl : _ = (callFunc 13 #[]).run Tryd.prog w_4) (Tryd.call13 _ _)) (sane_any w_4 (hL.below (HP.below (by kernel_rfl)))) ?_
  rintro e w_5 ⟨rfl, hb⟩
  refine ⟨_, rfl, ?_⟩
  intro a H
  have HP := HP.next hb
  refine H.val 11 (.bool true) (by kernel_rfl) (by kernel_rfl) ?_
  intro a H
  refine wpList_nil ?_
  refine then_normal ?_
  refine wp_seq ?_
  refine w_region ?_
  refine H.val 18 (.agg #[(.int .i64 u.channel), (.int .i64 u.frame), (.int .i64 u.version), (.int .i64 u.item), (.int .i64 u.index), (.bool u.key), (.string (bstr u.data)), (.int .i64 u.regions), (.int .i64 u.gain), (.string (bstr u.caption)), (.int .i64 u.os), (.int .i64 u.of), (.slice u.A u.al.length u.c)]) (by kernel_rfl) (ex_loadN (vs := [(.int .i64 u.channel), (.int .i64 u.frame), (.int .i64 u.version), (.int .i64 u.item), (.int .i64 u.index), (.bool u.key), (.string (bstr u.data)), (.int .i64 u.regions), (.int .i64 u.gain), (.string (bstr u.caption)), (.int .i64 u.os), (.int .i64 u.of), (.slice u.A u.al.length u.c)]) (by kernel_rfl) (by kernel_rfl) (by kernel_rfl) rfl (HP.cells 1 rfl 0 13 (by kernel_rfl))) ?_
  intro a H
  refine H.call 19 (by kernel_rfl) (Eq.trans (by kernel_rfl : _ = (callFunc 15 #[(.agg #[(.int .i64 u.channel), (.int .i64 u.frame), (.int .i64 u.version), (.int .i64 u.item), (.int .i64 u.index), (.bool u.key), (.string (bstr u.data)), (.int .i64 u.regions), (.int .i64 u.gain), (.string (bstr u.caption)), (.int .i64 u.os), (.int .i64 u.of), (.slice u.A u.al.length u.c)])]).run Tryd.prog w_5) (Tryd.call15 _ _)) (short_anyU hU (short_any u w_5 (huu.below (HP.below (by kernel_rfl))) hcu hAu)) ?_
  rintro e w_6 ⟨Bu, cu, rfl, halu, hcau, hcbu, hccu, hfru, hb⟩
  refine ⟨_, rfl, ?_⟩
  intro a H
  have HP := (HP.next hb).keepF ⟨rowFp U.al.length Bu, fun w => IsAlts w Bu U.al.length U.al⟩ halu (fun _ _ h hk hs => ⟨h.1, h.2.keep hk hs⟩) (fun j hj => row_sep HP halu.2 hfru hj)
  refine H.store HP 1 b_1 0 13 28 [(.int .i64 u.channel), (.int .i64 u.frame), (.int .i64 u.version), (.int .i64 u.item), (.int .i64 u.index), (.bool u.key), (.string (bstr u.data)), (.int .i64 u.regions), (.int .i64 u.gain), (.string (bstr u.caption)), (.int .i64 u.os), (.int .i64 u.of), (.slice u.A u.al.length u.c)] true (.agg #[(.int .i64 U.channel), (.int .i64 U.frame), (.int .i64 U.version), (.int .i64 U.item), (.int .i64 U.index), (.bool U.key), (.string (bstr U.data)), (.int .i64 U.regions), (.int .i64 U.gain), (.string (bstr U.caption)), (.int .i64 U.os), (.int .i64 U.of), (.slice Bu U.al.length cu)]) [bx b_3 28 [(.int .i64 v.channel), (.int .i64 v.frame), (.int .i64 v.version), (.int .i64 v.item), (.int .i64 v.index), (.bool v.key), (.string (bstr v.data)), (.int .i64 v.regions), (.int .i64 v.gain), (.string (bstr v.caption)), (.int .i64 v.os), (.int .i64 v.of), (.slice v.A v.al.length v.c)] true, bx b_1 28 [(.int .i64 U.channel), (.int .i64 U.frame), (.int .i64 U.version), (.int .i64 U.item), (.int .i64 U.index), (.bool U.key), (.string (bstr U.data)), (.int .i64 U.regions), (.int .i64 U.gain), (.string (bstr U.caption)), (.int .i64 U.os), (.int .i64 U.of), (.slice Bu U.al.length cu)] true] (by kernel_rfl) (by kernel_rfl) (by kernel_rfl) rfl (by kernel_rfl) (by kernel_rfl) (by kernel_rfl) (by kernel_rfl) (by kernel_rfl) ?_
  intro w_7 a H HP
  refine wpList_nil ?_
  refine then_normal ?_
  refine wp_seq ?_
  refine w_region ?_
  refine H.val 20 (.agg #[(.int .i64 v.channel), (.int .i64 v.frame), (.int .i64 v.version), (.int .i64 v.item), (.int .i64 v.index), (.bool v.key), (.string (bstr v.data)), (.int .i64 v.regions), (.int .i64 v.gain), (.string (bstr v.caption)), (.int .i64 v.os), (.int .i64 v.of), (.slice v.A v.al.length v.c)]) (by kernel_rfl) (ex_loadN (vs := [(.int .i64 v.channel), (.int .i64 v.frame), (.int .i64 v.version), (.int .i64 v.item), (.int .i64 v.index), (.bool v.key), (.string (bstr v.data)), (.int .i64 v.regions), (.int .i64 v.gain), (.string (bstr v.caption)), (.int .i64 v.os), (.int .i64 v.of), (.slice v.A v.al.length v.c)]) (by kernel_rfl) (by kernel_rfl) (by kernel_rfl) rfl (HP.cells 0 rfl 0 13 (by kernel_rfl))) ?_
  intro a H
  refine H.call 21 (by kernel_rfl) (Eq.trans (by kernel_rfl : _ = (callFunc 15 #[(.agg #[(.int .i64 v.channel), (.int .i64 v.frame), (.int .i64 v.version), (.int .i64 v.item), (.int .i64 v.index), (.bool v.key), (.string (bstr v.data)), (.int .i64 v.regions), (.int .i64 v.gain), (.string (bstr v.caption)), (.int .i64 v.os), (.int .i64 v.of), (.slice v.A v.al.length v.c)])]).run Tryd.prog w_7) (Tryd.call15 _ _)) (short_anyU hV (short_any v w_7 (huv.below (HP.below (by kernel_rfl))) hcv hAv)) ?_
  rintro e w_8 ⟨Bv, cv, rfl, halv, hcav, hcbv, hccv, hfrv, hb⟩
  refine ⟨_, rfl, ?_⟩
  intro a H
  have HP := (HP.next hb).keepF ⟨rowFp V.al.length Bv, fun w => IsAlts w Bv V.al.length V.al⟩ halv (fun _ _ h hk hs => ⟨h.1, h.2.keep hk hs⟩) (fun j hj => row_sep HP halv.2 hfrv hj)
  refine H.store HP 0 b_3 0 13 28 [(.int .i64 v.channel), (.int .i64 v.frame), (.int .i64 v.version), (.int .i64 v.item), (.int .i64 v.index), (.bool v.key), (.string (bstr v.data)), (.int .i64 v.regions), (.int .i64 v.gain), (.string (bstr v.caption)), (.int .i64 v.os), (.int .i64 v.of), (.slice v.A v.al.length v.c)] true (.agg #[(.int .i64 V.channel), (.int .i64 V.frame), (.int .i64 V.version), (.int .i64 V.item), (.int .i64 V.index), (.bool V.key), (.string (bstr V.data)), (.int .i64 V.regions), (.int .i64 V.gain), (.string (bstr V.caption)), (.int .i64 V.os), (.int .i64 V.of), (.slice Bv V.al.length cv)]) [bx b_3 28 [(.int .i64 V.channel), (.int .i64 V.frame), (.int .i64 V.version), (.int .i64 V.item), (.int .i64 V.index), (.bool V.key), (.string (bstr V.data)), (.int .i64 V.regions), (.int .i64 V.gain), (.string (bstr V.caption)), (.int .i64 V.os), (.int .i64 V.of), (.slice Bv V.al.length cv)] true, bx b_1 28 [(.int .i64 U.channel), (.int .i64 U.frame), (.int .i64 U.version), (.int .i64 U.item), (.int .i64 U.index), (.bool U.key), (.string (bstr U.data)), (.int .i64 U.regions), (.int .i64 U.gain), (.string (bstr U.caption)), (.int .i64 U.os), (.int .i64 U.of), (.slice Bu U.al.length cu)] true] (by kernel_rfl) (by kernel_rfl) (by kernel_rfl) rfl (by kernel_rfl) (by kernel_rfl) (by kernel_rfl) (by kernel_rfl) (by kernel_rfl) ?_
  intro w_9 a H HP
  refine wpList_nil ?_
  refine then_normal ?_
  refine wp_seq ?_
  refine w_region ?_
  refine H.val 22 (.int .i64 k) (by kernel_rfl) (by kernel_rfl) ?_
  intro a H
  refine H.call 23 (by kernel_rfl) (Eq.trans (by kernel_rfl : _ = (callFunc 27 #[(.int .i64 k), (.int .i64 40)]).run Tryd.prog w_9) (Tryd.call27 _ _)) (pick_any k 40 w_9 (by omega) (by omega)) ?_
  rintro e w_10 ⟨rfl, rfl⟩
  refine ⟨_, rfl, ?_⟩
  intro a H
  refine H.val 3 (.int .i64 (pickI k 40)) (by kernel_rfl) (by kernel_rfl) ?_
  intro a H
  refine wpList_nil ?_
  refine then_normal ?_
  refine wp_seq ?_
  refine wp_seq ?_
  refine w_region ?_
  refine H.val 24 (.bool true) (by kernel_rfl) (by kernel_rfl) ?_
  intro a H
  refine wpList_nil ?_
  refine then_normal ?_
  refine w_ift H rfl ?_
  refine wp_seq ?_
  refine w_region ?_
  refine H.val 25 (.pointer (some ⟨b_1, 0, none⟩)) (by kernel_rfl) (by kernel_rfl) ?_
  intro a H
  refine H.val 26 (.int .i64 U.channel) (by kernel_rfl) (ex_load1 (by kernel_rfl) (by kernel_rfl) (HP.cell 1 rfl 0 rfl)) ?_
  intro a H
  refine H.val 27 (.pointer (some ⟨b_3, 0, none⟩)) (by kernel_rfl) (by kernel_rfl) ?_
  intro a H
  refine H.store HP 0 b_3 0 1 28 [(.int .i64 V.channel), (.int .i64 V.frame), (.int .i64 V.version), (.int .i64 V.item), (.int .i64 V.index), (.bool V.key), (.string (bstr V.data)), (.int .i64 V.regions), (.int .i64 V.gain), (.string (bstr V.caption)), (.int .i64 V.os), (.int .i64 V.of), (.slice Bv V.al.length cv)] true (.int .i64 U.channel) [bx b_3 28 [(.int .i64 U.channel), (.int .i64 V.frame), (.int .i64 V.version), (.int .i64 V.item), (.int .i64 V.index), (.bool V.key), (.string (bstr V.data)), (.int .i64 V.regions), (.int .i64 V.gain), (.string (bstr V.caption)), (.int .i64 V.os), (.int .i64 V.of), (.slice Bv V.al.length cv)] true, bx b_1 28 [(.int .i64 U.channel), (.int .i64 U.frame), (.int .i64 U.version), (.int .i64 U.item), (.int .i64 U.index), (.bool U.key), (.string (bstr U.data)), (.int .i64 U.regions), (.int .i64 U.gain), (.string (bstr U.caption)), (.int .i64 U.os), (.int .i64 U.of), (.slice Bu U.al.length cu)] true] (by kernel_rfl) (by kernel_rfl) (by kernel_rfl) rfl (by kernel_rfl) (by kernel_rfl) (by kernel_rfl) (by kernel_rfl) (by kernel_rfl) ?_
  intro w_11 a H HP
  refine wpList_nil ?_
  refine then_normal ?_
  refine w_region ?_
  refine H.val 28 (.pointer (some ⟨b_1, 1, none⟩)) (by kernel_rfl) (by kernel_rfl) ?_
  intro a H
  refine H.val 29 (.int .i64 U.frame) (by kernel_rfl) (ex_load1 (by kernel_rfl) (by kernel_rfl) (HP.cell 1 rfl 1 rfl)) ?_
  intro a H
  refine H.val 30 (.int .i64 (pickI k 40)) (by kernel_rfl) (by kernel_rfl) ?_
  intro a H
  refine H.val 31 (.int .i64 (IntKind.i64.wrap (U.frame + (pickI k 40)))) (by kernel_rfl) (by kernel_rfl) ?_
  intro a H
  refine H.val 32 (.pointer (some ⟨b_3, 1, none⟩)) (by kernel_rfl) (by kernel_rfl) ?_
  intro a H
  refine H.store HP 0 b_3 1 1 28 [(.int .i64 U.channel), (.int .i64 V.frame), (.int .i64 V.version), (.int .i64 V.item), (.int .i64 V.index), (.bool V.key), (.string (bstr V.data)), (.int .i64 V.regions), (.int .i64 V.gain), (.string (bstr V.caption)), (.int .i64 V.os), (.int .i64 V.of), (.slice Bv V.al.length cv)] true (.int .i64 (IntKind.i64.wrap (U.frame + (pickI k 40)))) [bx b_3 28 [(.int .i64 U.channel), (.int .i64 (IntKind.i64.wrap (U.frame + (pickI k 40)))), (.int .i64 V.version), (.int .i64 V.item), (.int .i64 V.index), (.bool V.key), (.string (bstr V.data)), (.int .i64 V.regions), (.int .i64 V.gain), (.string (bstr V.caption)), (.int .i64 V.os), (.int .i64 V.of), (.slice Bv V.al.length cv)] true, bx b_1 28 [(.int .i64 U.channel), (.int .i64 U.frame), (.int .i64 U.version), (.int .i64 U.item), (.int .i64 U.index), (.bool U.key), (.string (bstr U.data)), (.int .i64 U.regions), (.int .i64 U.gain), (.string (bstr U.caption)), (.int .i64 U.os), (.int .i64 U.of), (.slice Bu U.al.length cu)] true] (by kernel_rfl) (by kernel_rfl) (by kernel_rfl) rfl (by kernel_rfl) (by kernel_rfl) (by kernel_rfl) (by kernel_rfl) (by kernel_rfl) ?_
  intro w_12 a H HP
  refine wpList_nil ?_
  have H := H.keep (L' := [(27, (.pointer (some ⟨b_3, 0, none⟩))), (26, (.int .i64 U.channel)), (25, (.pointer (some ⟨b_1, 0, none⟩))), (24, (.bool true)), (3, (.int .i64 (pickI k 40))), (23, (.int .i64 (pickI k 40))), (22, (.int .i64 k)), (21, (.agg #[(.int .i64 V.channel), (.int .i64 V.frame), (.int .i64 V.version), (.int .i64 V.item), (.int .i64 V.index), (.bool V.key), (.string (bstr V.data)), (.int .i64 V.regions), (.int .i64 V.gain), (.string (bstr V.caption)), (.int .i64 V.os), (.int .i64 V.of), (.slice Bv V.al.length cv)])), (20, (.agg #[(.int .i64 v.channel), (.int .i64 v.frame), (.int .i64 v.version), (.int .i64 v.item), (.int .i64 v.index), (.bool v.key), (.string (bstr v.data)), (.int .i64 v.regions), (.int .i64 v.gain), (.string (bstr v.caption)), (.int .i64 v.os), (.int .i64 v.of), (.slice v.A v.al.length v.c)])), (19, (.agg #[(.int .i64 U.channel), (.int .i64 U.frame), (.int .i64 U.version), (.int .i64 U.item), (.int .i64 U.index), (.bool U.key), (.string (bstr U.data)), (.int .i64 U.regions), (.int .i64 U.gain), (.string (bstr U.caption)), (.int .i64 U.os), (.int .i64 U.of), (.slice Bu U.al.length cu)])), (18, (.agg #[(.int .i64 u.channel), (.int .i64 u.frame), (.int .i64 u.version), (.int .i64 u.item), (.int .i64 u.index), (.bool u.key), (.string (bstr u.data)), (.int .i64 u.regions), (.int .i64 u.gain), (.string (bstr u.caption)), (.int .i64 u.os), (.int .i64 u.of), (.slice u.A u.al.length u.c)])), (11, (.bool true)), (17, (.bool true)), (10, (.bool false)), (7, (.pointer (some ⟨b_3, 0, none⟩))), (6, (.pointer (some ⟨b_1, 0, none⟩))), (0, (.int .i64 c)), (1, (.agg #[(.int .i64 u.channel), (.int .i64 u.frame), (.int .i64 u.version), (.int .i64 u.item), (.int .i64 u.index), (.bool u.key), (.string (bstr u.data)), (.int .i64 u.regions), (.int .i64 u.gain), (.string (bstr u.caption)), (.int .i64 u.os), (.int .i64 u.of), (.slice u.A u.al.length u.c)])), (2, (.agg #[(.int .i64 v.channel), (.int .i64 v.frame), (.int .i64 v.version), (.int .i64 v.item), (.int .i64 v.index), (.bool v.key), (.string (bstr v.data)), (.int .i64 v.regions), (.int .i64 v.gain), (.string (bstr v.caption)), (.int .i64 v.os), (.int .i64 v.of), (.slice v.A v.al.length v.c)])), (4, (.bool true))]) (by kernel_rfl)
  refine then_normal ?_
  refine w_cut (fun a wv => Sl 88 [(12, (.string (bstr lu))), (13, (.int .i64 0)), (24, (.bool true)), (3, (.int .i64 (pickI k 40))), (11, (.bool true)), (10, (.bool false)), (7, (.pointer (some ⟨b_3, 0, none⟩))), (6, (.pointer (some ⟨b_1, 0, none⟩))), (0, (.int .i64 c)), (4, (.bool true))] a ∧ Hp w wv [bx b_3 28 [(.int .i64 U.channel), (.int .i64 (IntKind.i64.wrap (U.frame + (pickI k 40)))), (.int .i64 V.version), (.int .i64 V.item), (.int .i64 V.index), (.bool V.key), (.string (bstr V.data)), (.int .i64 V.regions), (.int .i64 V.gain), (.string (bstr V.caption)), (.int .i64 V.os), (.int .i64 V.of), (.slice Bv V.al.length cv)] true, bx b_1 28 [(.int .i64 U.channel), (.int .i64 U.frame), (.int .i64 U.version), (.int .i64 U.item), (.int .i64 U.index), (.bool U.key), (.string (bstr U.data)), (.int .i64 U.regions), (.int .i64 U.gain), (.string (bstr U.caption)), (.int .i64 U.os), (.int .i64 U.of), (.slice Bu U.al.length cu)] true] [⟨rowFp V.al.length Bv, fun w => IsAlts w Bv V.al.length V.al⟩, ⟨rowFp U.al.length Bu, fun w => IsAlts w Bu U.al.length U.al⟩]) ?_ ?_
  ·
    refine An.start (fun v => Hp w v [bx b_3 28 [(.int .i64 U.channel), (.int .i64 (IntKind.i64.wrap (U.frame + (pickI k 40)))), (.int .i64 V.version), (.int .i64 V.item), (.int .i64 V.index), (.bool V.key), (.string (bstr V.data)), (.int .i64 V.regions), (.int .i64 V.gain), (.string (bstr V.caption)), (.int .i64 V.os), (.int .i64 V.of), (.slice Bv V.al.length cv)] true, bx b_1 28 [(.int .i64 U.channel), (.int .i64 U.frame), (.int .i64 U.version), (.int .i64 U.item), (.int .i64 U.index), (.bool U.key), (.string (bstr U.data)), (.int .i64 U.regions), (.int .i64 U.gain), (.string (bstr U.caption)), (.int .i64 U.os), (.int .i64 U.of), (.slice Bu U.al.length cu)] true] [⟨rowFp V.al.length Bv, fun w => IsAlts w Bv V.al.length V.al⟩, ⟨rowFp U.al.length Bu, fun w => IsAlts w Bu U.al.length U.al⟩]) 9 9 HP wide_follows rfl ?_
    intro w_13 HP
    refine An.pure H (.inr (HP)) 0 34 (.int .i64 c) rfl (by kernel_rfl) (by kernel_rfl) (fun _ _ _ h => h) (fun _ => by kernel_rfl) ?_
    intro a H
    refine An.val H (HP) 2 36 (.agg #[(.int .i64 U.channel), (.int .i64 U.frame), (.int .i64 U.version), (.int .i64 U.item), (.int .i64 U.index), (.bool U.key), (.string (bstr U.data)), (.int .i64 U.regions), (.int .i64 U.gain), (.string (bstr U.caption)), (.int .i64 U.os), (.int .i64 U.of), (.slice Bu U.al.length cu)]) rfl (by kernel_rfl) (by kernel_rfl) (fun _ _ _ h => h) (fun _ hS => ex_loadN (vs := [(.int .i64 U.channel), (.int .i64 U.frame), (.int .i64 U.version), (.int .i64 U.item), (.int .i64 U.index), (.bool U.key), (.string (bstr U.data)), (.int .i64 U.regions), (.int .i64 U.gain), (.string (bstr U.caption)), (.int .i64 U.os), (.int .i64 U.of), (.slice Bu U.al.length cu)]) (by kernel_rfl) (by kernel_rfl) (by kernel_rfl) rfl (hS.cells 1 rfl 0 13 (by kernel_rfl))) ?_
    intro a H
    refine An.one 1 (by kernel_rfl) ?_
    refine Op.call H 35 rfl (by kernel_rfl) (Eq.trans (by kernel_rfl : _ = (callFunc 14 #[(.int .i64 c)]).run Tryd.prog w_13) (Tryd.call14 _ _)) (rate_any c w_13 hc) ?_
    rintro e w_14 ⟨rfl, hb⟩
    refine ⟨_, rfl, ?_⟩
    intro a H
    have HP := HP.next hb
    refine ⟨.inr (HP), ?_⟩
    refine An.one 3 (by kernel_rfl) ?_
    refine Op.call H 37 rfl (by kernel_rfl) (Eq.trans (by kernel_rfl : _ = (callFunc 16 #[(.agg #[(.int .i64 ((rateP c).1)), (.int .i64 ((rateP c).2))]), (.agg #[(.int .i64 U.channel), (.int .i64 U.frame), (.int .i64 U.version), (.int .i64 U.item), (.int .i64 U.index), (.bool U.key), (.string (bstr U.data)), (.int .i64 U.regions), (.int .i64 U.gain), (.string (bstr U.caption)), (.int .i64 U.os), (.int .i64 U.of), (.slice Bu U.al.length cu)])]).run Tryd.prog w_14) (Tryd.call16 _ _)) ((by have hh := pack_any ((rateP c).1) ((rateP c).2) (⟨U.channel, U.frame, U.version, U.item, U.index, U.key, U.data, U.regions, U.gain, U.caption, U.os, U.of, Bu, cu, U.al⟩ : Un) w_14 (hL.below (HP.below (by kernel_rfl))) (HP.fact 1 rfl) (Nat.le_trans hcau hcbu); rw [hZu Bu cu] at hh; exact hh)) ?_
    rintro e w_15 ⟨rfl, hb⟩
    refine ⟨_, rfl, ?_⟩
    intro a H
    have HP := HP.next hb
    refine ⟨.inr (HP), ?_⟩
    refine An.pure H (.inr (HP)) 4 33 (.tuple #[(.string (bstr lu)), (.int .i64 0)]) rfl (by kernel_rfl) (by kernel_rfl) (fun _ _ _ h => h) (fun _ => by kernel_rfl) ?_
    intro a H
    refine An.pure H (.inr (HP)) 5 38 (.string (bstr lu)) rfl (by kernel_rfl) (by kernel_rfl) (fun _ _ _ h => h) (fun _ => by kernel_rfl) ?_
    intro a H
    refine An.pure H (.inr (HP)) 6 39 (.int .i64 0) rfl (by kernel_rfl) (by kernel_rfl) (fun _ _ _ h => h) (fun _ => by kernel_rfl) ?_
    intro a H
    refine An.pure H (.inr (HP)) 7 12 (.string (bstr lu)) rfl (by kernel_rfl) (by kernel_rfl) (fun _ _ _ h => h) (fun _ => by kernel_rfl) ?_
    intro a H
    refine An.pure H (.inr (HP)) 8 13 (.int .i64 0) rfl (by kernel_rfl) (by kernel_rfl) (fun _ _ _ h => h) (fun _ => by kernel_rfl) ?_
    intro a H
    refine An.done (by kernel_rfl) ?_
    have H := H.keep (L' := [(13, (.int .i64 0)), (12, (.string (bstr lu))), (27, (.pointer (some ⟨b_3, 0, none⟩))), (26, (.int .i64 U.channel)), (25, (.pointer (some ⟨b_1, 0, none⟩))), (24, (.bool true)), (3, (.int .i64 (pickI k 40))), (23, (.int .i64 (pickI k 40))), (22, (.int .i64 k)), (21, (.agg #[(.int .i64 V.channel), (.int .i64 V.frame), (.int .i64 V.version), (.int .i64 V.item), (.int .i64 V.index), (.bool V.key), (.string (bstr V.data)), (.int .i64 V.regions), (.int .i64 V.gain), (.string (bstr V.caption)), (.int .i64 V.os), (.int .i64 V.of), (.slice Bv V.al.length cv)])), (20, (.agg #[(.int .i64 v.channel), (.int .i64 v.frame), (.int .i64 v.version), (.int .i64 v.item), (.int .i64 v.index), (.bool v.key), (.string (bstr v.data)), (.int .i64 v.regions), (.int .i64 v.gain), (.string (bstr v.caption)), (.int .i64 v.os), (.int .i64 v.of), (.slice v.A v.al.length v.c)])), (19, (.agg #[(.int .i64 U.channel), (.int .i64 U.frame), (.int .i64 U.version), (.int .i64 U.item), (.int .i64 U.index), (.bool U.key), (.string (bstr U.data)), (.int .i64 U.regions), (.int .i64 U.gain), (.string (bstr U.caption)), (.int .i64 U.os), (.int .i64 U.of), (.slice Bu U.al.length cu)])), (18, (.agg #[(.int .i64 u.channel), (.int .i64 u.frame), (.int .i64 u.version), (.int .i64 u.item), (.int .i64 u.index), (.bool u.key), (.string (bstr u.data)), (.int .i64 u.regions), (.int .i64 u.gain), (.string (bstr u.caption)), (.int .i64 u.os), (.int .i64 u.of), (.slice u.A u.al.length u.c)])), (11, (.bool true)), (17, (.bool true)), (10, (.bool false)), (7, (.pointer (some ⟨b_3, 0, none⟩))), (6, (.pointer (some ⟨b_1, 0, none⟩))), (0, (.int .i64 c)), (1, (.agg #[(.int .i64 u.channel), (.int .i64 u.frame), (.int .i64 u.version), (.int .i64 u.item), (.int .i64 u.index), (.bool u.key), (.string (bstr u.data)), (.int .i64 u.regions), (.int .i64 u.gain), (.string (bstr u.caption)), (.int .i64 u.os), (.int .i64 u.of), (.slice u.A u.al.length u.c)])), (2, (.agg #[(.int .i64 v.channel), (.int .i64 v.frame), (.int .i64 v.version), (.int .i64 v.item), (.int .i64 v.index), (.bool v.key), (.string (bstr v.data)), (.int .i64 v.regions), (.int .i64 v.gain), (.string (bstr v.caption)), (.int .i64 v.os), (.int .i64 v.of), (.slice v.A v.al.length v.c)])), (4, (.bool true))]) (by kernel_rfl)
    refine then_normal ?_
    exact ⟨H.keep (by kernel_rfl), HP⟩
  ·
    rintro a w_16 ⟨H, HP⟩
    refine w_cut (fun a wv => Sl 88 [(14, (.string (bstr lv))), (15, (.int .i64 0)), (12, (.string (bstr lu))), (13, (.int .i64 0)), (24, (.bool true)), (3, (.int .i64 (pickI k 40))), (11, (.bool true)), (10, (.bool false)), (7, (.pointer (some ⟨b_3, 0, none⟩))), (6, (.pointer (some ⟨b_1, 0, none⟩))), (4, (.bool true))] a ∧ Hp w wv [bx b_3 28 [(.int .i64 U.channel), (.int .i64 (IntKind.i64.wrap (U.frame + (pickI k 40)))), (.int .i64 V.version), (.int .i64 V.item), (.int .i64 V.index), (.bool V.key), (.string (bstr V.data)), (.int .i64 V.regions), (.int .i64 V.gain), (.string (bstr V.caption)), (.int .i64 V.os), (.int .i64 V.of), (.slice Bv V.al.length cv)] true, bx b_1 28 [(.int .i64 U.channel), (.int .i64 U.frame), (.int .i64 U.version), (.int .i64 U.item), (.int .i64 U.index), (.bool U.key), (.string (bstr U.data)), (.int .i64 U.regions), (.int .i64 U.gain), (.string (bstr U.caption)), (.int .i64 U.os), (.int .i64 U.of), (.slice Bu U.al.length cu)] true] [⟨rowFp V.al.length Bv, fun w => IsAlts w Bv V.al.length V.al⟩, ⟨rowFp U.al.length Bu, fun w => IsAlts w Bu U.al.length U.al⟩]) ?_ ?_
    ·
      refine An.start (fun v => Hp w v [bx b_3 28 [(.int .i64 U.channel), (.int .i64 (IntKind.i64.wrap (U.frame + (pickI k 40)))), (.int .i64 V.version), (.int .i64 V.item), (.int .i64 V.index), (.bool V.key), (.string (bstr V.data)), (.int .i64 V.regions), (.int .i64 V.gain), (.string (bstr V.caption)), (.int .i64 V.os), (.int .i64 V.of), (.slice Bv V.al.length cv)] true, bx b_1 28 [(.int .i64 U.channel), (.int .i64 U.frame), (.int .i64 U.version), (.int .i64 U.item), (.int .i64 U.index), (.bool U.key), (.string (bstr U.data)), (.int .i64 U.regions), (.int .i64 U.gain), (.string (bstr U.caption)), (.int .i64 U.os), (.int .i64 U.of), (.slice Bu U.al.length cu)] true] [⟨rowFp V.al.length Bv, fun w => IsAlts w Bv V.al.length V.al⟩, ⟨rowFp U.al.length Bu, fun w => IsAlts w Bu U.al.length U.al⟩]) 9 9 HP wide_follows rfl ?_
      intro w_17 HP
      refine An.pure H (.inr (HP)) 0 41 (.int .i64 c) rfl (by kernel_rfl) (by kernel_rfl) (fun _ _ _ h => h) (fun _ => by kernel_rfl) ?_
      intro a H
      refine An.val H (HP) 2 43 (.agg #[(.int .i64 U.channel), (.int .i64 (IntKind.i64.wrap (U.frame + (pickI k 40)))), (.int .i64 V.version), (.int .i64 V.item), (.int .i64 V.index), (.bool V.key), (.string (bstr V.data)), (.int .i64 V.regions), (.int .i64 V.gain), (.string (bstr V.caption)), (.int .i64 V.os), (.int .i64 V.of), (.slice Bv V.al.length cv)]) rfl (by kernel_rfl) (by kernel_rfl) (fun _ _ _ h => h) (fun _ hS => ex_loadN (vs := [(.int .i64 U.channel), (.int .i64 (IntKind.i64.wrap (U.frame + (pickI k 40)))), (.int .i64 V.version), (.int .i64 V.item), (.int .i64 V.index), (.bool V.key), (.string (bstr V.data)), (.int .i64 V.regions), (.int .i64 V.gain), (.string (bstr V.caption)), (.int .i64 V.os), (.int .i64 V.of), (.slice Bv V.al.length cv)]) (by kernel_rfl) (by kernel_rfl) (by kernel_rfl) rfl (hS.cells 0 rfl 0 13 (by kernel_rfl))) ?_
      intro a H
      refine An.one 1 (by kernel_rfl) ?_
      refine Op.call H 42 rfl (by kernel_rfl) (Eq.trans (by kernel_rfl : _ = (callFunc 14 #[(.int .i64 c)]).run Tryd.prog w_17) (Tryd.call14 _ _)) (rate_any c w_17 hc) ?_
      rintro e w_18 ⟨rfl, hb⟩
      refine ⟨_, rfl, ?_⟩
      intro a H
      have HP := HP.next hb
      refine ⟨.inr (HP), ?_⟩
      refine An.one 3 (by kernel_rfl) ?_
      refine Op.call H 44 rfl (by kernel_rfl) (Eq.trans (by kernel_rfl : _ = (callFunc 16 #[(.agg #[(.int .i64 ((rateP c).1)), (.int .i64 ((rateP c).2))]), (.agg #[(.int .i64 U.channel), (.int .i64 (IntKind.i64.wrap (U.frame + (pickI k 40)))), (.int .i64 V.version), (.int .i64 V.item), (.int .i64 V.index), (.bool V.key), (.string (bstr V.data)), (.int .i64 V.regions), (.int .i64 V.gain), (.string (bstr V.caption)), (.int .i64 V.os), (.int .i64 V.of), (.slice Bv V.al.length cv)])]).run Tryd.prog w_18) (Tryd.call16 _ _)) ((by have hh := pack_any ((rateP c).1) ((rateP c).2) (⟨U.channel, IntKind.i64.wrap (U.frame + (pickI k 40)), V.version, V.item, V.index, V.key, V.data, V.regions, V.gain, V.caption, V.os, V.of, Bv, cv, V.al⟩ : Un) w_18 (hL.below (HP.below (by kernel_rfl))) (HP.fact 0 rfl) (Nat.le_trans hcav hcbv); rw [hZv Bv cv] at hh; exact hh)) ?_
      rintro e w_19 ⟨rfl, hb⟩
      refine ⟨_, rfl, ?_⟩
      intro a H
      have HP := HP.next hb
      refine ⟨.inr (HP), ?_⟩
      refine An.pure H (.inr (HP)) 4 40 (.tuple #[(.string (bstr lv)), (.int .i64 0)]) rfl (by kernel_rfl) (by kernel_rfl) (fun _ _ _ h => h) (fun _ => by kernel_rfl) ?_
      intro a H
      refine An.pure H (.inr (HP)) 5 45 (.string (bstr lv)) rfl (by kernel_rfl) (by kernel_rfl) (fun _ _ _ h => h) (fun _ => by kernel_rfl) ?_
      intro a H
      refine An.pure H (.inr (HP)) 6 46 (.int .i64 0) rfl (by kernel_rfl) (by kernel_rfl) (fun _ _ _ h => h) (fun _ => by kernel_rfl) ?_
      intro a H
      refine An.pure H (.inr (HP)) 7 14 (.string (bstr lv)) rfl (by kernel_rfl) (by kernel_rfl) (fun _ _ _ h => h) (fun _ => by kernel_rfl) ?_
      intro a H
      refine An.pure H (.inr (HP)) 8 15 (.int .i64 0) rfl (by kernel_rfl) (by kernel_rfl) (fun _ _ _ h => h) (fun _ => by kernel_rfl) ?_
      intro a H
      refine An.done (by kernel_rfl) ?_
      have H := H.keep (L' := [(15, (.int .i64 0)), (14, (.string (bstr lv))), (12, (.string (bstr lu))), (13, (.int .i64 0)), (24, (.bool true)), (3, (.int .i64 (pickI k 40))), (11, (.bool true)), (10, (.bool false)), (7, (.pointer (some ⟨b_3, 0, none⟩))), (6, (.pointer (some ⟨b_1, 0, none⟩))), (0, (.int .i64 c)), (4, (.bool true))]) (by kernel_rfl)
      refine then_normal ?_
      exact ⟨H.keep (by kernel_rfl), HP⟩
    ·
      rintro a w_20 ⟨H, HP⟩
      refine wp_seq ?_
      refine wp_seq ?_
      refine w_region ?_
      refine H.val 47 (.int .i64 0) (by kernel_rfl) (by kernel_rfl) ?_
      intro a H
      refine H.val 48 (.bool false) (by kernel_rfl) (by kernel_rfl) ?_
      intro a H
      refine H.val 49 (.bool false) (by kernel_rfl) (by kernel_rfl) ?_
      intro a H
      refine H.val 50 (.int .i64 0) (by kernel_rfl) (by kernel_rfl) ?_
      intro a H
      refine H.val 51 (.bool false) (by kernel_rfl) (by kernel_rfl) ?_
      intro a H
      refine H.val 52 (.bool false) (by kernel_rfl) (by kernel_rfl) ?_
      intro a H
      refine wpList_nil ?_
      refine then_normal ?_
      refine w_iff H rfl ?_
      refine wp_skip ?_
      refine then_normal ?_
      refine wp_seq ?_
      refine w_region ?_
      refine H.val 54 (.pointer (some ⟨b_1, 0, none⟩)) (by kernel_rfl) (by kernel_rfl) ?_
      intro a H
      refine H.val 55 (.int .i64 U.channel) (by kernel_rfl) (ex_load1 (by kernel_rfl) (by kernel_rfl) (HP.cell 1 rfl 0 rfl)) ?_
      intro a H
      refine H.val 56 (.pointer (some ⟨b_3, 0, none⟩)) (by kernel_rfl) (by kernel_rfl) ?_
      intro a H
      refine H.val 57 (.int .i64 U.channel) (by kernel_rfl) (ex_load1 (by kernel_rfl) (by kernel_rfl) (HP.cell 0 rfl 0 rfl)) ?_
      intro a H
      refine H.valE 58 (.bool (U.channel == U.channel)) (.bool true) (by kernel_rfl) (by kernel_rfl) ((congrArg Value.bool (hch))) ?_
      intro a H
      refine H.val 59 (.bool true) (by kernel_rfl) (by kernel_rfl) ?_
      intro a H
      refine H.val 60 (.pointer (some ⟨b_1, 1, none⟩)) (by kernel_rfl) (by kernel_rfl) ?_
      intro a H
      refine H.val 61 (.int .i64 U.frame) (by kernel_rfl) (ex_load1 (by kernel_rfl) (by kernel_rfl) (HP.cell 1 rfl 1 rfl)) ?_
      intro a H
      refine H.valE 62 (.int .i64 (IntKind.i64.wrap (U.frame + 1))) (.int .i64 (U.frame + 1)) (by kernel_rfl) (by kernel_rfl) ((by rw [wrap_ini64 _ (by omega)])) ?_
      intro a H
      refine H.valE 63 (.int .i64 ((U.frame + 1).tmod 16)) (.int .i64 ((U.frame + 1) % 16)) (by kernel_rfl) (by kernel_rfl) ((by rw [tmod_nn _ _ (by omega)])) ?_
      intro a H
      refine H.val 64 (.pointer (some ⟨b_3, 1, none⟩)) (by kernel_rfl) (by kernel_rfl) ?_
      intro a H
      refine H.val 65 (.int .i64 (IntKind.i64.wrap (U.frame + (pickI k 40)))) (by kernel_rfl) (ex_load1 (by kernel_rfl) (by kernel_rfl) (HP.cell 0 rfl 1 rfl)) ?_
      intro a H
      refine H.valE 66 (.int .i64 ((IntKind.i64.wrap (U.frame + (pickI k 40))).tmod 16)) (.int .i64 ((IntKind.i64.wrap (U.frame + (pickI k 40))) % 16)) (by kernel_rfl) (by kernel_rfl) ((by rw [tmod_nn _ _ (by omega)])) ?_
      intro a H
      refine H.valE 67 (.bool ((U.frame + 1) % 16 == (IntKind.i64.wrap (U.frame + pickI k 40)) % 16)) (.bool true) (by kernel_rfl) (by kernel_rfl) ((congrArg Value.bool (hfr))) ?_
      intro a H
      refine H.val 68 (.bool true) (by kernel_rfl) (by kernel_rfl) ?_
      intro a H
      refine H.val 16 (.bool true) (by kernel_rfl) (by kernel_rfl) ?_
      intro a H
      refine wpList_nil ?_
      have H := H.keep (L' := [(16, (.bool true)), (52, (.bool false)), (51, (.bool false)), (50, (.int .i64 0)), (49, (.bool false)), (48, (.bool false)), (47, (.int .i64 0)), (14, (.string (bstr lv))), (15, (.int .i64 0)), (12, (.string (bstr lu))), (13, (.int .i64 0)), (24, (.bool true)), (3, (.int .i64 (pickI k 40))), (11, (.bool true)), (10, (.bool false)), (7, (.pointer (some ⟨b_3, 0, none⟩))), (6, (.pointer (some ⟨b_1, 0, none⟩))), (4, (.bool true))]) (by kernel_rfl)
      refine then_normal ?_
      refine wp_seq ?_
      refine wp_seq ?_
      refine w_region ?_
      refine H.val 69 (.string (bstr lu)) (by kernel_rfl) (by kernel_rfl) ?_
      intro a H
      refine H.val 70 (.string (bstr lv)) (by kernel_rfl) (by kernel_rfl) ?_
      intro a H
      refine H.call 71 (by kernel_rfl) (Eq.trans (by kernel_rfl : _ = (callFunc 24 #[(.string (bstr lu)), (.string (bstr lv))]).run Tryd.prog w_20) (Tryd.call24 _ _)) ((by have hh := follows_any lu lv w_20 (by omega) (by omega); rw [hfw] at hh; exact hh)) ?_
      rintro e w_21 ⟨rfl, hb⟩
      refine ⟨_, rfl, ?_⟩
      intro a H
      have HP := HP.next hb
      refine H.val 72 (.bool true) (by kernel_rfl) (by kernel_rfl) ?_
      intro a H
      refine H.val 73 (.bool false) (by kernel_rfl) (by kernel_rfl) ?_
      intro a H
      refine wpList_nil ?_
      refine then_normal ?_
      refine w_iff H rfl ?_
      refine wp_skip ?_
      refine then_normal ?_
      refine wp_seq ?_
      refine w_region ?_
      refine H.val 74 (.bool true) (by kernel_rfl) (by kernel_rfl) ?_
      intro a H
      refine H.val 75 (.bool true) (by kernel_rfl) (by kernel_rfl) ?_
      intro a H
      refine H.val 76 (.bool true) (by kernel_rfl) (by kernel_rfl) ?_
      intro a H
      refine H.val 77 (.bool false) (by kernel_rfl) (by kernel_rfl) ?_
      intro a H
      refine H.val 78 (.bool false) (by kernel_rfl) (by kernel_rfl) ?_
      intro a H
      refine H.val 79 (.int .i64 (pickI k 40)) (by kernel_rfl) (by kernel_rfl) ?_
      intro a H
      refine H.val 80 (.bool ((pickI k 40) != 1)) (by kernel_rfl) (by kernel_rfl) ?_
      intro a H
      refine H.val 81 (.bool ((pickI k 40) != 1)) (by kernel_rfl) (by kernel_rfl) ?_
      intro a H
      refine H.val 82 (.bool ((pickI k 40) != 1)) (by kernel_rfl) (by kernel_rfl) ?_
      intro a H
      refine H.split 82 rfl (fun g82 H => ?_) (fun g82 H => ?_)
      · have g82p := bne_iff_ne.1 g82
        refine H.skip 83 (by kernel_rfl) ?_
        intro a H
        refine H.skip 84 (by kernel_rfl) ?_
        intro a H
        refine H.skip 85 (by kernel_rfl) ?_
        intro a H
        refine H.val 86 (.bool true) (by kernel_rfl) (by kernel_rfl) ?_
        intro a H
        refine H.val 87 (.bool true) (by kernel_rfl) (by kernel_rfl) ?_
        intro a H
        refine H.val 10 (.bool true) (by kernel_rfl) (by kernel_rfl) ?_
        intro a H
        refine wpList_nil ?_
        have H := H.keep (L' := [(10, (.bool true)), (73, (.bool false)), (72, (.bool true)), (71, (.bool true)), (70, (.string (bstr lv))), (69, (.string (bstr lu))), (16, (.bool true)), (52, (.bool false)), (51, (.bool false)), (50, (.int .i64 0)), (49, (.bool false)), (48, (.bool false)), (47, (.int .i64 0)), (14, (.string (bstr lv))), (15, (.int .i64 0)), (12, (.string (bstr lu))), (13, (.int .i64 0)), (24, (.bool true)), (3, (.int .i64 (pickI k 40))), (11, (.bool true)), (7, (.pointer (some ⟨b_3, 0, none⟩))), (6, (.pointer (some ⟨b_1, 0, none⟩))), (4, (.bool true))]) (by kernel_rfl)
        refine then_normal ?_
        refine wp_ret ?_
        refine H.ret1 (fn := Tryd.f11) Tryd.results11 (RV.tmp_ (v := (.bool true)) (by kernel_rfl)) ?_
        exact ⟨rfl, (HP.below (by kernel_rfl))⟩
      · have g82p := eq_of_bne_false g82
        refine H.val 83 (.string (bstr lu)) (by kernel_rfl) (by kernel_rfl) ?_
        intro a H
        refine H.val 84 (.string (bstr lv)) (by kernel_rfl) (by kernel_rfl) ?_
        intro a H
        refine H.call 85 (by kernel_rfl) (Eq.trans (by kernel_rfl : _ = (callFunc 24 #[(.string (bstr lu)), (.string (bstr lv))]).run Tryd.prog w_21) (Tryd.call24 _ _)) ((by have hh := follows_any lu lv w_21 (by omega) (by omega); rw [hfw] at hh; exact hh)) ?_
        rintro e w_22 ⟨rfl, hb⟩
        refine ⟨_, rfl, ?_⟩
        intro a H
        have HP := HP.next hb
        refine H.val 86 (.bool true) (by kernel_rfl) (by kernel_rfl) ?_
        intro a H
        refine H.val 87 (.bool true) (by kernel_rfl) (by kernel_rfl) ?_
        intro a H
        refine H.val 10 (.bool true) (by kernel_rfl) (by kernel_rfl) ?_
        intro a H
        refine wpList_nil ?_
        have H := H.keep (L' := [(10, (.bool true)), (73, (.bool false)), (72, (.bool true)), (71, (.bool true)), (70, (.string (bstr lv))), (69, (.string (bstr lu))), (16, (.bool true)), (52, (.bool false)), (51, (.bool false)), (50, (.int .i64 0)), (49, (.bool false)), (48, (.bool false)), (47, (.int .i64 0)), (14, (.string (bstr lv))), (15, (.int .i64 0)), (12, (.string (bstr lu))), (13, (.int .i64 0)), (24, (.bool true)), (3, (.int .i64 (pickI k 40))), (11, (.bool true)), (7, (.pointer (some ⟨b_3, 0, none⟩))), (6, (.pointer (some ⟨b_1, 0, none⟩))), (4, (.bool true))]) (by kernel_rfl)
        refine then_normal ?_
        refine wp_ret ?_
        refine H.ret1 (fn := Tryd.f11) Tryd.results11 (RV.tmp_ (v := (.bool true)) (by kernel_rfl)) ?_
        exact ⟨rfl, (HP.below (by kernel_rfl))⟩
set_option maxRecDepth 100000 in
set_option maxHeartbeats 4000000 in
theorem fol_tsf (c k : Int) (u v U V : Un) (w : World) (hU : shortU u = U) (hV : shortU v = V) (hL : Laid w) (hc : -9223372036854775808 ≤ c ∧ c ≤ 9223372036854775807) (hk : -9223372036854775808 ≤ k ∧ k ≤ 9223372036854775807) (huu : IsAlts w u.A u.al.length u.al) (hcu : u.al.length ≤ u.c) (hAu : u.A = none → u.c = 0) (huv : IsAlts w v.A v.al.length v.al) (hcv : v.al.length ≤ v.c) (hAv : v.A = none → v.c = 0) (lu : List UInt8) (lv : List UInt8) (hZu : ∀ B c', packP (rateP c).1 (rateP c).2 ({ U with A := B, c := c' } : Un) = some lu) (hZv : ∀ B c', packP (rateP c).1 (rateP c).2 (⟨U.channel, IntKind.i64.wrap (U.frame + pickI k 40), V.version, V.item, V.index, V.key, V.data, V.regions, V.gain, V.caption, V.os, V.of, B, c', V.al⟩ : Un) = some lv) (hch : (U.channel == U.channel) = true) (hfr : ((U.frame + 1) % 16 == (IntKind.i64.wrap (U.frame + pickI k 40)) % 16) = false) (hfw : followsP lu lv = false) (hk1 : (pickI k 40 != 1) = true) :
    Calls Tryd.prog 11 #[.int .i64 c, u.val, v.val, .int .i64 k, .bool true] w fun e w' => e = .returned (.bool true) ∧ Below w.heap.size w w' := by
  have HP := Hp.start w
  have hp40 := pickI_lt k 40 (by omega)
  obtain ⟨hlu, _, hlu2⟩ := pack_len (hZu none 0)
  obtain ⟨hlv, _, hlv2⟩ := pack_len (hZv none 0)
  obtain ⟨hfu, hfv⟩ := both_frames (hZu none 0) (hZv none 0)
  simp only at hfu hfv
  refine w_enter 88 [(0, (.int .i64 c)), (1, (.agg #[(.int .i64 u.channel), (.int .i64 u.frame), (.int .i64 u.version), (.int .i64 u.item), (.int .i64 u.index), (.bool u.key), (.string (bstr u.data)), (.int .i64 u.regions), (.int .i64 u.gain), (.string (bstr u.caption)), (.int .i64 u.os), (.int .i64 u.of), (.slice u.A u.al.length u.c)])), (2, (.agg #[(.int .i64 v.channel), (.int .i64 v.frame), (.int .i64 v.version), (.int .i64 v.item), (.int .i64 v.index), (.bool v.key), (.string (bstr v.data)), (.int .i64 v.regions), (.int .i64 v.gain), (.string (bstr v.caption)), (.int .i64 v.os), (.int .i64 v.of), (.slice v.A v.al.length v.c)])), (3, (.int .i64 k)), (4, (.bool true))] Tryd.func11 rfl Tryd.ntmps11 (by kernel_rfl) (by kernel_rfl) ?_
  intro a H
  refine wp_seq ?_
  refine w_region ?_
  refine H.alloc HP 6 (fun b => (.pointer (some ⟨b, 0, none⟩))) 28 [(.int .i64 u.channel), (.int .i64 u.frame), (.int .i64 u.version), (.int .i64 u.item), (.int .i64 u.index), (.bool u.key), (.string (bstr u.data)), (.int .i64 u.regions), (.int .i64 u.gain), (.string (bstr u.caption)), (.int .i64 u.os), (.int .i64 u.of), (.slice u.A u.al.length u.c)] (by kernel_rfl) (fun w => by kernel_rfl) ?_
  intro b_1 w_2 a H HP
  refine H.alloc HP 7 (fun b => (.pointer (some ⟨b, 0, none⟩))) 28 [(.int .i64 v.channel), (.int .i64 v.frame), (.int .i64 v.version), (.int .i64 v.item), (.int .i64 v.index), (.bool v.key), (.string (bstr v.data)), (.int .i64 v.regions), (.int .i64 v.gain), (.string (bstr v.caption)), (.int .i64 v.os), (.int .i64 v.of), (.slice v.A v.al.length v.c)] (by kernel_rfl) (fun w => by kernel_rfl) ?_
  intro b_3 w_4 a H HP
  refine H.val 10 (.bool false) (by kernel_rfl) (by kernel_rfl) ?_
  intro a H
  refine wpList_nil ?_
  refine then_normal ?_
  refine wp_seq ?_
  refine w_region ?_
  refine H.call 17 (by kernel_rfl) (Eq.trans (by kernel_rfl : _ = (callFunc 13 #[]).run Tryd.prog w_4) (Tryd.call13 _ _)) (sane_any w_4 (hL.below (HP.below (by kernel_rfl)))) ?_
  rintro e w_5 ⟨rfl, hb⟩
  refine ⟨_, rfl, ?_⟩
  intro a H
  have HP := HP.next hb
  refine H.val 11 (.bool true) (by kernel_rfl) (by kernel_rfl) ?_
  intro a H
  refine wpList_nil ?_
  refine then_normal ?_
  refine wp_seq ?_
  refine w_region ?_
  refine H.val 18 (.agg #[(.int .i64 u.channel), (.int .i64 u.frame), (.int .i64 u.version), (.int .i64 u.item), (.int .i64 u.index), (.bool u.key), (.string (bstr u.data)), (.int .i64 u.regions), (.int .i64 u.gain), (.string (bstr u.caption)), (.int .i64 u.os), (.int .i64 u.of), (.slice u.A u.al.length u.c)]) (by kernel_rfl) (ex_loadN (vs := [(.int .i64 u.channel), (.int .i64 u.frame), (.int .i64 u.version), (.int .i64 u.item), (.int .i64 u.index), (.bool u.key), (.string (bstr u.data)), (.int .i64 u.regions), (.int .i64 u.gain), (.string (bstr u.caption)), (.int .i64 u.os), (.int .i64 u.of), (.slice u.A u.al.length u.c)]) (by kernel_rfl) (by kernel_rfl) (by kernel_rfl) rfl (HP.cells 1 rfl 0 13 (by kernel_rfl))) ?_
  intro a H
  refine H.call 19 (by kernel_rfl) (Eq.trans (by kernel_rfl : _ = (callFunc 15 #[(.agg #[(.int .i64 u.channel), (.int .i64 u.frame), (.int .i64 u.version), (.int .i64 u.item), (.int .i64 u.index), (.bool u.key), (.string (bstr u.data)), (.int .i64 u.regions), (.int .i64 u.gain), (.string (bstr u.caption)), (.int .i64 u.os), (.int .i64 u.of), (.slice u.A u.al.length u.c)])]).run Tryd.prog w_5) (Tryd.call15 _ _)) (short_anyU hU (short_any u w_5 (huu.below (HP.below (by kernel_rfl))) hcu hAu)) ?_
  rintro e w_6 ⟨Bu, cu, rfl, halu, hcau, hcbu, hccu, hfru, hb⟩
  refine ⟨_, rfl, ?_⟩
  intro a H
  have HP := (HP.next hb).keepF ⟨rowFp U.al.length Bu, fun w => IsAlts w Bu U.al.length U.al⟩ halu (fun _ _ h hk hs => ⟨h.1, h.2.keep hk hs⟩) (fun j hj => row_sep HP halu.2 hfru hj)
  refine H.store HP 1 b_1 0 13 28 [(.int .i64 u.channel), (.int .i64 u.frame), (.int .i64 u.version), (.int .i64 u.item), (.int .i64 u.index), (.bool u.key), (.string (bstr u.data)), (.int .i64 u.regions), (.int .i64 u.gain), (.string (bstr u.caption)), (.int .i64 u.os), (.int .i64 u.of), (.slice u.A u.al.length u.c)] true (.agg #[(.int .i64 U.channel), (.int .i64 U.frame), (.int .i64 U.version), (.int .i64 U.item), (.int .i64 U.index), (.bool U.key), (.string (bstr U.data)), (.int .i64 U.regions), (.int .i64 U.gain), (.string (bstr U.caption)), (.int .i64 U.os), (.int .i64 U.of), (.slice Bu U.al.length cu)]) [bx b_3 28 [(.int .i64 v.channel), (.int .i64 v.frame), (.int .i64 v.version), (.int .i64 v.item), (.int .i64 v.index), (.bool v.key), (.string (bstr v.data)), (.int .i64 v.regions), (.int .i64 v.gain), (.string (bstr v.caption)), (.int .i64 v.os), (.int .i64 v.of), (.slice v.A v.al.length v.c)] true, bx b_1 28 [(.int .i64 U.channel), (.int .i64 U.frame), (.int .i64 U.version), (.int .i64 U.item), (.int .i64 U.index), (.bool U.key), (.string (bstr U.data)), (.int .i64 U.regions), (.int .i64 U.gain), (.string (bstr U.caption)), (.int .i64 U.os), (.int .i64 U.of), (.slice Bu U.al.length cu)] true] (by kernel_rfl) (by kernel_rfl) (by kernel_rfl) rfl (by kernel_rfl) (by kernel_rfl) (by kernel_rfl) (by kernel_rfl) (by kernel_rfl) ?_
  intro w_7 a H HP
  refine wpList_nil ?_
  refine then_normal ?_
  refine wp_seq ?_
  refine w_region ?_
  refine H.val 20 (.agg #[(.int .i64 v.channel), (.int .i64 v.frame), (.int .i64 v.version), (.int .i64 v.item), (.int .i64 v.index), (.bool v.key), (.string (bstr v.data)), (.int .i64 v.regions), (.int .i64 v.gain), (.string (bstr v.caption)), (.int .i64 v.os), (.int .i64 v.of), (.slice v.A v.al.length v.c)]) (by kernel_rfl) (ex_loadN (vs := [(.int .i64 v.channel), (.int .i64 v.frame), (.int .i64 v.version), (.int .i64 v.item), (.int .i64 v.index), (.bool v.key), (.string (bstr v.data)), (.int .i64 v.regions), (.int .i64 v.gain), (.string (bstr v.caption)), (.int .i64 v.os), (.int .i64 v.of), (.slice v.A v.al.length v.c)]) (by kernel_rfl) (by kernel_rfl) (by kernel_rfl) rfl (HP.cells 0 rfl 0 13 (by kernel_rfl))) ?_
  intro a H
  refine H.call 21 (by kernel_rfl) (Eq.trans (by kernel_rfl : _ = (callFunc 15 #[(.agg #[(.int .i64 v.channel), (.int .i64 v.frame), (.int .i64 v.version), (.int .i64 v.item), (.int .i64 v.index), (.bool v.key), (.string (bstr v.data)), (.int .i64 v.regions), (.int .i64 v.gain), (.string (bstr v.caption)), (.int .i64 v.os), (.int .i64 v.of), (.slice v.A v.al.length v.c)])]).run Tryd.prog w_7) (Tryd.call15 _ _)) (short_anyU hV (short_any v w_7 (huv.below (HP.below (by kernel_rfl))) hcv hAv)) ?_
  rintro e w_8 ⟨Bv, cv, rfl, halv, hcav, hcbv, hccv, hfrv, hb⟩
  refine ⟨_, rfl, ?_⟩
  intro a H
  have HP := (HP.next hb).keepF ⟨rowFp V.al.length Bv, fun w => IsAlts w Bv V.al.length V.al⟩ halv (fun _ _ h hk hs => ⟨h.1, h.2.keep hk hs⟩) (fun j hj => row_sep HP halv.2 hfrv hj)
  refine H.store HP 0 b_3 0 13 28 [(.int .i64 v.channel), (.int .i64 v.frame), (.int .i64 v.version), (.int .i64 v.item), (.int .i64 v.index), (.bool v.key), (.string (bstr v.data)), (.int .i64 v.regions), (.int .i64 v.gain), (.string (bstr v.caption)), (.int .i64 v.os), (.int .i64 v.of), (.slice v.A v.al.length v.c)] true (.agg #[(.int .i64 V.channel), (.int .i64 V.frame), (.int .i64 V.version), (.int .i64 V.item), (.int .i64 V.index), (.bool V.key), (.string (bstr V.data)), (.int .i64 V.regions), (.int .i64 V.gain), (.string (bstr V.caption)), (.int .i64 V.os), (.int .i64 V.of), (.slice Bv V.al.length cv)]) [bx b_3 28 [(.int .i64 V.channel), (.int .i64 V.frame), (.int .i64 V.version), (.int .i64 V.item), (.int .i64 V.index), (.bool V.key), (.string (bstr V.data)), (.int .i64 V.regions), (.int .i64 V.gain), (.string (bstr V.caption)), (.int .i64 V.os), (.int .i64 V.of), (.slice Bv V.al.length cv)] true, bx b_1 28 [(.int .i64 U.channel), (.int .i64 U.frame), (.int .i64 U.version), (.int .i64 U.item), (.int .i64 U.index), (.bool U.key), (.string (bstr U.data)), (.int .i64 U.regions), (.int .i64 U.gain), (.string (bstr U.caption)), (.int .i64 U.os), (.int .i64 U.of), (.slice Bu U.al.length cu)] true] (by kernel_rfl) (by kernel_rfl) (by kernel_rfl) rfl (by kernel_rfl) (by kernel_rfl) (by kernel_rfl) (by kernel_rfl) (by kernel_rfl) ?_
  intro w_9 a H HP
  refine wpList_nil ?_
  refine then_normal ?_
  refine wp_seq ?_
  refine w_region ?_
  refine H.val 22 (.int .i64 k) (by kernel_rfl) (by kernel_rfl) ?_
  intro a H
  refine H.call 23 (by kernel_rfl) (Eq.trans (by kernel_rfl : _ = (callFunc 27 #[(.int .i64 k), (.int .i64 40)]).run Tryd.prog w_9) (Tryd.call27 _ _)) (pick_any k 40 w_9 (by omega) (by omega)) ?_
  rintro e w_10 ⟨rfl, rfl⟩
  refine ⟨_, rfl, ?_⟩
  intro a H
  refine H.val 3 (.int .i64 (pickI k 40)) (by kernel_rfl) (by kernel_rfl) ?_
  intro a H
  refine wpList_nil ?_
  refine then_normal ?_
  refine wp_seq ?_
  refine wp_seq ?_
  refine w_region ?_
  refine H.val 24 (.bool true) (by kernel_rfl) (by kernel_rfl) ?_
  intro a H
  refine wpList_nil ?_
  refine then_normal ?_
  refine w_ift H rfl ?_
  refine wp_seq ?_
  refine w_region ?_
  refine H.val 25 (.pointer (some ⟨b_1, 0, none⟩)) (by kernel_rfl) (by kernel_rfl) ?_
  intro a H
  refine H.val 26 (.int .i64 U.channel) (by kernel_rfl) (ex_load1 (by kernel_rfl) (by kernel_rfl) (HP.cell 1 rfl 0 rfl)) ?_
  intro a H
  refine H.val 27 (.pointer (some ⟨b_3, 0, none⟩)) (by kernel_rfl) (by kernel_rfl) ?_
  intro a H
  refine H.store HP 0 b_3 0 1 28 [(.int .i64 V.channel), (.int .i64 V.frame), (.int .i64 V.version), (.int .i64 V.item), (.int .i64 V.index), (.bool V.key), (.string (bstr V.data)), (.int .i64 V.regions), (.int .i64 V.gain), (.string (bstr V.caption)), (.int .i64 V.os), (.int .i64 V.of), (.slice Bv V.al.length cv)] true (.int .i64 U.channel) [bx b_3 28 [(.int .i64 U.channel), (.int .i64 V.frame), (.int .i64 V.version), (.int .i64 V.item), (.int .i64 V.index), (.bool V.key), (.string (bstr V.data)), (.int .i64 V.regions), (.int .i64 V.gain), (.string (bstr V.caption)), (.int .i64 V.os), (.int .i64 V.of), (.slice Bv V.al.length cv)] true, bx b_1 28 [(.int .i64 U.channel), (.int .i64 U.frame), (.int .i64 U.version), (.int .i64 U.item), (.int .i64 U.index), (.bool U.key), (.string (bstr U.data)), (.int .i64 U.regions), (.int .i64 U.gain), (.string (bstr U.caption)), (.int .i64 U.os), (.int .i64 U.of), (.slice Bu U.al.length cu)] true] (by kernel_rfl) (by kernel_rfl) (by kernel_rfl) rfl (by kernel_rfl) (by kernel_rfl) (by kernel_rfl) (by kernel_rfl) (by kernel_rfl) ?_
  intro w_11 a H HP
  refine wpList_nil ?_
  refine then_normal ?_
  refine w_region ?_
  refine H.val 28 (.pointer (some ⟨b_1, 1, none⟩)) (by kernel_rfl) (by kernel_rfl) ?_
  intro a H
  refine H.val 29 (.int .i64 U.frame) (by kernel_rfl) (ex_load1 (by kernel_rfl) (by kernel_rfl) (HP.cell 1 rfl 1 rfl)) ?_
  intro a H
  refine H.val 30 (.int .i64 (pickI k 40)) (by kernel_rfl) (by kernel_rfl) ?_
  intro a H
  refine H.val 31 (.int .i64 (IntKind.i64.wrap (U.frame + (pickI k 40)))) (by kernel_rfl) (by kernel_rfl) ?_
  intro a H
  refine H.val 32 (.pointer (some ⟨b_3, 1, none⟩)) (by kernel_rfl) (by kernel_rfl) ?_
  intro a H
  refine H.store HP 0 b_3 1 1 28 [(.int .i64 U.channel), (.int .i64 V.frame), (.int .i64 V.version), (.int .i64 V.item), (.int .i64 V.index), (.bool V.key), (.string (bstr V.data)), (.int .i64 V.regions), (.int .i64 V.gain), (.string (bstr V.caption)), (.int .i64 V.os), (.int .i64 V.of), (.slice Bv V.al.length cv)] true (.int .i64 (IntKind.i64.wrap (U.frame + (pickI k 40)))) [bx b_3 28 [(.int .i64 U.channel), (.int .i64 (IntKind.i64.wrap (U.frame + (pickI k 40)))), (.int .i64 V.version), (.int .i64 V.item), (.int .i64 V.index), (.bool V.key), (.string (bstr V.data)), (.int .i64 V.regions), (.int .i64 V.gain), (.string (bstr V.caption)), (.int .i64 V.os), (.int .i64 V.of), (.slice Bv V.al.length cv)] true, bx b_1 28 [(.int .i64 U.channel), (.int .i64 U.frame), (.int .i64 U.version), (.int .i64 U.item), (.int .i64 U.index), (.bool U.key), (.string (bstr U.data)), (.int .i64 U.regions), (.int .i64 U.gain), (.string (bstr U.caption)), (.int .i64 U.os), (.int .i64 U.of), (.slice Bu U.al.length cu)] true] (by kernel_rfl) (by kernel_rfl) (by kernel_rfl) rfl (by kernel_rfl) (by kernel_rfl) (by kernel_rfl) (by kernel_rfl) (by kernel_rfl) ?_
  intro w_12 a H HP
  refine wpList_nil ?_
  have H := H.keep (L' := [(27, (.pointer (some ⟨b_3, 0, none⟩))), (26, (.int .i64 U.channel)), (25, (.pointer (some ⟨b_1, 0, none⟩))), (24, (.bool true)), (3, (.int .i64 (pickI k 40))), (23, (.int .i64 (pickI k 40))), (22, (.int .i64 k)), (21, (.agg #[(.int .i64 V.channel), (.int .i64 V.frame), (.int .i64 V.version), (.int .i64 V.item), (.int .i64 V.index), (.bool V.key), (.string (bstr V.data)), (.int .i64 V.regions), (.int .i64 V.gain), (.string (bstr V.caption)), (.int .i64 V.os), (.int .i64 V.of), (.slice Bv V.al.length cv)])), (20, (.agg #[(.int .i64 v.channel), (.int .i64 v.frame), (.int .i64 v.version), (.int .i64 v.item), (.int .i64 v.index), (.bool v.key), (.string (bstr v.data)), (.int .i64 v.regions), (.int .i64 v.gain), (.string (bstr v.caption)), (.int .i64 v.os), (.int .i64 v.of), (.slice v.A v.al.length v.c)])), (19, (.agg #[(.int .i64 U.channel), (.int .i64 U.frame), (.int .i64 U.version), (.int .i64 U.item), (.int .i64 U.index), (.bool U.key), (.string (bstr U.data)), (.int .i64 U.regions), (.int .i64 U.gain), (.string (bstr U.caption)), (.int .i64 U.os), (.int .i64 U.of), (.slice Bu U.al.length cu)])), (18, (.agg #[(.int .i64 u.channel), (.int .i64 u.frame), (.int .i64 u.version), (.int .i64 u.item), (.int .i64 u.index), (.bool u.key), (.string (bstr u.data)), (.int .i64 u.regions), (.int .i64 u.gain), (.string (bstr u.caption)), (.int .i64 u.os), (.int .i64 u.of), (.slice u.A u.al.length u.c)])), (11, (.bool true)), (17, (.bool true)), (10, (.bool false)), (7, (.pointer (some ⟨b_3, 0, none⟩))), (6, (.pointer (some ⟨b_1, 0, none⟩))), (0, (.int .i64 c)), (1, (.agg #[(.int .i64 u.channel), (.int .i64 u.frame), (.int .i64 u.version), (.int .i64 u.item), (.int .i64 u.index), (.bool u.key), (.string (bstr u.data)), (.int .i64 u.regions), (.int .i64 u.gain), (.string (bstr u.caption)), (.int .i64 u.os), (.int .i64 u.of), (.slice u.A u.al.length u.c)])), (2, (.agg #[(.int .i64 v.channel), (.int .i64 v.frame), (.int .i64 v.version), (.int .i64 v.item), (.int .i64 v.index), (.bool v.key), (.string (bstr v.data)), (.int .i64 v.regions), (.int .i64 v.gain), (.string (bstr v.caption)), (.int .i64 v.os), (.int .i64 v.of), (.slice v.A v.al.length v.c)])), (4, (.bool true))]) (by kernel_rfl)
  refine then_normal ?_
  refine w_cut (fun a wv => Sl 88 [(12, (.string (bstr lu))), (13, (.int .i64 0)), (24, (.bool true)), (3, (.int .i64 (pickI k 40))), (11, (.bool true)), (10, (.bool false)), (7, (.pointer (some ⟨b_3, 0, none⟩))), (6, (.pointer (some ⟨b_1, 0, none⟩))), (0, (.int .i64 c)), (4, (.bool true))] a ∧ Hp w wv [bx b_3 28 [(.int .i64 U.channel), (.int .i64 (IntKind.i64.wrap (U.frame + (pickI k 40)))), (.int .i64 V.version), (.int .i64 V.item), (.int .i64 V.index), (.bool V.key), (.string (bstr V.data)), (.int .i64 V.regions), (.int .i64 V.gain), (.string (bstr V.caption)), (.int .i64 V.os), (.int .i64 V.of), (.slice Bv V.al.length cv)] true, bx b_1 28 [(.int .i64 U.channel), (.int .i64 U.frame), (.int .i64 U.version), (.int .i64 U.item), (.int .i64 U.index), (.bool U.key), (.string (bstr U.data)), (.int .i64 U.regions), (.int .i64 U.gain), (.string (bstr U.caption)), (.int .i64 U.os), (.int .i64 U.of), (.slice Bu U.al.length cu)] true] [⟨rowFp V.al.length Bv, fun w => IsAlts w Bv V.al.length V.al⟩, ⟨rowFp U.al.length Bu, fun w => IsAlts w Bu U.al.length U.al⟩]) ?_ ?_
  ·
    refine An.start (fun v => Hp w v [bx b_3 28 [(.int .i64 U.channel), (.int .i64 (IntKind.i64.wrap (U.frame + (pickI k 40)))), (.int .i64 V.version), (.int .i64 V.item), (.int .i64 V.index), (.bool V.key), (.string (bstr V.data)), (.int .i64 V.regions), (.int .i64 V.gain), (.string (bstr V.caption)), (.int .i64 V.os), (.int .i64 V.of), (.slice Bv V.al.length cv)] true, bx b_1 28 [(.int .i64 U.channel), (.int .i64 U.frame), (.int .i64 U.version), (.int .i64 U.item), (.int .i64 U.index), (.bool U.key), (.string (bstr U.data)), (.int .i64 U.regions), (.int .i64 U.gain), (.string (bstr U.caption)), (.int .i64 U.os), (.int .i64 U.of), (.slice Bu U.al.length cu)] true] [⟨rowFp V.al.length Bv, fun w => IsAlts w Bv V.al.length V.al⟩, ⟨rowFp U.al.length Bu, fun w => IsAlts w Bu U.al.length U.al⟩]) 9 9 HP wide_follows rfl ?_
    intro w_13 HP
    refine An.pure H (.inr (HP)) 0 34 (.int .i64 c) rfl (by kernel_rfl) (by kernel_rfl) (fun _ _ _ h => h) (fun _ => by kernel_rfl) ?_
    intro a H
    refine An.val H (HP) 2 36 (.agg #[(.int .i64 U.channel), (.int .i64 U.frame), (.int .i64 U.version), (.int .i64 U.item), (.int .i64 U.index), (.bool U.key), (.string (bstr U.data)), (.int .i64 U.regions), (.int .i64 U.gain), (.string (bstr U.caption)), (.int .i64 U.os), (.int .i64 U.of), (.slice Bu U.al.length cu)]) rfl (by kernel_rfl) (by kernel_rfl) (fun _ _ _ h => h) (fun _ hS => ex_loadN (vs := [(.int .i64 U.channel), (.int .i64 U.frame), (.int .i64 U.version), (.int .i64 U.item), (.int .i64 U.index), (.bool U.key), (.string (bstr U.data)), (.int .i64 U.regions), (.int .i64 U.gain), (.string (bstr U.caption)), (.int .i64 U.os), (.int .i64 U.of), (.slice Bu U.al.length cu)]) (by kernel_rfl) (by kernel_rfl) (by kernel_rfl) rfl (hS.cells 1 rfl 0 13 (by kernel_rfl))) ?_
    intro a H
    refine An.one 1 (by kernel_rfl) ?_
    refine Op.call H 35 rfl (by kernel_rfl) (Eq.trans (by kernel_rfl : _ = (callFunc 14 #[(.int .i64 c)]).run Tryd.prog w_13) (Tryd.call14 _ _)) (rate_any c w_13 hc) ?_
    rintro e w_14 ⟨rfl, hb⟩
    refine ⟨_, rfl, ?_⟩
    intro a H
    have HP := HP.next hb
    refine ⟨.inr (HP), ?_⟩
    refine An.one 3 (by kernel_rfl) ?_
    refine Op.call H 37 rfl (by kernel_rfl) (Eq.trans (by kernel_rfl : _ = (callFunc 16 #[(.agg #[(.int .i64 ((rateP c).1)), (.int .i64 ((rateP c).2))]), (.agg #[(.int .i64 U.channel), (.int .i64 U.frame), (.int .i64 U.version), (.int .i64 U.item), (.int .i64 U.index), (.bool U.key), (.string (bstr U.data)), (.int .i64 U.regions), (.int .i64 U.gain), (.string (bstr U.caption)), (.int .i64 U.os), (.int .i64 U.of), (.slice Bu U.al.length cu)])]).run Tryd.prog w_14) (Tryd.call16 _ _)) ((by have hh := pack_any ((rateP c).1) ((rateP c).2) (⟨U.channel, U.frame, U.version, U.item, U.index, U.key, U.data, U.regions, U.gain, U.caption, U.os, U.of, Bu, cu, U.al⟩ : Un) w_14 (hL.below (HP.below (by kernel_rfl))) (HP.fact 1 rfl) (Nat.le_trans hcau hcbu); rw [hZu Bu cu] at hh; exact hh)) ?_
    rintro e w_15 ⟨rfl, hb⟩
    refine ⟨_, rfl, ?_⟩
    intro a H
    have HP := HP.next hb
    refine ⟨.inr (HP), ?_⟩
    refine An.pure H (.inr (HP)) 4 33 (.tuple #[(.string (bstr lu)), (.int .i64 0)]) rfl (by kernel_rfl) (by kernel_rfl) (fun _ _ _ h => h) (fun _ => by kernel_rfl) ?_
    intro a H
    refine An.pure H (.inr (HP)) 5 38 (.string (bstr lu)) rfl (by kernel_rfl) (by kernel_rfl) (fun _ _ _ h => h) (fun _ => by kernel_rfl) ?_
    intro a H
    refine An.pure H (.inr (HP)) 6 39 (.int .i64 0) rfl (by kernel_rfl) (by kernel_rfl) (fun _ _ _ h => h) (fun _ => by kernel_rfl) ?_
    intro a H
    refine An.pure H (.inr (HP)) 7 12 (.string (bstr lu)) rfl (by kernel_rfl) (by kernel_rfl) (fun _ _ _ h => h) (fun _ => by kernel_rfl) ?_
    intro a H
    refine An.pure H (.inr (HP)) 8 13 (.int .i64 0) rfl (by kernel_rfl) (by kernel_rfl) (fun _ _ _ h => h) (fun _ => by kernel_rfl) ?_
    intro a H
    refine An.done (by kernel_rfl) ?_
    have H := H.keep (L' := [(13, (.int .i64 0)), (12, (.string (bstr lu))), (27, (.pointer (some ⟨b_3, 0, none⟩))), (26, (.int .i64 U.channel)), (25, (.pointer (some ⟨b_1, 0, none⟩))), (24, (.bool true)), (3, (.int .i64 (pickI k 40))), (23, (.int .i64 (pickI k 40))), (22, (.int .i64 k)), (21, (.agg #[(.int .i64 V.channel), (.int .i64 V.frame), (.int .i64 V.version), (.int .i64 V.item), (.int .i64 V.index), (.bool V.key), (.string (bstr V.data)), (.int .i64 V.regions), (.int .i64 V.gain), (.string (bstr V.caption)), (.int .i64 V.os), (.int .i64 V.of), (.slice Bv V.al.length cv)])), (20, (.agg #[(.int .i64 v.channel), (.int .i64 v.frame), (.int .i64 v.version), (.int .i64 v.item), (.int .i64 v.index), (.bool v.key), (.string (bstr v.data)), (.int .i64 v.regions), (.int .i64 v.gain), (.string (bstr v.caption)), (.int .i64 v.os), (.int .i64 v.of), (.slice v.A v.al.length v.c)])), (19, (.agg #[(.int .i64 U.channel), (.int .i64 U.frame), (.int .i64 U.version), (.int .i64 U.item), (.int .i64 U.index), (.bool U.key), (.string (bstr U.data)), (.int .i64 U.regions), (.int .i64 U.gain), (.string (bstr U.caption)), (.int .i64 U.os), (.int .i64 U.of), (.slice Bu U.al.length cu)])), (18, (.agg #[(.int .i64 u.channel), (.int .i64 u.frame), (.int .i64 u.version), (.int .i64 u.item), (.int .i64 u.index), (.bool u.key), (.string (bstr u.data)), (.int .i64 u.regions), (.int .i64 u.gain), (.string (bstr u.caption)), (.int .i64 u.os), (.int .i64 u.of), (.slice u.A u.al.length u.c)])), (11, (.bool true)), (17, (.bool true)), (10, (.bool false)), (7, (.pointer (some ⟨b_3, 0, none⟩))), (6, (.pointer (some ⟨b_1, 0, none⟩))), (0, (.int .i64 c)), (1, (.agg #[(.int .i64 u.channel), (.int .i64 u.frame), (.int .i64 u.version), (.int .i64 u.item), (.int .i64 u.index), (.bool u.key), (.string (bstr u.data)), (.int .i64 u.regions), (.int .i64 u.gain), (.string (bstr u.caption)), (.int .i64 u.os), (.int .i64 u.of), (.slice u.A u.al.length u.c)])), (2, (.agg #[(.int .i64 v.channel), (.int .i64 v.frame), (.int .i64 v.version), (.int .i64 v.item), (.int .i64 v.index), (.bool v.key), (.string (bstr v.data)), (.int .i64 v.regions), (.int .i64 v.gain), (.string (bstr v.caption)), (.int .i64 v.os), (.int .i64 v.of), (.slice v.A v.al.length v.c)])), (4, (.bool true))]) (by kernel_rfl)
    refine then_normal ?_
    exact ⟨H.keep (by kernel_rfl), HP⟩
  ·
    rintro a w_16 ⟨H, HP⟩
    refine w_cut (fun a wv => Sl 88 [(14, (.string (bstr lv))), (15, (.int .i64 0)), (12, (.string (bstr lu))), (13, (.int .i64 0)), (24, (.bool true)), (3, (.int .i64 (pickI k 40))), (11, (.bool true)), (10, (.bool false)), (7, (.pointer (some ⟨b_3, 0, none⟩))), (6, (.pointer (some ⟨b_1, 0, none⟩))), (4, (.bool true))] a ∧ Hp w wv [bx b_3 28 [(.int .i64 U.channel), (.int .i64 (IntKind.i64.wrap (U.frame + (pickI k 40)))), (.int .i64 V.version), (.int .i64 V.item), (.int .i64 V.index), (.bool V.key), (.string (bstr V.data)), (.int .i64 V.regions), (.int .i64 V.gain), (.string (bstr V.caption)), (.int .i64 V.os), (.int .i64 V.of), (.slice Bv V.al.length cv)] true, bx b_1 28 [(.int .i64 U.channel), (.int .i64 U.frame), (.int .i64 U.version), (.int .i64 U.item), (.int .i64 U.index), (.bool U.key), (.string (bstr U.data)), (.int .i64 U.regions), (.int .i64 U.gain), (.string (bstr U.caption)), (.int .i64 U.os), (.int .i64 U.of), (.slice Bu U.al.length cu)] true] [⟨rowFp V.al.length Bv, fun w => IsAlts w Bv V.al.length V.al⟩, ⟨rowFp U.al.length Bu, fun w => IsAlts w Bu U.al.length U.al⟩]) ?_ ?_
    ·
      refine An.start (fun v => Hp w v [bx b_3 28 [(.int .i64 U.channel), (.int .i64 (IntKind.i64.wrap (U.frame + (pickI k 40)))), (.int .i64 V.version), (.int .i64 V.item), (.int .i64 V.index), (.bool V.key), (.string (bstr V.data)), (.int .i64 V.regions), (.int .i64 V.gain), (.string (bstr V.caption)), (.int .i64 V.os), (.int .i64 V.of), (.slice Bv V.al.length cv)] true, bx b_1 28 [(.int .i64 U.channel), (.int .i64 U.frame), (.int .i64 U.version), (.int .i64 U.item), (.int .i64 U.index), (.bool U.key), (.string (bstr U.data)), (.int .i64 U.regions), (.int .i64 U.gain), (.string (bstr U.caption)), (.int .i64 U.os), (.int .i64 U.of), (.slice Bu U.al.length cu)] true] [⟨rowFp V.al.length Bv, fun w => IsAlts w Bv V.al.length V.al⟩, ⟨rowFp U.al.length Bu, fun w => IsAlts w Bu U.al.length U.al⟩]) 9 9 HP wide_follows rfl ?_
      intro w_17 HP
      refine An.pure H (.inr (HP)) 0 41 (.int .i64 c) rfl (by kernel_rfl) (by kernel_rfl) (fun _ _ _ h => h) (fun _ => by kernel_rfl) ?_
      intro a H
      refine An.val H (HP) 2 43 (.agg #[(.int .i64 U.channel), (.int .i64 (IntKind.i64.wrap (U.frame + (pickI k 40)))), (.int .i64 V.version), (.int .i64 V.item), (.int .i64 V.index), (.bool V.key), (.string (bstr V.data)), (.int .i64 V.regions), (.int .i64 V.gain), (.string (bstr V.caption)), (.int .i64 V.os), (.int .i64 V.of), (.slice Bv V.al.length cv)]) rfl (by kernel_rfl) (by kernel_rfl) (fun _ _ _ h => h) (fun _ hS => ex_loadN (vs := [(.int .i64 U.channel), (.int .i64 (IntKind.i64.wrap (U.frame + (pickI k 40)))), (.int .i64 V.version), (.int .i64 V.item), (.int .i64 V.index), (.bool V.key), (.string (bstr V.data)), (.int .i64 V.regions), (.int .i64 V.gain), (.string (bstr V.caption)), (.int .i64 V.os), (.int .i64 V.of), (.slice Bv V.al.length cv)]) (by kernel_rfl) (by kernel_rfl) (by kernel_rfl) rfl (hS.cells 0 rfl 0 13 (by kernel_rfl))) ?_
      intro a H
      refine An.one 1 (by kernel_rfl) ?_
      refine Op.call H 42 rfl (by kernel_rfl) (Eq.trans (by kernel_rfl : _ = (callFunc 14 #[(.int .i64 c)]).run Tryd.prog w_17) (Tryd.call14 _ _)) (rate_any c w_17 hc) ?_
      rintro e w_18 ⟨rfl, hb⟩
      refine ⟨_, rfl, ?_⟩
      intro a H
      have HP := HP.next hb
      refine ⟨.inr (HP), ?_⟩
      refine An.one 3 (by kernel_rfl) ?_
      refine Op.call H 44 rfl (by kernel_rfl) (Eq.trans (by kernel_rfl : _ = (callFunc 16 #[(.agg #[(.int .i64 ((rateP c).1)), (.int .i64 ((rateP c).2))]), (.agg #[(.int .i64 U.channel), (.int .i64 (IntKind.i64.wrap (U.frame + (pickI k 40)))), (.int .i64 V.version), (.int .i64 V.item), (.int .i64 V.index), (.bool V.key), (.string (bstr V.data)), (.int .i64 V.regions), (.int .i64 V.gain), (.string (bstr V.caption)), (.int .i64 V.os), (.int .i64 V.of), (.slice Bv V.al.length cv)])]).run Tryd.prog w_18) (Tryd.call16 _ _)) ((by have hh := pack_any ((rateP c).1) ((rateP c).2) (⟨U.channel, IntKind.i64.wrap (U.frame + (pickI k 40)), V.version, V.item, V.index, V.key, V.data, V.regions, V.gain, V.caption, V.os, V.of, Bv, cv, V.al⟩ : Un) w_18 (hL.below (HP.below (by kernel_rfl))) (HP.fact 0 rfl) (Nat.le_trans hcav hcbv); rw [hZv Bv cv] at hh; exact hh)) ?_
      rintro e w_19 ⟨rfl, hb⟩
      refine ⟨_, rfl, ?_⟩
      intro a H
      have HP := HP.next hb
      refine ⟨.inr (HP), ?_⟩
      refine An.pure H (.inr (HP)) 4 40 (.tuple #[(.string (bstr lv)), (.int .i64 0)]) rfl (by kernel_rfl) (by kernel_rfl) (fun _ _ _ h => h) (fun _ => by kernel_rfl) ?_
      intro a H
      refine An.pure H (.inr (HP)) 5 45 (.string (bstr lv)) rfl (by kernel_rfl) (by kernel_rfl) (fun _ _ _ h => h) (fun _ => by kernel_rfl) ?_
      intro a H
      refine An.pure H (.inr (HP)) 6 46 (.int .i64 0) rfl (by kernel_rfl) (by kernel_rfl) (fun _ _ _ h => h) (fun _ => by kernel_rfl) ?_
      intro a H
      refine An.pure H (.inr (HP)) 7 14 (.string (bstr lv)) rfl (by kernel_rfl) (by kernel_rfl) (fun _ _ _ h => h) (fun _ => by kernel_rfl) ?_
      intro a H
      refine An.pure H (.inr (HP)) 8 15 (.int .i64 0) rfl (by kernel_rfl) (by kernel_rfl) (fun _ _ _ h => h) (fun _ => by kernel_rfl) ?_
      intro a H
      refine An.done (by kernel_rfl) ?_
      have H := H.keep (L' := [(15, (.int .i64 0)), (14, (.string (bstr lv))), (12, (.string (bstr lu))), (13, (.int .i64 0)), (24, (.bool true)), (3, (.int .i64 (pickI k 40))), (11, (.bool true)), (10, (.bool false)), (7, (.pointer (some ⟨b_3, 0, none⟩))), (6, (.pointer (some ⟨b_1, 0, none⟩))), (0, (.int .i64 c)), (4, (.bool true))]) (by kernel_rfl)
      refine then_normal ?_
      exact ⟨H.keep (by kernel_rfl), HP⟩
    ·
      rintro a w_20 ⟨H, HP⟩
      refine wp_seq ?_
      refine wp_seq ?_
      refine w_region ?_
      refine H.val 47 (.int .i64 0) (by kernel_rfl) (by kernel_rfl) ?_
      intro a H
      refine H.val 48 (.bool false) (by kernel_rfl) (by kernel_rfl) ?_
      intro a H
      refine H.val 49 (.bool false) (by kernel_rfl) (by kernel_rfl) ?_
      intro a H
      refine H.val 50 (.int .i64 0) (by kernel_rfl) (by kernel_rfl) ?_
      intro a H
      refine H.val 51 (.bool false) (by kernel_rfl) (by kernel_rfl) ?_
      intro a H
      refine H.val 52 (.bool false) (by kernel_rfl) (by kernel_rfl) ?_
      intro a H
      refine wpList_nil ?_
      refine then_normal ?_
      refine w_iff H rfl ?_
      refine wp_skip ?_
      refine then_normal ?_
      refine wp_seq ?_
      refine w_region ?_
      refine H.val 54 (.pointer (some ⟨b_1, 0, none⟩)) (by kernel_rfl) (by kernel_rfl) ?_
      intro a H
      refine H.val 55 (.int .i64 U.channel) (by kernel_rfl) (ex_load1 (by kernel_rfl) (by kernel_rfl) (HP.cell 1 rfl 0 rfl)) ?_
      intro a H
      refine H.val 56 (.pointer (some ⟨b_3, 0, none⟩)) (by kernel_rfl) (by kernel_rfl) ?_
      intro a H
      refine H.val 57 (.int .i64 U.channel) (by kernel_rfl) (ex_load1 (by kernel_rfl) (by kernel_rfl) (HP.cell 0 rfl 0 rfl)) ?_
      intro a H
      refine H.valE 58 (.bool (U.channel == U.channel)) (.bool true) (by kernel_rfl) (by kernel_rfl) ((congrArg Value.bool (hch))) ?_
      intro a H
      refine H.val 59 (.bool true) (by kernel_rfl) (by kernel_rfl) ?_
      intro a H
      refine H.val 60 (.pointer (some ⟨b_1, 1, none⟩)) (by kernel_rfl) (by kernel_rfl) ?_
      intro a H
      refine H.val 61 (.int .i64 U.frame) (by kernel_rfl) (ex_load1 (by kernel_rfl) (by kernel_rfl) (HP.cell 1 rfl 1 rfl)) ?_
      intro a H
      refine H.valE 62 (.int .i64 (IntKind.i64.wrap (U.frame + 1))) (.int .i64 (U.frame + 1)) (by kernel_rfl) (by kernel_rfl) ((by rw [wrap_ini64 _ (by omega)])) ?_
      intro a H
      refine H.valE 63 (.int .i64 ((U.frame + 1).tmod 16)) (.int .i64 ((U.frame + 1) % 16)) (by kernel_rfl) (by kernel_rfl) ((by rw [tmod_nn _ _ (by omega)])) ?_
      intro a H
      refine H.val 64 (.pointer (some ⟨b_3, 1, none⟩)) (by kernel_rfl) (by kernel_rfl) ?_
      intro a H
      refine H.val 65 (.int .i64 (IntKind.i64.wrap (U.frame + (pickI k 40)))) (by kernel_rfl) (ex_load1 (by kernel_rfl) (by kernel_rfl) (HP.cell 0 rfl 1 rfl)) ?_
      intro a H
      refine H.valE 66 (.int .i64 ((IntKind.i64.wrap (U.frame + (pickI k 40))).tmod 16)) (.int .i64 ((IntKind.i64.wrap (U.frame + (pickI k 40))) % 16)) (by kernel_rfl) (by kernel_rfl) ((by rw [tmod_nn _ _ (by omega)])) ?_
      intro a H
      refine H.valE 67 (.bool ((U.frame + 1) % 16 == (IntKind.i64.wrap (U.frame + pickI k 40)) % 16)) (.bool false) (by kernel_rfl) (by kernel_rfl) ((congrArg Value.bool (hfr))) ?_
      intro a H
      refine H.val 68 (.bool false) (by kernel_rfl) (by kernel_rfl) ?_
      intro a H
      refine H.val 16 (.bool false) (by kernel_rfl) (by kernel_rfl) ?_
      intro a H
      refine wpList_nil ?_
      have H := H.keep (L' := [(16, (.bool false)), (52, (.bool false)), (51, (.bool false)), (50, (.int .i64 0)), (49, (.bool false)), (48, (.bool false)), (47, (.int .i64 0)), (14, (.string (bstr lv))), (15, (.int .i64 0)), (12, (.string (bstr lu))), (13, (.int .i64 0)), (24, (.bool true)), (3, (.int .i64 (pickI k 40))), (11, (.bool true)), (10, (.bool false)), (7, (.pointer (some ⟨b_3, 0, none⟩))), (6, (.pointer (some ⟨b_1, 0, none⟩))), (4, (.bool true))]) (by kernel_rfl)
      refine then_normal ?_
      refine wp_seq ?_
      refine wp_seq ?_
      refine w_region ?_
      refine H.val 69 (.string (bstr lu)) (by kernel_rfl) (by kernel_rfl) ?_
      intro a H
      refine H.val 70 (.string (bstr lv)) (by kernel_rfl) (by kernel_rfl) ?_
      intro a H
      refine H.call 71 (by kernel_rfl) (Eq.trans (by kernel_rfl : _ = (callFunc 24 #[(.string (bstr lu)), (.string (bstr lv))]).run Tryd.prog w_20) (Tryd.call24 _ _)) ((by have hh := follows_any lu lv w_20 (by omega) (by omega); rw [hfw] at hh; exact hh)) ?_
      rintro e w_21 ⟨rfl, hb⟩
      refine ⟨_, rfl, ?_⟩
      intro a H
      have HP := HP.next hb
      refine H.val 72 (.bool false) (by kernel_rfl) (by kernel_rfl) ?_
      intro a H
      refine H.val 73 (.bool false) (by kernel_rfl) (by kernel_rfl) ?_
      intro a H
      refine wpList_nil ?_
      refine then_normal ?_
      refine w_iff H rfl ?_
      refine wp_skip ?_
      refine then_normal ?_
      refine wp_seq ?_
      refine w_region ?_
      refine H.val 74 (.bool true) (by kernel_rfl) (by kernel_rfl) ?_
      intro a H
      refine H.val 75 (.bool true) (by kernel_rfl) (by kernel_rfl) ?_
      intro a H
      refine H.val 76 (.bool true) (by kernel_rfl) (by kernel_rfl) ?_
      intro a H
      refine H.val 77 (.bool false) (by kernel_rfl) (by kernel_rfl) ?_
      intro a H
      refine H.val 78 (.bool false) (by kernel_rfl) (by kernel_rfl) ?_
      intro a H
      refine H.val 79 (.int .i64 (pickI k 40)) (by kernel_rfl) (by kernel_rfl) ?_
      intro a H
      refine H.valE 80 (.bool (pickI k 40 != 1)) (.bool true) (by kernel_rfl) (by kernel_rfl) ((congrArg Value.bool hk1)) ?_
      intro a H
      refine H.val 81 (.bool true) (by kernel_rfl) (by kernel_rfl) ?_
      intro a H
      refine H.val 82 (.bool true) (by kernel_rfl) (by kernel_rfl) ?_
      intro a H
      refine H.skip 83 (by kernel_rfl) ?_
      intro a H
      refine H.skip 84 (by kernel_rfl) ?_
      intro a H
      refine H.skip 85 (by kernel_rfl) ?_
      intro a H
      refine H.val 86 (.bool true) (by kernel_rfl) (by kernel_rfl) ?_
      intro a H
      refine H.val 87 (.bool true) (by kernel_rfl) (by kernel_rfl) ?_
      intro a H
      refine H.val 10 (.bool true) (by kernel_rfl) (by kernel_rfl) ?_
      intro a H
      refine wpList_nil ?_
      have H := H.keep (L' := [(10, (.bool true)), (73, (.bool false)), (72, (.bool false)), (71, (.bool false)), (70, (.string (bstr lv))), (69, (.string (bstr lu))), (16, (.bool false)), (52, (.bool false)), (51, (.bool false)), (50, (.int .i64 0)), (49, (.bool false)), (48, (.bool false)), (47, (.int .i64 0)), (14, (.string (bstr lv))), (15, (.int .i64 0)), (12, (.string (bstr lu))), (13, (.int .i64 0)), (24, (.bool true)), (3, (.int .i64 (pickI k 40))), (11, (.bool true)), (7, (.pointer (some ⟨b_3, 0, none⟩))), (6, (.pointer (some ⟨b_1, 0, none⟩))), (4, (.bool true))]) (by kernel_rfl)
      refine then_normal ?_
      refine wp_ret ?_
      refine H.ret1 (fn := Tryd.f11) Tryd.results11 (RV.tmp_ (v := (.bool true)) (by kernel_rfl)) ?_
      exact ⟨rfl, (HP.below (by kernel_rfl))⟩
set_option maxRecDepth 100000 in
set_option maxHeartbeats 4000000 in
theorem fol_fn (c k : Int) (u v U V : Un) (w : World) (hU : shortU u = U) (hV : shortU v = V) (hL : Laid w) (hc : -9223372036854775808 ≤ c ∧ c ≤ 9223372036854775807) (hk : -9223372036854775808 ≤ k ∧ k ≤ 9223372036854775807) (huu : IsAlts w u.A u.al.length u.al) (hcu : u.al.length ≤ u.c) (hAu : u.A = none → u.c = 0) (huv : IsAlts w v.A v.al.length v.al) (hcv : v.al.length ≤ v.c) (hAv : v.A = none → v.c = 0) (Zv : Option (List UInt8)) (hZu : ∀ B c', packP (rateP c).1 (rateP c).2 ({ U with A := B, c := c' } : Un) = none) (hZv : ∀ B c', packP (rateP c).1 (rateP c).2 ({ V with A := B, c := c' } : Un) = Zv) :
    Calls Tryd.prog 11 #[.int .i64 c, u.val, v.val, .int .i64 k, .bool false] w fun e w' => e = .returned (.bool true) ∧ Below w.heap.size w w' := by
  have HP := Hp.start w
  have hp40 := pickI_lt k 40 (by omega)
  refine w_enter 88 [(0, (.int .i64 c)), (1, (.agg #[(.int .i64 u.channel), (.int .i64 u.frame), (.int .i64 u.version), (.int .i64 u.item), (.int .i64 u.index), (.bool u.key), (.string (bstr u.data)), (.int .i64 u.regions), (.int .i64 u.gain), (.string (bstr u.caption)), (.int .i64 u.os), (.int .i64 u.of), (.slice u.A u.al.length u.c)])), (2, (.agg #[(.int .i64 v.channel), (.int .i64 v.frame), (.int .i64 v.version), (.int .i64 v.item), (.int .i64 v.index), (.bool v.key), (.string (bstr v.data)), (.int .i64 v.regions), (.int .i64 v.gain), (.string (bstr v.caption)), (.int .i64 v.os), (.int .i64 v.of), (.slice v.A v.al.length v.c)])), (3, (.int .i64 k)), (4, (.bool false))] Tryd.func11 rfl Tryd.ntmps11 (by kernel_rfl) (by kernel_rfl) ?_
  intro a H
  refine wp_seq ?_
  refine w_region ?_
  refine H.alloc HP 6 (fun b => (.pointer (some ⟨b, 0, none⟩))) 28 [(.int .i64 u.channel), (.int .i64 u.frame), (.int .i64 u.version), (.int .i64 u.item), (.int .i64 u.index), (.bool u.key), (.string (bstr u.data)), (.int .i64 u.regions), (.int .i64 u.gain), (.string (bstr u.caption)), (.int .i64 u.os), (.int .i64 u.of), (.slice u.A u.al.length u.c)] (by kernel_rfl) (fun w => by kernel_rfl) ?_
  intro b_1 w_2 a H HP
  refine H.alloc HP 7 (fun b => (.pointer (some ⟨b, 0, none⟩))) 28 [(.int .i64 v.channel), (.int .i64 v.frame), (.int .i64 v.version), (.int .i64 v.item), (.int .i64 v.index), (.bool v.key), (.string (bstr v.data)), (.int .i64 v.regions), (.int .i64 v.gain), (.string (bstr v.caption)), (.int .i64 v.os), (.int .i64 v.of), (.slice v.A v.al.length v.c)] (by kernel_rfl) (fun w => by kernel_rfl) ?_
  intro b_3 w_4 a H HP
  refine H.val 10 (.bool false) (by kernel_rfl) (by kernel_rfl) ?_
  intro a H
  refine wpList_nil ?_
  refine then_normal ?_
  refine wp_seq ?_
  refine w_region ?_
  refine H.call 17 (by kernel_rfl) (Eq.trans (by kernel_rfl : _ = (callFunc 13 #[]).run Tryd.prog w_4) (Tryd.call13 _ _)) (sane_any w_4 (hL.below (HP.below (by kernel_rfl)))) ?_
  rintro e w_5 ⟨rfl, hb⟩
  refine ⟨_, rfl, ?_⟩
  intro a H
  have HP := HP.next hb
  refine H.val 11 (.bool true) (by kernel_rfl) (by kernel_rfl) ?_
  intro a H
  refine wpList_nil ?_
  refine then_normal ?_
  refine wp_seq ?_
  refine w_region ?_
  refine H.val 18 (.agg #[(.int .i64 u.channel), (.int .i64 u.frame), (.int .i64 u.version), (.int .i64 u.item), (.int .i64 u.index), (.bool u.key), (.string (bstr u.data)), (.int .i64 u.regions), (.int .i64 u.gain), (.string (bstr u.caption)), (.int .i64 u.os), (.int .i64 u.of), (.slice u.A u.al.length u.c)]) (by kernel_rfl) (ex_loadN (vs := [(.int .i64 u.channel), (.int .i64 u.frame), (.int .i64 u.version), (.int .i64 u.item), (.int .i64 u.index), (.bool u.key), (.string (bstr u.data)), (.int .i64 u.regions), (.int .i64 u.gain), (.string (bstr u.caption)), (.int .i64 u.os), (.int .i64 u.of), (.slice u.A u.al.length u.c)]) (by kernel_rfl) (by kernel_rfl) (by kernel_rfl) rfl (HP.cells 1 rfl 0 13 (by kernel_rfl))) ?_
  intro a H
  refine H.call 19 (by kernel_rfl) (Eq.trans (by kernel_rfl : _ = (callFunc 15 #[(.agg #[(.int .i64 u.channel), (.int .i64 u.frame), (.int .i64 u.version), (.int .i64 u.item), (.int .i64 u.index), (.bool u.key), (.string (bstr u.data)), (.int .i64 u.regions), (.int .i64 u.gain), (.string (bstr u.caption)), (.int .i64 u.os), (.int .i64 u.of), (.slice u.A u.al.length u.c)])]).run Tryd.prog w_5) (Tryd.call15 _ _)) (short_anyU hU (short_any u w_5 (huu.below (HP.below (by kernel_rfl))) hcu hAu)) ?_
  rintro e w_6 ⟨Bu, cu, rfl, halu, hcau, hcbu, hccu, hfru, hb⟩
  refine ⟨_, rfl, ?_⟩
  intro a H
  have HP := (HP.next hb).keepF ⟨rowFp U.al.length Bu, fun w => IsAlts w Bu U.al.length U.al⟩ halu (fun _ _ h hk hs => ⟨h.1, h.2.keep hk hs⟩) (fun j hj => row_sep HP halu.2 hfru hj)
  refine H.store HP 1 b_1 0 13 28 [(.int .i64 u.channel), (.int .i64 u.frame), (.int .i64 u.version), (.int .i64 u.item), (.int .i64 u.index), (.bool u.key), (.string (bstr u.data)), (.int .i64 u.regions), (.int .i64 u.gain), (.string (bstr u.caption)), (.int .i64 u.os), (.int .i64 u.of), (.slice u.A u.al.length u.c)] true (.agg #[(.int .i64 U.channel), (.int .i64 U.frame), (.int .i64 U.version), (.int .i64 U.item), (.int .i64 U.index), (.bool U.key), (.string (bstr U.data)), (.int .i64 U.regions), (.int .i64 U.gain), (.string (bstr U.caption)), (.int .i64 U.os), (.int .i64 U.of), (.slice Bu U.al.length cu)]) [bx b_3 28 [(.int .i64 v.channel), (.int .i64 v.frame), (.int .i64 v.version), (.int .i64 v.item), (.int .i64 v.index), (.bool v.key), (.string (bstr v.data)), (.int .i64 v.regions), (.int .i64 v.gain), (.string (bstr v.caption)), (.int .i64 v.os), (.int .i64 v.of), (.slice v.A v.al.length v.c)] true, bx b_1 28 [(.int .i64 U.channel), (.int .i64 U.frame), (.int .i64 U.version), (.int .i64 U.item), (.int .i64 U.index), (.bool U.key), (.string (bstr U.data)), (.int .i64 U.regions), (.int .i64 U.gain), (.string (bstr U.caption)), (.int .i64 U.os), (.int .i64 U.of), (.slice Bu U.al.length cu)] true] (by kernel_rfl) (by kernel_rfl) (by kernel_rfl) rfl (by kernel_rfl) (by kernel_rfl) (by kernel_rfl) (by kernel_rfl) (by kernel_rfl) ?_
  intro w_7 a H HP
  refine wpList_nil ?_
  refine then_normal ?_
  refine wp_seq ?_
  refine w_region ?_
  refine H.val 20 (.agg #[(.int .i64 v.channel), (.int .i64 v.frame), (.int .i64 v.version), (.int .i64 v.item), (.int .i64 v.index), (.bool v.key), (.string (bstr v.data)), (.int .i64 v.regions), (.int .i64 v.gain), (.string (bstr v.caption)), (.int .i64 v.os), (.int .i64 v.of), (.slice v.A v.al.length v.c)]) (by kernel_rfl) (ex_loadN (vs := [(.int .i64 v.channel), (.int .i64 v.frame), (.int .i64 v.version), (.int .i64 v.item), (.int .i64 v.index), (.bool v.key), (.string (bstr v.data)), (.int .i64 v.regions), (.int .i64 v.gain), (.string (bstr v.caption)), (.int .i64 v.os), (.int .i64 v.of), (.slice v.A v.al.length v.c)]) (by kernel_rfl) (by kernel_rfl) (by kernel_rfl) rfl (HP.cells 0 rfl 0 13 (by kernel_rfl))) ?_
  intro a H
  refine H.call 21 (by kernel_rfl) (Eq.trans (by kernel_rfl : _ = (callFunc 15 #[(.agg #[(.int .i64 v.channel), (.int .i64 v.frame), (.int .i64 v.version), (.int .i64 v.item), (.int .i64 v.index), (.bool v.key), (.string (bstr v.data)), (.int .i64 v.regions), (.int .i64 v.gain), (.string (bstr v.caption)), (.int .i64 v.os), (.int .i64 v.of), (.slice v.A v.al.length v.c)])]).run Tryd.prog w_7) (Tryd.call15 _ _)) (short_anyU hV (short_any v w_7 (huv.below (HP.below (by kernel_rfl))) hcv hAv)) ?_
  rintro e w_8 ⟨Bv, cv, rfl, halv, hcav, hcbv, hccv, hfrv, hb⟩
  refine ⟨_, rfl, ?_⟩
  intro a H
  have HP := (HP.next hb).keepF ⟨rowFp V.al.length Bv, fun w => IsAlts w Bv V.al.length V.al⟩ halv (fun _ _ h hk hs => ⟨h.1, h.2.keep hk hs⟩) (fun j hj => row_sep HP halv.2 hfrv hj)
  refine H.store HP 0 b_3 0 13 28 [(.int .i64 v.channel), (.int .i64 v.frame), (.int .i64 v.version), (.int .i64 v.item), (.int .i64 v.index), (.bool v.key), (.string (bstr v.data)), (.int .i64 v.regions), (.int .i64 v.gain), (.string (bstr v.caption)), (.int .i64 v.os), (.int .i64 v.of), (.slice v.A v.al.length v.c)] true (.agg #[(.int .i64 V.channel), (.int .i64 V.frame), (.int .i64 V.version), (.int .i64 V.item), (.int .i64 V.index), (.bool V.key), (.string (bstr V.data)), (.int .i64 V.regions), (.int .i64 V.gain), (.string (bstr V.caption)), (.int .i64 V.os), (.int .i64 V.of), (.slice Bv V.al.length cv)]) [bx b_3 28 [(.int .i64 V.channel), (.int .i64 V.frame), (.int .i64 V.version), (.int .i64 V.item), (.int .i64 V.index), (.bool V.key), (.string (bstr V.data)), (.int .i64 V.regions), (.int .i64 V.gain), (.string (bstr V.caption)), (.int .i64 V.os), (.int .i64 V.of), (.slice Bv V.al.length cv)] true, bx b_1 28 [(.int .i64 U.channel), (.int .i64 U.frame), (.int .i64 U.version), (.int .i64 U.item), (.int .i64 U.index), (.bool U.key), (.string (bstr U.data)), (.int .i64 U.regions), (.int .i64 U.gain), (.string (bstr U.caption)), (.int .i64 U.os), (.int .i64 U.of), (.slice Bu U.al.length cu)] true] (by kernel_rfl) (by kernel_rfl) (by kernel_rfl) rfl (by kernel_rfl) (by kernel_rfl) (by kernel_rfl) (by kernel_rfl) (by kernel_rfl) ?_
  intro w_9 a H HP
  refine wpList_nil ?_
  refine then_normal ?_
  refine wp_seq ?_
  refine w_region ?_
  refine H.val 22 (.int .i64 k) (by kernel_rfl) (by kernel_rfl) ?_
  intro a H
  refine H.call 23 (by kernel_rfl) (Eq.trans (by kernel_rfl : _ = (callFunc 27 #[(.int .i64 k), (.int .i64 40)]).run Tryd.prog w_9) (Tryd.call27 _ _)) (pick_any k 40 w_9 (by omega) (by omega)) ?_
  rintro e w_10 ⟨rfl, rfl⟩
  refine ⟨_, rfl, ?_⟩
  intro a H
  refine H.val 3 (.int .i64 (pickI k 40)) (by kernel_rfl) (by kernel_rfl) ?_
  intro a H
  refine wpList_nil ?_
  refine then_normal ?_
  refine wp_seq ?_
  refine wp_seq ?_
  refine w_region ?_
  refine H.val 24 (.bool false) (by kernel_rfl) (by kernel_rfl) ?_
  intro a H
  refine wpList_nil ?_
  refine then_normal ?_
  refine w_iff H rfl ?_
  refine wp_skip ?_
  refine then_normal ?_
  refine w_cut (fun a wv => Sl 88 [(12, (.string (bstr ([])))), (13, (.int .i64 180)), (24, (.bool false)), (3, (.int .i64 (pickI k 40))), (11, (.bool true)), (10, (.bool false)), (7, (.pointer (some ⟨b_3, 0, none⟩))), (6, (.pointer (some ⟨b_1, 0, none⟩))), (0, (.int .i64 c)), (4, (.bool false))] a ∧ Hp w wv [bx b_3 28 [(.int .i64 V.channel), (.int .i64 V.frame), (.int .i64 V.version), (.int .i64 V.item), (.int .i64 V.index), (.bool V.key), (.string (bstr V.data)), (.int .i64 V.regions), (.int .i64 V.gain), (.string (bstr V.caption)), (.int .i64 V.os), (.int .i64 V.of), (.slice Bv V.al.length cv)] true, bx b_1 28 [(.int .i64 U.channel), (.int .i64 U.frame), (.int .i64 U.version), (.int .i64 U.item), (.int .i64 U.index), (.bool U.key), (.string (bstr U.data)), (.int .i64 U.regions), (.int .i64 U.gain), (.string (bstr U.caption)), (.int .i64 U.os), (.int .i64 U.of), (.slice Bu U.al.length cu)] true] [⟨rowFp V.al.length Bv, fun w => IsAlts w Bv V.al.length V.al⟩, ⟨rowFp U.al.length Bu, fun w => IsAlts w Bu U.al.length U.al⟩]) ?_ ?_
  ·
    refine An.start (fun v => Hp w v [bx b_3 28 [(.int .i64 V.channel), (.int .i64 V.frame), (.int .i64 V.version), (.int .i64 V.item), (.int .i64 V.index), (.bool V.key), (.string (bstr V.data)), (.int .i64 V.regions), (.int .i64 V.gain), (.string (bstr V.caption)), (.int .i64 V.os), (.int .i64 V.of), (.slice Bv V.al.length cv)] true, bx b_1 28 [(.int .i64 U.channel), (.int .i64 U.frame), (.int .i64 U.version), (.int .i64 U.item), (.int .i64 U.index), (.bool U.key), (.string (bstr U.data)), (.int .i64 U.regions), (.int .i64 U.gain), (.string (bstr U.caption)), (.int .i64 U.os), (.int .i64 U.of), (.slice Bu U.al.length cu)] true] [⟨rowFp V.al.length Bv, fun w => IsAlts w Bv V.al.length V.al⟩, ⟨rowFp U.al.length Bu, fun w => IsAlts w Bu U.al.length U.al⟩]) 9 9 HP wide_follows rfl ?_
    intro w_11 HP
    refine An.pure H (.inr (HP)) 0 34 (.int .i64 c) rfl (by kernel_rfl) (by kernel_rfl) (fun _ _ _ h => h) (fun _ => by kernel_rfl) ?_
    intro a H
    refine An.val H (HP) 2 36 (.agg #[(.int .i64 U.channel), (.int .i64 U.frame), (.int .i64 U.version), (.int .i64 U.item), (.int .i64 U.index), (.bool U.key), (.string (bstr U.data)), (.int .i64 U.regions), (.int .i64 U.gain), (.string (bstr U.caption)), (.int .i64 U.os), (.int .i64 U.of), (.slice Bu U.al.length cu)]) rfl (by kernel_rfl) (by kernel_rfl) (fun _ _ _ h => h) (fun _ hS => ex_loadN (vs := [(.int .i64 U.channel), (.int .i64 U.frame), (.int .i64 U.version), (.int .i64 U.item), (.int .i64 U.index), (.bool U.key), (.string (bstr U.data)), (.int .i64 U.regions), (.int .i64 U.gain), (.string (bstr U.caption)), (.int .i64 U.os), (.int .i64 U.of), (.slice Bu U.al.length cu)]) (by kernel_rfl) (by kernel_rfl) (by kernel_rfl) rfl (hS.cells 1 rfl 0 13 (by kernel_rfl))) ?_
    intro a H
    refine An.one 1 (by kernel_rfl) ?_
    refine Op.call H 35 rfl (by kernel_rfl) (Eq.trans (by kernel_rfl : _ = (callFunc 14 #[(.int .i64 c)]).run Tryd.prog w_11) (Tryd.call14 _ _)) (rate_any c w_11 hc) ?_
    rintro e w_12 ⟨rfl, hb⟩
    refine ⟨_, rfl, ?_⟩
    intro a H
    have HP := HP.next hb
    refine ⟨.inr (HP), ?_⟩
    refine An.one 3 (by kernel_rfl) ?_
    refine Op.call H 37 rfl (by kernel_rfl) (Eq.trans (by kernel_rfl : _ = (callFunc 16 #[(.agg #[(.int .i64 ((rateP c).1)), (.int .i64 ((rateP c).2))]), (.agg #[(.int .i64 U.channel), (.int .i64 U.frame), (.int .i64 U.version), (.int .i64 U.item), (.int .i64 U.index), (.bool U.key), (.string (bstr U.data)), (.int .i64 U.regions), (.int .i64 U.gain), (.string (bstr U.caption)), (.int .i64 U.os), (.int .i64 U.of), (.slice Bu U.al.length cu)])]).run Tryd.prog w_12) (Tryd.call16 _ _)) ((by have hh := pack_any ((rateP c).1) ((rateP c).2) (⟨U.channel, U.frame, U.version, U.item, U.index, U.key, U.data, U.regions, U.gain, U.caption, U.os, U.of, Bu, cu, U.al⟩ : Un) w_12 (hL.below (HP.below (by kernel_rfl))) (HP.fact 1 rfl) (Nat.le_trans hcau hcbu); rw [hZu Bu cu] at hh; exact hh)) ?_
    rintro e w_13 ⟨rfl, hb⟩
    refine ⟨_, rfl, ?_⟩
    intro a H
    have HP := HP.next hb
    refine ⟨.inr (HP), ?_⟩
    refine An.pure H (.inr (HP)) 4 33 (.tuple #[(.string (bstr ([]))), (.int .i64 180)]) rfl (by kernel_rfl) (by kernel_rfl) (fun _ _ _ h => h) (fun _ => by kernel_rfl) ?_
    intro a H
    refine An.pure H (.inr (HP)) 5 38 (.string (bstr ([]))) rfl (by kernel_rfl) (by kernel_rfl) (fun _ _ _ h => h) (fun _ => by kernel_rfl) ?_
    intro a H
    refine An.pure H (.inr (HP)) 6 39 (.int .i64 180) rfl (by kernel_rfl) (by kernel_rfl) (fun _ _ _ h => h) (fun _ => by kernel_rfl) ?_
    intro a H
    refine An.pure H (.inr (HP)) 7 12 (.string (bstr ([]))) rfl (by kernel_rfl) (by kernel_rfl) (fun _ _ _ h => h) (fun _ => by kernel_rfl) ?_
    intro a H
    refine An.pure H (.inr (HP)) 8 13 (.int .i64 180) rfl (by kernel_rfl) (by kernel_rfl) (fun _ _ _ h => h) (fun _ => by kernel_rfl) ?_
    intro a H
    refine An.done (by kernel_rfl) ?_
    have H := H.keep (L' := [(13, (.int .i64 180)), (12, (.string (bstr ([])))), (24, (.bool false)), (3, (.int .i64 (pickI k 40))), (23, (.int .i64 (pickI k 40))), (22, (.int .i64 k)), (21, (.agg #[(.int .i64 V.channel), (.int .i64 V.frame), (.int .i64 V.version), (.int .i64 V.item), (.int .i64 V.index), (.bool V.key), (.string (bstr V.data)), (.int .i64 V.regions), (.int .i64 V.gain), (.string (bstr V.caption)), (.int .i64 V.os), (.int .i64 V.of), (.slice Bv V.al.length cv)])), (20, (.agg #[(.int .i64 v.channel), (.int .i64 v.frame), (.int .i64 v.version), (.int .i64 v.item), (.int .i64 v.index), (.bool v.key), (.string (bstr v.data)), (.int .i64 v.regions), (.int .i64 v.gain), (.string (bstr v.caption)), (.int .i64 v.os), (.int .i64 v.of), (.slice v.A v.al.length v.c)])), (19, (.agg #[(.int .i64 U.channel), (.int .i64 U.frame), (.int .i64 U.version), (.int .i64 U.item), (.int .i64 U.index), (.bool U.key), (.string (bstr U.data)), (.int .i64 U.regions), (.int .i64 U.gain), (.string (bstr U.caption)), (.int .i64 U.os), (.int .i64 U.of), (.slice Bu U.al.length cu)])), (18, (.agg #[(.int .i64 u.channel), (.int .i64 u.frame), (.int .i64 u.version), (.int .i64 u.item), (.int .i64 u.index), (.bool u.key), (.string (bstr u.data)), (.int .i64 u.regions), (.int .i64 u.gain), (.string (bstr u.caption)), (.int .i64 u.os), (.int .i64 u.of), (.slice u.A u.al.length u.c)])), (11, (.bool true)), (17, (.bool true)), (10, (.bool false)), (7, (.pointer (some ⟨b_3, 0, none⟩))), (6, (.pointer (some ⟨b_1, 0, none⟩))), (0, (.int .i64 c)), (1, (.agg #[(.int .i64 u.channel), (.int .i64 u.frame), (.int .i64 u.version), (.int .i64 u.item), (.int .i64 u.index), (.bool u.key), (.string (bstr u.data)), (.int .i64 u.regions), (.int .i64 u.gain), (.string (bstr u.caption)), (.int .i64 u.os), (.int .i64 u.of), (.slice u.A u.al.length u.c)])), (2, (.agg #[(.int .i64 v.channel), (.int .i64 v.frame), (.int .i64 v.version), (.int .i64 v.item), (.int .i64 v.index), (.bool v.key), (.string (bstr v.data)), (.int .i64 v.regions), (.int .i64 v.gain), (.string (bstr v.caption)), (.int .i64 v.os), (.int .i64 v.of), (.slice v.A v.al.length v.c)])), (4, (.bool false))]) (by kernel_rfl)
    refine then_normal ?_
    exact ⟨H.keep (by kernel_rfl), HP⟩
  ·
    rintro a w_14 ⟨H, HP⟩
    refine w_cut (fun a wv => Sl 88 [(14, (.string (bstr (Zv.getD [])))), (15, (.int .i64 (if Zv.isSome = true then 0 else 180 : Int))), (12, (.string (bstr ([])))), (13, (.int .i64 180)), (24, (.bool false)), (3, (.int .i64 (pickI k 40))), (11, (.bool true)), (10, (.bool false)), (7, (.pointer (some ⟨b_3, 0, none⟩))), (6, (.pointer (some ⟨b_1, 0, none⟩))), (4, (.bool false))] a ∧ Hp w wv [bx b_3 28 [(.int .i64 V.channel), (.int .i64 V.frame), (.int .i64 V.version), (.int .i64 V.item), (.int .i64 V.index), (.bool V.key), (.string (bstr V.data)), (.int .i64 V.regions), (.int .i64 V.gain), (.string (bstr V.caption)), (.int .i64 V.os), (.int .i64 V.of), (.slice Bv V.al.length cv)] true, bx b_1 28 [(.int .i64 U.channel), (.int .i64 U.frame), (.int .i64 U.version), (.int .i64 U.item), (.int .i64 U.index), (.bool U.key), (.string (bstr U.data)), (.int .i64 U.regions), (.int .i64 U.gain), (.string (bstr U.caption)), (.int .i64 U.os), (.int .i64 U.of), (.slice Bu U.al.length cu)] true] [⟨rowFp V.al.length Bv, fun w => IsAlts w Bv V.al.length V.al⟩, ⟨rowFp U.al.length Bu, fun w => IsAlts w Bu U.al.length U.al⟩]) ?_ ?_
    ·
      refine An.start (fun v => Hp w v [bx b_3 28 [(.int .i64 V.channel), (.int .i64 V.frame), (.int .i64 V.version), (.int .i64 V.item), (.int .i64 V.index), (.bool V.key), (.string (bstr V.data)), (.int .i64 V.regions), (.int .i64 V.gain), (.string (bstr V.caption)), (.int .i64 V.os), (.int .i64 V.of), (.slice Bv V.al.length cv)] true, bx b_1 28 [(.int .i64 U.channel), (.int .i64 U.frame), (.int .i64 U.version), (.int .i64 U.item), (.int .i64 U.index), (.bool U.key), (.string (bstr U.data)), (.int .i64 U.regions), (.int .i64 U.gain), (.string (bstr U.caption)), (.int .i64 U.os), (.int .i64 U.of), (.slice Bu U.al.length cu)] true] [⟨rowFp V.al.length Bv, fun w => IsAlts w Bv V.al.length V.al⟩, ⟨rowFp U.al.length Bu, fun w => IsAlts w Bu U.al.length U.al⟩]) 9 9 HP wide_follows rfl ?_
      intro w_15 HP
      refine An.pure H (.inr (HP)) 0 41 (.int .i64 c) rfl (by kernel_rfl) (by kernel_rfl) (fun _ _ _ h => h) (fun _ => by kernel_rfl) ?_
      intro a H
      refine An.val H (HP) 2 43 (.agg #[(.int .i64 V.channel), (.int .i64 V.frame), (.int .i64 V.version), (.int .i64 V.item), (.int .i64 V.index), (.bool V.key), (.string (bstr V.data)), (.int .i64 V.regions), (.int .i64 V.gain), (.string (bstr V.caption)), (.int .i64 V.os), (.int .i64 V.of), (.slice Bv V.al.length cv)]) rfl (by kernel_rfl) (by kernel_rfl) (fun _ _ _ h => h) (fun _ hS => ex_loadN (vs := [(.int .i64 V.channel), (.int .i64 V.frame), (.int .i64 V.version), (.int .i64 V.item), (.int .i64 V.index), (.bool V.key), (.string (bstr V.data)), (.int .i64 V.regions), (.int .i64 V.gain), (.string (bstr V.caption)), (.int .i64 V.os), (.int .i64 V.of), (.slice Bv V.al.length cv)]) (by kernel_rfl) (by kernel_rfl) (by kernel_rfl) rfl (hS.cells 0 rfl 0 13 (by kernel_rfl))) ?_
      intro a H
      refine An.one 1 (by kernel_rfl) ?_
      refine Op.call H 42 rfl (by kernel_rfl) (Eq.trans (by kernel_rfl : _ = (callFunc 14 #[(.int .i64 c)]).run Tryd.prog w_15) (Tryd.call14 _ _)) (rate_any c w_15 hc) ?_
      rintro e w_16 ⟨rfl, hb⟩
      refine ⟨_, rfl, ?_⟩
      intro a H
      have HP := HP.next hb
      refine ⟨.inr (HP), ?_⟩
      refine An.one 3 (by kernel_rfl) ?_
      refine Op.call H 44 rfl (by kernel_rfl) (Eq.trans (by kernel_rfl : _ = (callFunc 16 #[(.agg #[(.int .i64 ((rateP c).1)), (.int .i64 ((rateP c).2))]), (.agg #[(.int .i64 V.channel), (.int .i64 V.frame), (.int .i64 V.version), (.int .i64 V.item), (.int .i64 V.index), (.bool V.key), (.string (bstr V.data)), (.int .i64 V.regions), (.int .i64 V.gain), (.string (bstr V.caption)), (.int .i64 V.os), (.int .i64 V.of), (.slice Bv V.al.length cv)])]).run Tryd.prog w_16) (Tryd.call16 _ _)) ((by have hh := pack_any ((rateP c).1) ((rateP c).2) (⟨V.channel, V.frame, V.version, V.item, V.index, V.key, V.data, V.regions, V.gain, V.caption, V.os, V.of, Bv, cv, V.al⟩ : Un) w_16 (hL.below (HP.below (by kernel_rfl))) (HP.fact 0 rfl) (Nat.le_trans hcav hcbv); rw [hZv Bv cv, packV_eq] at hh; exact hh)) ?_
      rintro e w_17 ⟨rfl, hb⟩
      refine ⟨_, rfl, ?_⟩
      intro a H
      have HP := HP.next hb
      refine ⟨.inr (HP), ?_⟩
      refine An.pure H (.inr (HP)) 4 40 (.tuple #[(.string (bstr (Zv.getD []))), (.int .i64 (if Zv.isSome = true then 0 else 180 : Int))]) rfl (by kernel_rfl) (by kernel_rfl) (fun _ _ _ h => h) (fun _ => by kernel_rfl) ?_
      intro a H
      refine An.pure H (.inr (HP)) 5 45 (.string (bstr (Zv.getD []))) rfl (by kernel_rfl) (by kernel_rfl) (fun _ _ _ h => h) (fun _ => by kernel_rfl) ?_
      intro a H
      refine An.pure H (.inr (HP)) 6 46 (.int .i64 (if Zv.isSome = true then 0 else 180 : Int)) rfl (by kernel_rfl) (by kernel_rfl) (fun _ _ _ h => h) (fun _ => by kernel_rfl) ?_
      intro a H
      refine An.pure H (.inr (HP)) 7 14 (.string (bstr (Zv.getD []))) rfl (by kernel_rfl) (by kernel_rfl) (fun _ _ _ h => h) (fun _ => by kernel_rfl) ?_
      intro a H
      refine An.pure H (.inr (HP)) 8 15 (.int .i64 (if Zv.isSome = true then 0 else 180 : Int)) rfl (by kernel_rfl) (by kernel_rfl) (fun _ _ _ h => h) (fun _ => by kernel_rfl) ?_
      intro a H
      refine An.done (by kernel_rfl) ?_
      have H := H.keep (L' := [(15, (.int .i64 (if Zv.isSome = true then 0 else 180 : Int))), (14, (.string (bstr (Zv.getD [])))), (12, (.string (bstr ([])))), (13, (.int .i64 180)), (24, (.bool false)), (3, (.int .i64 (pickI k 40))), (11, (.bool true)), (10, (.bool false)), (7, (.pointer (some ⟨b_3, 0, none⟩))), (6, (.pointer (some ⟨b_1, 0, none⟩))), (0, (.int .i64 c)), (4, (.bool false))]) (by kernel_rfl)
      refine then_normal ?_
      exact ⟨H.keep (by kernel_rfl), HP⟩
    ·
      rintro a w_18 ⟨H, HP⟩
      refine wp_seq ?_
      refine wp_seq ?_
      refine w_region ?_
      refine H.val 47 (.int .i64 180) (by kernel_rfl) (by kernel_rfl) ?_
      intro a H
      refine H.val 48 (.bool true) (by kernel_rfl) (by kernel_rfl) ?_
      intro a H
      refine H.val 49 (.bool true) (by kernel_rfl) (by kernel_rfl) ?_
      intro a H
      refine H.skip 50 (by kernel_rfl) ?_
      intro a H
      refine H.skip 51 (by kernel_rfl) ?_
      intro a H
      refine H.val 52 (.bool true) (by kernel_rfl) (by kernel_rfl) ?_
      intro a H
      refine wpList_nil ?_
      refine then_normal ?_
      refine w_ift H rfl ?_
      refine wp_seq ?_
      refine w_region ?_
      refine H.val 53 (.bool true) (by kernel_rfl) (by kernel_rfl) ?_
      intro a H
      refine H.val 10 (.bool true) (by kernel_rfl) (by kernel_rfl) ?_
      intro a H
      refine wpList_nil ?_
      refine then_normal ?_
      refine wp_ret ?_
      refine then_ret ?_
      refine H.ret1 (fn := Tryd.f11) Tryd.results11 (RV.tmp_ (v := (.bool true)) (by kernel_rfl)) ?_
      exact ⟨rfl, (HP.below (by kernel_rfl))⟩
set_option maxRecDepth 100000 in
set_option maxHeartbeats 4000000 in
theorem fol_fsn (c k : Int) (u v U V : Un) (w : World) (hU : shortU u = U) (hV : shortU v = V) (hL : Laid w) (hc : -9223372036854775808 ≤ c ∧ c ≤ 9223372036854775807) (hk : -9223372036854775808 ≤ k ∧ k ≤ 9223372036854775807) (huu : IsAlts w u.A u.al.length u.al) (hcu : u.al.length ≤ u.c) (hAu : u.A = none → u.c = 0) (huv : IsAlts w v.A v.al.length v.al) (hcv : v.al.length ≤ v.c) (hAv : v.A = none → v.c = 0) (lu : List UInt8) (hZu : ∀ B c', packP (rateP c).1 (rateP c).2 ({ U with A := B, c := c' } : Un) = some lu) (hZv : ∀ B c', packP (rateP c).1 (rateP c).2 ({ V with A := B, c := c' } : Un) = none) :
    Calls Tryd.prog 11 #[.int .i64 c, u.val, v.val, .int .i64 k, .bool false] w fun e w' => e = .returned (.bool true) ∧ Below w.heap.size w w' := by
  have HP := Hp.start w
  have hp40 := pickI_lt k 40 (by omega)
  refine w_enter 88 [(0, (.int .i64 c)), (1, (.agg #[(.int .i64 u.channel), (.int .i64 u.frame), (.int .i64 u.version), (.int .i64 u.item), (.int .i64 u.index), (.bool u.key), (.string (bstr u.data)), (.int .i64 u.regions), (.int .i64 u.gain), (.string (bstr u.caption)), (.int .i64 u.os), (.int .i64 u.of), (.slice u.A u.al.length u.c)])), (2, (.agg #[(.int .i64 v.channel), (.int .i64 v.frame), (.int .i64 v.version), (.int .i64 v.item), (.int .i64 v.index), (.bool v.key), (.string (bstr v.data)), (.int .i64 v.regions), (.int .i64 v.gain), (.string (bstr v.caption)), (.int .i64 v.os), (.int .i64 v.of), (.slice v.A v.al.length v.c)])), (3, (.int .i64 k)), (4, (.bool false))] Tryd.func11 rfl Tryd.ntmps11 (by kernel_rfl) (by kernel_rfl) ?_
  intro a H
  refine wp_seq ?_
  refine w_region ?_
  refine H.alloc HP 6 (fun b => (.pointer (some ⟨b, 0, none⟩))) 28 [(.int .i64 u.channel), (.int .i64 u.frame), (.int .i64 u.version), (.int .i64 u.item), (.int .i64 u.index), (.bool u.key), (.string (bstr u.data)), (.int .i64 u.regions), (.int .i64 u.gain), (.string (bstr u.caption)), (.int .i64 u.os), (.int .i64 u.of), (.slice u.A u.al.length u.c)] (by kernel_rfl) (fun w => by kernel_rfl) ?_
  intro b_1 w_2 a H HP
  refine H.alloc HP 7 (fun b => (.pointer (some ⟨b, 0, none⟩))) 28 [(.int .i64 v.channel), (.int .i64 v.frame), (.int .i64 v.version), (.int .i64 v.item), (.int .i64 v.index), (.bool v.key), (.string (bstr v.data)), (.int .i64 v.regions), (.int .i64 v.gain), (.string (bstr v.caption)), (.int .i64 v.os), (.int .i64 v.of), (.slice v.A v.al.length v.c)] (by kernel_rfl) (fun w => by kernel_rfl) ?_
  intro b_3 w_4 a H HP
  refine H.val 10 (.bool false) (by kernel_rfl) (by kernel_rfl) ?_
  intro a H
  refine wpList_nil ?_
  refine then_normal ?_
  refine wp_seq ?_
  refine w_region ?_
  refine H.call 17 (by kernel_rfl) (Eq.trans (by kernel_rfl : _ = (callFunc 13 #[]).run Tryd.prog w_4) (Tryd.call13 _ _)) (sane_any w_4 (hL.below (HP.below (by kernel_rfl)))) ?_
  rintro e w_5 ⟨rfl, hb⟩
  refine ⟨_, rfl, ?_⟩
  intro a H
  have HP := HP.next hb
  refine H.val 11 (.bool true) (by kernel_rfl) (by kernel_rfl) ?_
  intro a H
  refine wpList_nil ?_
  refine then_normal ?_
  refine wp_seq ?_
  refine w_region ?_
  refine H.val 18 (.agg #[(.int .i64 u.channel), (.int .i64 u.frame), (.int .i64 u.version), (.int .i64 u.item), (.int .i64 u.index), (.bool u.key), (.string (bstr u.data)), (.int .i64 u.regions), (.int .i64 u.gain), (.string (bstr u.caption)), (.int .i64 u.os), (.int .i64 u.of), (.slice u.A u.al.length u.c)]) (by kernel_rfl) (ex_loadN (vs := [(.int .i64 u.channel), (.int .i64 u.frame), (.int .i64 u.version), (.int .i64 u.item), (.int .i64 u.index), (.bool u.key), (.string (bstr u.data)), (.int .i64 u.regions), (.int .i64 u.gain), (.string (bstr u.caption)), (.int .i64 u.os), (.int .i64 u.of), (.slice u.A u.al.length u.c)]) (by kernel_rfl) (by kernel_rfl) (by kernel_rfl) rfl (HP.cells 1 rfl 0 13 (by kernel_rfl))) ?_
  intro a H
  refine H.call 19 (by kernel_rfl) (Eq.trans (by kernel_rfl : _ = (callFunc 15 #[(.agg #[(.int .i64 u.channel), (.int .i64 u.frame), (.int .i64 u.version), (.int .i64 u.item), (.int .i64 u.index), (.bool u.key), (.string (bstr u.data)), (.int .i64 u.regions), (.int .i64 u.gain), (.string (bstr u.caption)), (.int .i64 u.os), (.int .i64 u.of), (.slice u.A u.al.length u.c)])]).run Tryd.prog w_5) (Tryd.call15 _ _)) (short_anyU hU (short_any u w_5 (huu.below (HP.below (by kernel_rfl))) hcu hAu)) ?_
  rintro e w_6 ⟨Bu, cu, rfl, halu, hcau, hcbu, hccu, hfru, hb⟩
  refine ⟨_, rfl, ?_⟩
  intro a H
  have HP := (HP.next hb).keepF ⟨rowFp U.al.length Bu, fun w => IsAlts w Bu U.al.length U.al⟩ halu (fun _ _ h hk hs => ⟨h.1, h.2.keep hk hs⟩) (fun j hj => row_sep HP halu.2 hfru hj)
  refine H.store HP 1 b_1 0 13 28 [(.int .i64 u.channel), (.int .i64 u.frame), (.int .i64 u.version), (.int .i64 u.item), (.int .i64 u.index), (.bool u.key), (.string (bstr u.data)), (.int .i64 u.regions), (.int .i64 u.gain), (.string (bstr u.caption)), (.int .i64 u.os), (.int .i64 u.of), (.slice u.A u.al.length u.c)] true (.agg #[(.int .i64 U.channel), (.int .i64 U.frame), (.int .i64 U.version), (.int .i64 U.item), (.int .i64 U.index), (.bool U.key), (.string (bstr U.data)), (.int .i64 U.regions), (.int .i64 U.gain), (.string (bstr U.caption)), (.int .i64 U.os), (.int .i64 U.of), (.slice Bu U.al.length cu)]) [bx b_3 28 [(.int .i64 v.channel), (.int .i64 v.frame), (.int .i64 v.version), (.int .i64 v.item), (.int .i64 v.index), (.bool v.key), (.string (bstr v.data)), (.int .i64 v.regions), (.int .i64 v.gain), (.string (bstr v.caption)), (.int .i64 v.os), (.int .i64 v.of), (.slice v.A v.al.length v.c)] true, bx b_1 28 [(.int .i64 U.channel), (.int .i64 U.frame), (.int .i64 U.version), (.int .i64 U.item), (.int .i64 U.index), (.bool U.key), (.string (bstr U.data)), (.int .i64 U.regions), (.int .i64 U.gain), (.string (bstr U.caption)), (.int .i64 U.os), (.int .i64 U.of), (.slice Bu U.al.length cu)] true] (by kernel_rfl) (by kernel_rfl) (by kernel_rfl) rfl (by kernel_rfl) (by kernel_rfl) (by kernel_rfl) (by kernel_rfl) (by kernel_rfl) ?_
  intro w_7 a H HP
  refine wpList_nil ?_
  refine then_normal ?_
  refine wp_seq ?_
  refine w_region ?_
  refine H.val 20 (.agg #[(.int .i64 v.channel), (.int .i64 v.frame), (.int .i64 v.version), (.int .i64 v.item), (.int .i64 v.index), (.bool v.key), (.string (bstr v.data)), (.int .i64 v.regions), (.int .i64 v.gain), (.string (bstr v.caption)), (.int .i64 v.os), (.int .i64 v.of), (.slice v.A v.al.length v.c)]) (by kernel_rfl) (ex_loadN (vs := [(.int .i64 v.channel), (.int .i64 v.frame), (.int .i64 v.version), (.int .i64 v.item), (.int .i64 v.index), (.bool v.key), (.string (bstr v.data)), (.int .i64 v.regions), (.int .i64 v.gain), (.string (bstr v.caption)), (.int .i64 v.os), (.int .i64 v.of), (.slice v.A v.al.length v.c)]) (by kernel_rfl) (by kernel_rfl) (by kernel_rfl) rfl (HP.cells 0 rfl 0 13 (by kernel_rfl))) ?_
  intro a H
  refine H.call 21 (by kernel_rfl) (Eq.trans (by kernel_rfl : _ = (callFunc 15 #[(.agg #[(.int .i64 v.channel), (.int .i64 v.frame), (.int .i64 v.version), (.int .i64 v.item), (.int .i64 v.index), (.bool v.key), (.string (bstr v.data)), (.int .i64 v.regions), (.int .i64 v.gain), (.string (bstr v.caption)), (.int .i64 v.os), (.int .i64 v.of), (.slice v.A v.al.length v.c)])]).run Tryd.prog w_7) (Tryd.call15 _ _)) (short_anyU hV (short_any v w_7 (huv.below (HP.below (by kernel_rfl))) hcv hAv)) ?_
  rintro e w_8 ⟨Bv, cv, rfl, halv, hcav, hcbv, hccv, hfrv, hb⟩
  refine ⟨_, rfl, ?_⟩
  intro a H
  have HP := (HP.next hb).keepF ⟨rowFp V.al.length Bv, fun w => IsAlts w Bv V.al.length V.al⟩ halv (fun _ _ h hk hs => ⟨h.1, h.2.keep hk hs⟩) (fun j hj => row_sep HP halv.2 hfrv hj)
  refine H.store HP 0 b_3 0 13 28 [(.int .i64 v.channel), (.int .i64 v.frame), (.int .i64 v.version), (.int .i64 v.item), (.int .i64 v.index), (.bool v.key), (.string (bstr v.data)), (.int .i64 v.regions), (.int .i64 v.gain), (.string (bstr v.caption)), (.int .i64 v.os), (.int .i64 v.of), (.slice v.A v.al.length v.c)] true (.agg #[(.int .i64 V.channel), (.int .i64 V.frame), (.int .i64 V.version), (.int .i64 V.item), (.int .i64 V.index), (.bool V.key), (.string (bstr V.data)), (.int .i64 V.regions), (.int .i64 V.gain), (.string (bstr V.caption)), (.int .i64 V.os), (.int .i64 V.of), (.slice Bv V.al.length cv)]) [bx b_3 28 [(.int .i64 V.channel), (.int .i64 V.frame), (.int .i64 V.version), (.int .i64 V.item), (.int .i64 V.index), (.bool V.key), (.string (bstr V.data)), (.int .i64 V.regions), (.int .i64 V.gain), (.string (bstr V.caption)), (.int .i64 V.os), (.int .i64 V.of), (.slice Bv V.al.length cv)] true, bx b_1 28 [(.int .i64 U.channel), (.int .i64 U.frame), (.int .i64 U.version), (.int .i64 U.item), (.int .i64 U.index), (.bool U.key), (.string (bstr U.data)), (.int .i64 U.regions), (.int .i64 U.gain), (.string (bstr U.caption)), (.int .i64 U.os), (.int .i64 U.of), (.slice Bu U.al.length cu)] true] (by kernel_rfl) (by kernel_rfl) (by kernel_rfl) rfl (by kernel_rfl) (by kernel_rfl) (by kernel_rfl) (by kernel_rfl) (by kernel_rfl) ?_
  intro w_9 a H HP
  refine wpList_nil ?_
  refine then_normal ?_
  refine wp_seq ?_
  refine w_region ?_
  refine H.val 22 (.int .i64 k) (by kernel_rfl) (by kernel_rfl) ?_
  intro a H
  refine H.call 23 (by kernel_rfl) (Eq.trans (by kernel_rfl : _ = (callFunc 27 #[(.int .i64 k), (.int .i64 40)]).run Tryd.prog w_9) (Tryd.call27 _ _)) (pick_any k 40 w_9 (by omega) (by omega)) ?_
  rintro e w_10 ⟨rfl, rfl⟩
  refine ⟨_, rfl, ?_⟩
  intro a H
  refine H.val 3 (.int .i64 (pickI k 40)) (by kernel_rfl) (by kernel_rfl) ?_
  intro a H
  refine wpList_nil ?_
  refine then_normal ?_
  refine wp_seq ?_
  refine wp_seq ?_
  refine w_region ?_
  refine H.val 24 (.bool false) (by kernel_rfl) (by kernel_rfl) ?_
  intro a H
  refine wpList_nil ?_
  refine then_normal ?_
  refine w_iff H rfl ?_
  refine wp_skip ?_
  refine then_normal ?_
  refine w_cut (fun a wv => Sl 88 [(12, (.string (bstr lu))), (13, (.int .i64 0)), (24, (.bool false)), (3, (.int .i64 (pickI k 40))), (11, (.bool true)), (10, (.bool false)), (7, (.pointer (some ⟨b_3, 0, none⟩))), (6, (.pointer (some ⟨b_1, 0, none⟩))), (0, (.int .i64 c)), (4, (.bool false))] a ∧ Hp w wv [bx b_3 28 [(.int .i64 V.channel), (.int .i64 V.frame), (.int .i64 V.version), (.int .i64 V.item), (.int .i64 V.index), (.bool V.key), (.string (bstr V.data)), (.int .i64 V.regions), (.int .i64 V.gain), (.string (bstr V.caption)), (.int .i64 V.os), (.int .i64 V.of), (.slice Bv V.al.length cv)] true, bx b_1 28 [(.int .i64 U.channel), (.int .i64 U.frame), (.int .i64 U.version), (.int .i64 U.item), (.int .i64 U.index), (.bool U.key), (.string (bstr U.data)), (.int .i64 U.regions), (.int .i64 U.gain), (.string (bstr U.caption)), (.int .i64 U.os), (.int .i64 U.of), (.slice Bu U.al.length cu)] true] [⟨rowFp V.al.length Bv, fun w => IsAlts w Bv V.al.length V.al⟩, ⟨rowFp U.al.length Bu, fun w => IsAlts w Bu U.al.length U.al⟩]) ?_ ?_
  ·
    refine An.start (fun v => Hp w v [bx b_3 28 [(.int .i64 V.channel), (.int .i64 V.frame), (.int .i64 V.version), (.int .i64 V.item), (.int .i64 V.index), (.bool V.key), (.string (bstr V.data)), (.int .i64 V.regions), (.int .i64 V.gain), (.string (bstr V.caption)), (.int .i64 V.os), (.int .i64 V.of), (.slice Bv V.al.length cv)] true, bx b_1 28 [(.int .i64 U.channel), (.int .i64 U.frame), (.int .i64 U.version), (.int .i64 U.item), (.int .i64 U.index), (.bool U.key), (.string (bstr U.data)), (.int .i64 U.regions), (.int .i64 U.gain), (.string (bstr U.caption)), (.int .i64 U.os), (.int .i64 U.of), (.slice Bu U.al.length cu)] true] [⟨rowFp V.al.length Bv, fun w => IsAlts w Bv V.al.length V.al⟩, ⟨rowFp U.al.length Bu, fun w => IsAlts w Bu U.al.length U.al⟩]) 9 9 HP wide_follows rfl ?_
    intro w_11 HP
    refine An.pure H (.inr (HP)) 0 34 (.int .i64 c) rfl (by kernel_rfl) (by kernel_rfl) (fun _ _ _ h => h) (fun _ => by kernel_rfl) ?_
    intro a H
    refine An.val H (HP) 2 36 (.agg #[(.int .i64 U.channel), (.int .i64 U.frame), (.int .i64 U.version), (.int .i64 U.item), (.int .i64 U.index), (.bool U.key), (.string (bstr U.data)), (.int .i64 U.regions), (.int .i64 U.gain), (.string (bstr U.caption)), (.int .i64 U.os), (.int .i64 U.of), (.slice Bu U.al.length cu)]) rfl (by kernel_rfl) (by kernel_rfl) (fun _ _ _ h => h) (fun _ hS => ex_loadN (vs := [(.int .i64 U.channel), (.int .i64 U.frame), (.int .i64 U.version), (.int .i64 U.item), (.int .i64 U.index), (.bool U.key), (.string (bstr U.data)), (.int .i64 U.regions), (.int .i64 U.gain), (.string (bstr U.caption)), (.int .i64 U.os), (.int .i64 U.of), (.slice Bu U.al.length cu)]) (by kernel_rfl) (by kernel_rfl) (by kernel_rfl) rfl (hS.cells 1 rfl 0 13 (by kernel_rfl))) ?_
    intro a H
    refine An.one 1 (by kernel_rfl) ?_
    refine Op.call H 35 rfl (by kernel_rfl) (Eq.trans (by kernel_rfl : _ = (callFunc 14 #[(.int .i64 c)]).run Tryd.prog w_11) (Tryd.call14 _ _)) (rate_any c w_11 hc) ?_
    rintro e w_12 ⟨rfl, hb⟩
    refine ⟨_, rfl, ?_⟩
    intro a H
    have HP := HP.next hb
    refine ⟨.inr (HP), ?_⟩
    refine An.one 3 (by kernel_rfl) ?_
    refine Op.call H 37 rfl (by kernel_rfl) (Eq.trans (by kernel_rfl : _ = (callFunc 16 #[(.agg #[(.int .i64 ((rateP c).1)), (.int .i64 ((rateP c).2))]), (.agg #[(.int .i64 U.channel), (.int .i64 U.frame), (.int .i64 U.version), (.int .i64 U.item), (.int .i64 U.index), (.bool U.key), (.string (bstr U.data)), (.int .i64 U.regions), (.int .i64 U.gain), (.string (bstr U.caption)), (.int .i64 U.os), (.int .i64 U.of), (.slice Bu U.al.length cu)])]).run Tryd.prog w_12) (Tryd.call16 _ _)) ((by have hh := pack_any ((rateP c).1) ((rateP c).2) (⟨U.channel, U.frame, U.version, U.item, U.index, U.key, U.data, U.regions, U.gain, U.caption, U.os, U.of, Bu, cu, U.al⟩ : Un) w_12 (hL.below (HP.below (by kernel_rfl))) (HP.fact 1 rfl) (Nat.le_trans hcau hcbu); rw [hZu Bu cu] at hh; exact hh)) ?_
    rintro e w_13 ⟨rfl, hb⟩
    refine ⟨_, rfl, ?_⟩
    intro a H
    have HP := HP.next hb
    refine ⟨.inr (HP), ?_⟩
    refine An.pure H (.inr (HP)) 4 33 (.tuple #[(.string (bstr lu)), (.int .i64 0)]) rfl (by kernel_rfl) (by kernel_rfl) (fun _ _ _ h => h) (fun _ => by kernel_rfl) ?_
    intro a H
    refine An.pure H (.inr (HP)) 5 38 (.string (bstr lu)) rfl (by kernel_rfl) (by kernel_rfl) (fun _ _ _ h => h) (fun _ => by kernel_rfl) ?_
    intro a H
    refine An.pure H (.inr (HP)) 6 39 (.int .i64 0) rfl (by kernel_rfl) (by kernel_rfl) (fun _ _ _ h => h) (fun _ => by kernel_rfl) ?_
    intro a H
    refine An.pure H (.inr (HP)) 7 12 (.string (bstr lu)) rfl (by kernel_rfl) (by kernel_rfl) (fun _ _ _ h => h) (fun _ => by kernel_rfl) ?_
    intro a H
    refine An.pure H (.inr (HP)) 8 13 (.int .i64 0) rfl (by kernel_rfl) (by kernel_rfl) (fun _ _ _ h => h) (fun _ => by kernel_rfl) ?_
    intro a H
    refine An.done (by kernel_rfl) ?_
    have H := H.keep (L' := [(13, (.int .i64 0)), (12, (.string (bstr lu))), (24, (.bool false)), (3, (.int .i64 (pickI k 40))), (23, (.int .i64 (pickI k 40))), (22, (.int .i64 k)), (21, (.agg #[(.int .i64 V.channel), (.int .i64 V.frame), (.int .i64 V.version), (.int .i64 V.item), (.int .i64 V.index), (.bool V.key), (.string (bstr V.data)), (.int .i64 V.regions), (.int .i64 V.gain), (.string (bstr V.caption)), (.int .i64 V.os), (.int .i64 V.of), (.slice Bv V.al.length cv)])), (20, (.agg #[(.int .i64 v.channel), (.int .i64 v.frame), (.int .i64 v.version), (.int .i64 v.item), (.int .i64 v.index), (.bool v.key), (.string (bstr v.data)), (.int .i64 v.regions), (.int .i64 v.gain), (.string (bstr v.caption)), (.int .i64 v.os), (.int .i64 v.of), (.slice v.A v.al.length v.c)])), (19, (.agg #[(.int .i64 U.channel), (.int .i64 U.frame), (.int .i64 U.version), (.int .i64 U.item), (.int .i64 U.index), (.bool U.key), (.string (bstr U.data)), (.int .i64 U.regions), (.int .i64 U.gain), (.string (bstr U.caption)), (.int .i64 U.os), (.int .i64 U.of), (.slice Bu U.al.length cu)])), (18, (.agg #[(.int .i64 u.channel), (.int .i64 u.frame), (.int .i64 u.version), (.int .i64 u.item), (.int .i64 u.index), (.bool u.key), (.string (bstr u.data)), (.int .i64 u.regions), (.int .i64 u.gain), (.string (bstr u.caption)), (.int .i64 u.os), (.int .i64 u.of), (.slice u.A u.al.length u.c)])), (11, (.bool true)), (17, (.bool true)), (10, (.bool false)), (7, (.pointer (some ⟨b_3, 0, none⟩))), (6, (.pointer (some ⟨b_1, 0, none⟩))), (0, (.int .i64 c)), (1, (.agg #[(.int .i64 u.channel), (.int .i64 u.frame), (.int .i64 u.version), (.int .i64 u.item), (.int .i64 u.index), (.bool u.key), (.string (bstr u.data)), (.int .i64 u.regions), (.int .i64 u.gain), (.string (bstr u.caption)), (.int .i64 u.os), (.int .i64 u.of), (.slice u.A u.al.length u.c)])), (2, (.agg #[(.int .i64 v.channel), (.int .i64 v.frame), (.int .i64 v.version), (.int .i64 v.item), (.int .i64 v.index), (.bool v.key), (.string (bstr v.data)), (.int .i64 v.regions), (.int .i64 v.gain), (.string (bstr v.caption)), (.int .i64 v.os), (.int .i64 v.of), (.slice v.A v.al.length v.c)])), (4, (.bool false))]) (by kernel_rfl)
    refine then_normal ?_
    exact ⟨H.keep (by kernel_rfl), HP⟩
  ·
    rintro a w_14 ⟨H, HP⟩
    refine w_cut (fun a wv => Sl 88 [(14, (.string (bstr ([])))), (15, (.int .i64 180)), (12, (.string (bstr lu))), (13, (.int .i64 0)), (24, (.bool false)), (3, (.int .i64 (pickI k 40))), (11, (.bool true)), (10, (.bool false)), (7, (.pointer (some ⟨b_3, 0, none⟩))), (6, (.pointer (some ⟨b_1, 0, none⟩))), (4, (.bool false))] a ∧ Hp w wv [bx b_3 28 [(.int .i64 V.channel), (.int .i64 V.frame), (.int .i64 V.version), (.int .i64 V.item), (.int .i64 V.index), (.bool V.key), (.string (bstr V.data)), (.int .i64 V.regions), (.int .i64 V.gain), (.string (bstr V.caption)), (.int .i64 V.os), (.int .i64 V.of), (.slice Bv V.al.length cv)] true, bx b_1 28 [(.int .i64 U.channel), (.int .i64 U.frame), (.int .i64 U.version), (.int .i64 U.item), (.int .i64 U.index), (.bool U.key), (.string (bstr U.data)), (.int .i64 U.regions), (.int .i64 U.gain), (.string (bstr U.caption)), (.int .i64 U.os), (.int .i64 U.of), (.slice Bu U.al.length cu)] true] [⟨rowFp V.al.length Bv, fun w => IsAlts w Bv V.al.length V.al⟩, ⟨rowFp U.al.length Bu, fun w => IsAlts w Bu U.al.length U.al⟩]) ?_ ?_
    ·
      refine An.start (fun v => Hp w v [bx b_3 28 [(.int .i64 V.channel), (.int .i64 V.frame), (.int .i64 V.version), (.int .i64 V.item), (.int .i64 V.index), (.bool V.key), (.string (bstr V.data)), (.int .i64 V.regions), (.int .i64 V.gain), (.string (bstr V.caption)), (.int .i64 V.os), (.int .i64 V.of), (.slice Bv V.al.length cv)] true, bx b_1 28 [(.int .i64 U.channel), (.int .i64 U.frame), (.int .i64 U.version), (.int .i64 U.item), (.int .i64 U.index), (.bool U.key), (.string (bstr U.data)), (.int .i64 U.regions), (.int .i64 U.gain), (.string (bstr U.caption)), (.int .i64 U.os), (.int .i64 U.of), (.slice Bu U.al.length cu)] true] [⟨rowFp V.al.length Bv, fun w => IsAlts w Bv V.al.length V.al⟩, ⟨rowFp U.al.length Bu, fun w => IsAlts w Bu U.al.length U.al⟩]) 9 9 HP wide_follows rfl ?_
      intro w_15 HP
      refine An.pure H (.inr (HP)) 0 41 (.int .i64 c) rfl (by kernel_rfl) (by kernel_rfl) (fun _ _ _ h => h) (fun _ => by kernel_rfl) ?_
      intro a H
      refine An.val H (HP) 2 43 (.agg #[(.int .i64 V.channel), (.int .i64 V.frame), (.int .i64 V.version), (.int .i64 V.item), (.int .i64 V.index), (.bool V.key), (.string (bstr V.data)), (.int .i64 V.regions), (.int .i64 V.gain), (.string (bstr V.caption)), (.int .i64 V.os), (.int .i64 V.of), (.slice Bv V.al.length cv)]) rfl (by kernel_rfl) (by kernel_rfl) (fun _ _ _ h => h) (fun _ hS => ex_loadN (vs := [(.int .i64 V.channel), (.int .i64 V.frame), (.int .i64 V.version), (.int .i64 V.item), (.int .i64 V.index), (.bool V.key), (.string (bstr V.data)), (.int .i64 V.regions), (.int .i64 V.gain), (.string (bstr V.caption)), (.int .i64 V.os), (.int .i64 V.of), (.slice Bv V.al.length cv)]) (by kernel_rfl) (by kernel_rfl) (by kernel_rfl) rfl (hS.cells 0 rfl 0 13 (by kernel_rfl))) ?_
      intro a H
      refine An.one 1 (by kernel_rfl) ?_
      refine Op.call H 42 rfl (by kernel_rfl) (Eq.trans (by kernel_rfl : _ = (callFunc 14 #[(.int .i64 c)]).run Tryd.prog w_15) (Tryd.call14 _ _)) (rate_any c w_15 hc) ?_
      rintro e w_16 ⟨rfl, hb⟩
      refine ⟨_, rfl, ?_⟩
      intro a H
      have HP := HP.next hb
      refine ⟨.inr (HP), ?_⟩
      refine An.one 3 (by kernel_rfl) ?_
      refine Op.call H 44 rfl (by kernel_rfl) (Eq.trans (by kernel_rfl : _ = (callFunc 16 #[(.agg #[(.int .i64 ((rateP c).1)), (.int .i64 ((rateP c).2))]), (.agg #[(.int .i64 V.channel), (.int .i64 V.frame), (.int .i64 V.version), (.int .i64 V.item), (.int .i64 V.index), (.bool V.key), (.string (bstr V.data)), (.int .i64 V.regions), (.int .i64 V.gain), (.string (bstr V.caption)), (.int .i64 V.os), (.int .i64 V.of), (.slice Bv V.al.length cv)])]).run Tryd.prog w_16) (Tryd.call16 _ _)) ((by have hh := pack_any ((rateP c).1) ((rateP c).2) (⟨V.channel, V.frame, V.version, V.item, V.index, V.key, V.data, V.regions, V.gain, V.caption, V.os, V.of, Bv, cv, V.al⟩ : Un) w_16 (hL.below (HP.below (by kernel_rfl))) (HP.fact 0 rfl) (Nat.le_trans hcav hcbv); rw [hZv Bv cv] at hh; exact hh)) ?_
      rintro e w_17 ⟨rfl, hb⟩
      refine ⟨_, rfl, ?_⟩
      intro a H
      have HP := HP.next hb
      refine ⟨.inr (HP), ?_⟩
      refine An.pure H (.inr (HP)) 4 40 (.tuple #[(.string (bstr ([]))), (.int .i64 180)]) rfl (by kernel_rfl) (by kernel_rfl) (fun _ _ _ h => h) (fun _ => by kernel_rfl) ?_
      intro a H
      refine An.pure H (.inr (HP)) 5 45 (.string (bstr ([]))) rfl (by kernel_rfl) (by kernel_rfl) (fun _ _ _ h => h) (fun _ => by kernel_rfl) ?_
      intro a H
      refine An.pure H (.inr (HP)) 6 46 (.int .i64 180) rfl (by kernel_rfl) (by kernel_rfl) (fun _ _ _ h => h) (fun _ => by kernel_rfl) ?_
      intro a H
      refine An.pure H (.inr (HP)) 7 14 (.string (bstr ([]))) rfl (by kernel_rfl) (by kernel_rfl) (fun _ _ _ h => h) (fun _ => by kernel_rfl) ?_
      intro a H
      refine An.pure H (.inr (HP)) 8 15 (.int .i64 180) rfl (by kernel_rfl) (by kernel_rfl) (fun _ _ _ h => h) (fun _ => by kernel_rfl) ?_
      intro a H
      refine An.done (by kernel_rfl) ?_
      have H := H.keep (L' := [(15, (.int .i64 180)), (14, (.string (bstr ([])))), (12, (.string (bstr lu))), (13, (.int .i64 0)), (24, (.bool false)), (3, (.int .i64 (pickI k 40))), (11, (.bool true)), (10, (.bool false)), (7, (.pointer (some ⟨b_3, 0, none⟩))), (6, (.pointer (some ⟨b_1, 0, none⟩))), (0, (.int .i64 c)), (4, (.bool false))]) (by kernel_rfl)
      refine then_normal ?_
      exact ⟨H.keep (by kernel_rfl), HP⟩
    ·
      rintro a w_18 ⟨H, HP⟩
      refine wp_seq ?_
      refine wp_seq ?_
      refine w_region ?_
      refine H.val 47 (.int .i64 0) (by kernel_rfl) (by kernel_rfl) ?_
      intro a H
      refine H.val 48 (.bool false) (by kernel_rfl) (by kernel_rfl) ?_
      intro a H
      refine H.val 49 (.bool false) (by kernel_rfl) (by kernel_rfl) ?_
      intro a H
      refine H.val 50 (.int .i64 180) (by kernel_rfl) (by kernel_rfl) ?_
      intro a H
      refine H.val 51 (.bool true) (by kernel_rfl) (by kernel_rfl) ?_
      intro a H
      refine H.val 52 (.bool true) (by kernel_rfl) (by kernel_rfl) ?_
      intro a H
      refine wpList_nil ?_
      refine then_normal ?_
      refine w_ift H rfl ?_
      refine wp_seq ?_
      refine w_region ?_
      refine H.val 53 (.bool true) (by kernel_rfl) (by kernel_rfl) ?_
      intro a H
      refine H.val 10 (.bool true) (by kernel_rfl) (by kernel_rfl) ?_
      intro a H
      refine wpList_nil ?_
      refine then_normal ?_
      refine wp_ret ?_
      refine then_ret ?_
      refine H.ret1 (fn := Tryd.f11) Tryd.results11 (RV.tmp_ (v := (.bool true)) (by kernel_rfl)) ?_
      exact ⟨rfl, (HP.below (by kernel_rfl))⟩
set_option maxRecDepth 100000 in
set_option maxHeartbeats 4000000 in
theorem fol_fss (c k : Int) (u v U V : Un) (w : World) (hU : shortU u = U) (hV : shortU v = V) (hL : Laid w) (hc : -9223372036854775808 ≤ c ∧ c ≤ 9223372036854775807) (hk : -9223372036854775808 ≤ k ∧ k ≤ 9223372036854775807) (huu : IsAlts w u.A u.al.length u.al) (hcu : u.al.length ≤ u.c) (hAu : u.A = none → u.c = 0) (huv : IsAlts w v.A v.al.length v.al) (hcv : v.al.length ≤ v.c) (hAv : v.A = none → v.c = 0) (lu : List UInt8) (lv : List UInt8) (hZu : ∀ B c', packP (rateP c).1 (rateP c).2 ({ U with A := B, c := c' } : Un) = some lu) (hZv : ∀ B c', packP (rateP c).1 (rateP c).2 ({ V with A := B, c := c' } : Un) = some lv) (hch : (U.channel == V.channel) = true) (hfr : ((U.frame + 1) % 16 == V.frame % 16) = true) (hfw : followsP lu lv = true) :
    Calls Tryd.prog 11 #[.int .i64 c, u.val, v.val, .int .i64 k, .bool false] w fun e w' => e = .returned (.bool true) ∧ Below w.heap.size w w' := by
  have HP := Hp.start w
  have hp40 := pickI_lt k 40 (by omega)
  obtain ⟨hlu, _, hlu2⟩ := pack_len (hZu none 0)
  obtain ⟨hlv, _, hlv2⟩ := pack_len (hZv none 0)
  obtain ⟨hfu, hfv⟩ := both_frames (hZu none 0) (hZv none 0)
  simp only at hfu hfv
  refine w_enter 88 [(0, (.int .i64 c)), (1, (.agg #[(.int .i64 u.channel), (.int .i64 u.frame), (.int .i64 u.version), (.int .i64 u.item), (.int .i64 u.index), (.bool u.key), (.string (bstr u.data)), (.int .i64 u.regions), (.int .i64 u.gain), (.string (bstr u.caption)), (.int .i64 u.os), (.int .i64 u.of), (.slice u.A u.al.length u.c)])), (2, (.agg #[(.int .i64 v.channel), (.int .i64 v.frame), (.int .i64 v.version), (.int .i64 v.item), (.int .i64 v.index), (.bool v.key), (.string (bstr v.data)), (.int .i64 v.regions), (.int .i64 v.gain), (.string (bstr v.caption)), (.int .i64 v.os), (.int .i64 v.of), (.slice v.A v.al.length v.c)])), (3, (.int .i64 k)), (4, (.bool false))] Tryd.func11 rfl Tryd.ntmps11 (by kernel_rfl) (by kernel_rfl) ?_
  intro a H
  refine wp_seq ?_
  refine w_region ?_
  refine H.alloc HP 6 (fun b => (.pointer (some ⟨b, 0, none⟩))) 28 [(.int .i64 u.channel), (.int .i64 u.frame), (.int .i64 u.version), (.int .i64 u.item), (.int .i64 u.index), (.bool u.key), (.string (bstr u.data)), (.int .i64 u.regions), (.int .i64 u.gain), (.string (bstr u.caption)), (.int .i64 u.os), (.int .i64 u.of), (.slice u.A u.al.length u.c)] (by kernel_rfl) (fun w => by kernel_rfl) ?_
  intro b_1 w_2 a H HP
  refine H.alloc HP 7 (fun b => (.pointer (some ⟨b, 0, none⟩))) 28 [(.int .i64 v.channel), (.int .i64 v.frame), (.int .i64 v.version), (.int .i64 v.item), (.int .i64 v.index), (.bool v.key), (.string (bstr v.data)), (.int .i64 v.regions), (.int .i64 v.gain), (.string (bstr v.caption)), (.int .i64 v.os), (.int .i64 v.of), (.slice v.A v.al.length v.c)] (by kernel_rfl) (fun w => by kernel_rfl) ?_
  intro b_3 w_4 a H HP
  refine H.val 10 (.bool false) (by kernel_rfl) (by kernel_rfl) ?_
  intro a H
  refine wpList_nil ?_
  refine then_normal ?_
  refine wp_seq ?_
  refine w_region ?_
  refine H.call 17 (by kernel_rfl) (Eq.trans (by kernel_rfl : _ = (callFunc 13 #[]).run Tryd.prog w_4) (Tryd.call13 _ _)) (sane_any w_4 (hL.below (HP.below (by kernel_rfl)))) ?_
  rintro e w_5 ⟨rfl, hb⟩
  refine ⟨_, rfl, ?_⟩
  intro a H
  have HP := HP.next hb
  refine H.val 11 (.bool true) (by kernel_rfl) (by kernel_rfl) ?_
  intro a H
  refine wpList_nil ?_
  refine then_normal ?_
  refine wp_seq ?_
  refine w_region ?_
  refine H.val 18 (.agg #[(.int .i64 u.channel), (.int .i64 u.frame), (.int .i64 u.version), (.int .i64 u.item), (.int .i64 u.index), (.bool u.key), (.string (bstr u.data)), (.int .i64 u.regions), (.int .i64 u.gain), (.string (bstr u.caption)), (.int .i64 u.os), (.int .i64 u.of), (.slice u.A u.al.length u.c)]) (by kernel_rfl) (ex_loadN (vs := [(.int .i64 u.channel), (.int .i64 u.frame), (.int .i64 u.version), (.int .i64 u.item), (.int .i64 u.index), (.bool u.key), (.string (bstr u.data)), (.int .i64 u.regions), (.int .i64 u.gain), (.string (bstr u.caption)), (.int .i64 u.os), (.int .i64 u.of), (.slice u.A u.al.length u.c)]) (by kernel_rfl) (by kernel_rfl) (by kernel_rfl) rfl (HP.cells 1 rfl 0 13 (by kernel_rfl))) ?_
  intro a H
  refine H.call 19 (by kernel_rfl) (Eq.trans (by kernel_rfl : _ = (callFunc 15 #[(.agg #[(.int .i64 u.channel), (.int .i64 u.frame), (.int .i64 u.version), (.int .i64 u.item), (.int .i64 u.index), (.bool u.key), (.string (bstr u.data)), (.int .i64 u.regions), (.int .i64 u.gain), (.string (bstr u.caption)), (.int .i64 u.os), (.int .i64 u.of), (.slice u.A u.al.length u.c)])]).run Tryd.prog w_5) (Tryd.call15 _ _)) (short_anyU hU (short_any u w_5 (huu.below (HP.below (by kernel_rfl))) hcu hAu)) ?_
  rintro e w_6 ⟨Bu, cu, rfl, halu, hcau, hcbu, hccu, hfru, hb⟩
  refine ⟨_, rfl, ?_⟩
  intro a H
  have HP := (HP.next hb).keepF ⟨rowFp U.al.length Bu, fun w => IsAlts w Bu U.al.length U.al⟩ halu (fun _ _ h hk hs => ⟨h.1, h.2.keep hk hs⟩) (fun j hj => row_sep HP halu.2 hfru hj)
  refine H.store HP 1 b_1 0 13 28 [(.int .i64 u.channel), (.int .i64 u.frame), (.int .i64 u.version), (.int .i64 u.item), (.int .i64 u.index), (.bool u.key), (.string (bstr u.data)), (.int .i64 u.regions), (.int .i64 u.gain), (.string (bstr u.caption)), (.int .i64 u.os), (.int .i64 u.of), (.slice u.A u.al.length u.c)] true (.agg #[(.int .i64 U.channel), (.int .i64 U.frame), (.int .i64 U.version), (.int .i64 U.item), (.int .i64 U.index), (.bool U.key), (.string (bstr U.data)), (.int .i64 U.regions), (.int .i64 U.gain), (.string (bstr U.caption)), (.int .i64 U.os), (.int .i64 U.of), (.slice Bu U.al.length cu)]) [bx b_3 28 [(.int .i64 v.channel), (.int .i64 v.frame), (.int .i64 v.version), (.int .i64 v.item), (.int .i64 v.index), (.bool v.key), (.string (bstr v.data)), (.int .i64 v.regions), (.int .i64 v.gain), (.string (bstr v.caption)), (.int .i64 v.os), (.int .i64 v.of), (.slice v.A v.al.length v.c)] true, bx b_1 28 [(.int .i64 U.channel), (.int .i64 U.frame), (.int .i64 U.version), (.int .i64 U.item), (.int .i64 U.index), (.bool U.key), (.string (bstr U.data)), (.int .i64 U.regions), (.int .i64 U.gain), (.string (bstr U.caption)), (.int .i64 U.os), (.int .i64 U.of), (.slice Bu U.al.length cu)] true] (by kernel_rfl) (by kernel_rfl) (by kernel_rfl) rfl (by kernel_rfl) (by kernel_rfl) (by kernel_rfl) (by kernel_rfl) (by kernel_rfl) ?_
  intro w_7 a H HP
  refine wpList_nil ?_
  refine then_normal ?_
  refine wp_seq ?_
  refine w_region ?_
  refine H.val 20 (.agg #[(.int .i64 v.channel), (.int .i64 v.frame), (.int .i64 v.version), (.int .i64 v.item), (.int .i64 v.index), (.bool v.key), (.string (bstr v.data)), (.int .i64 v.regions), (.int .i64 v.gain), (.string (bstr v.caption)), (.int .i64 v.os), (.int .i64 v.of), (.slice v.A v.al.length v.c)]) (by kernel_rfl) (ex_loadN (vs := [(.int .i64 v.channel), (.int .i64 v.frame), (.int .i64 v.version), (.int .i64 v.item), (.int .i64 v.index), (.bool v.key), (.string (bstr v.data)), (.int .i64 v.regions), (.int .i64 v.gain), (.string (bstr v.caption)), (.int .i64 v.os), (.int .i64 v.of), (.slice v.A v.al.length v.c)]) (by kernel_rfl) (by kernel_rfl) (by kernel_rfl) rfl (HP.cells 0 rfl 0 13 (by kernel_rfl))) ?_
  intro a H
  refine H.call 21 (by kernel_rfl) (Eq.trans (by kernel_rfl : _ = (callFunc 15 #[(.agg #[(.int .i64 v.channel), (.int .i64 v.frame), (.int .i64 v.version), (.int .i64 v.item), (.int .i64 v.index), (.bool v.key), (.string (bstr v.data)), (.int .i64 v.regions), (.int .i64 v.gain), (.string (bstr v.caption)), (.int .i64 v.os), (.int .i64 v.of), (.slice v.A v.al.length v.c)])]).run Tryd.prog w_7) (Tryd.call15 _ _)) (short_anyU hV (short_any v w_7 (huv.below (HP.below (by kernel_rfl))) hcv hAv)) ?_
  rintro e w_8 ⟨Bv, cv, rfl, halv, hcav, hcbv, hccv, hfrv, hb⟩
  refine ⟨_, rfl, ?_⟩
  intro a H
  have HP := (HP.next hb).keepF ⟨rowFp V.al.length Bv, fun w => IsAlts w Bv V.al.length V.al⟩ halv (fun _ _ h hk hs => ⟨h.1, h.2.keep hk hs⟩) (fun j hj => row_sep HP halv.2 hfrv hj)
  refine H.store HP 0 b_3 0 13 28 [(.int .i64 v.channel), (.int .i64 v.frame), (.int .i64 v.version), (.int .i64 v.item), (.int .i64 v.index), (.bool v.key), (.string (bstr v.data)), (.int .i64 v.regions), (.int .i64 v.gain), (.string (bstr v.caption)), (.int .i64 v.os), (.int .i64 v.of), (.slice v.A v.al.length v.c)] true (.agg #[(.int .i64 V.channel), (.int .i64 V.frame), (.int .i64 V.version), (.int .i64 V.item), (.int .i64 V.index), (.bool V.key), (.string (bstr V.data)), (.int .i64 V.regions), (.int .i64 V.gain), (.string (bstr V.caption)), (.int .i64 V.os), (.int .i64 V.of), (.slice Bv V.al.length cv)]) [bx b_3 28 [(.int .i64 V.channel), (.int .i64 V.frame), (.int .i64 V.version), (.int .i64 V.item), (.int .i64 V.index), (.bool V.key), (.string (bstr V.data)), (.int .i64 V.regions), (.int .i64 V.gain), (.string (bstr V.caption)), (.int .i64 V.os), (.int .i64 V.of), (.slice Bv V.al.length cv)] true, bx b_1 28 [(.int .i64 U.channel), (.int .i64 U.frame), (.int .i64 U.version), (.int .i64 U.item), (.int .i64 U.index), (.bool U.key), (.string (bstr U.data)), (.int .i64 U.regions), (.int .i64 U.gain), (.string (bstr U.caption)), (.int .i64 U.os), (.int .i64 U.of), (.slice Bu U.al.length cu)] true] (by kernel_rfl) (by kernel_rfl) (by kernel_rfl) rfl (by kernel_rfl) (by kernel_rfl) (by kernel_rfl) (by kernel_rfl) (by kernel_rfl) ?_
  intro w_9 a H HP
  refine wpList_nil ?_
  refine then_normal ?_
  refine wp_seq ?_
  refine w_region ?_
  refine H.val 22 (.int .i64 k) (by kernel_rfl) (by kernel_rfl) ?_
  intro a H
  refine H.call 23 (by kernel_rfl) (Eq.trans (by kernel_rfl : _ = (callFunc 27 #[(.int .i64 k), (.int .i64 40)]).run Tryd.prog w_9) (Tryd.call27 _ _)) (pick_any k 40 w_9 (by omega) (by omega)) ?_
  rintro e w_10 ⟨rfl, rfl⟩
  refine ⟨_, rfl, ?_⟩
  intro a H
  refine H.val 3 (.int .i64 (pickI k 40)) (by kernel_rfl) (by kernel_rfl) ?_
  intro a H
  refine wpList_nil ?_
  refine then_normal ?_
  refine wp_seq ?_
  refine wp_seq ?_
  refine w_region ?_
  refine H.val 24 (.bool false) (by kernel_rfl) (by kernel_rfl) ?_
  intro a H
  refine wpList_nil ?_
  refine then_normal ?_
  refine w_iff H rfl ?_
  refine wp_skip ?_
  refine then_normal ?_
  refine w_cut (fun a wv => Sl 88 [(12, (.string (bstr lu))), (13, (.int .i64 0)), (24, (.bool false)), (3, (.int .i64 (pickI k 40))), (11, (.bool true)), (10, (.bool false)), (7, (.pointer (some ⟨b_3, 0, none⟩))), (6, (.pointer (some ⟨b_1, 0, none⟩))), (0, (.int .i64 c)), (4, (.bool false))] a ∧ Hp w wv [bx b_3 28 [(.int .i64 V.channel), (.int .i64 V.frame), (.int .i64 V.version), (.int .i64 V.item), (.int .i64 V.index), (.bool V.key), (.string (bstr V.data)), (.int .i64 V.regions), (.int .i64 V.gain), (.string (bstr V.caption)), (.int .i64 V.os), (.int .i64 V.of), (.slice Bv V.al.length cv)] true, bx b_1 28 [(.int .i64 U.channel), (.int .i64 U.frame), (.int .i64 U.version), (.int .i64 U.item), (.int .i64 U.index), (.bool U.key), (.string (bstr U.data)), (.int .i64 U.regions), (.int .i64 U.gain), (.string (bstr U.caption)), (.int .i64 U.os), (.int .i64 U.of), (.slice Bu U.al.length cu)] true] [⟨rowFp V.al.length Bv, fun w => IsAlts w Bv V.al.length V.al⟩, ⟨rowFp U.al.length Bu, fun w => IsAlts w Bu U.al.length U.al⟩]) ?_ ?_
  ·
    refine An.start (fun v => Hp w v [bx b_3 28 [(.int .i64 V.channel), (.int .i64 V.frame), (.int .i64 V.version), (.int .i64 V.item), (.int .i64 V.index), (.bool V.key), (.string (bstr V.data)), (.int .i64 V.regions), (.int .i64 V.gain), (.string (bstr V.caption)), (.int .i64 V.os), (.int .i64 V.of), (.slice Bv V.al.length cv)] true, bx b_1 28 [(.int .i64 U.channel), (.int .i64 U.frame), (.int .i64 U.version), (.int .i64 U.item), (.int .i64 U.index), (.bool U.key), (.string (bstr U.data)), (.int .i64 U.regions), (.int .i64 U.gain), (.string (bstr U.caption)), (.int .i64 U.os), (.int .i64 U.of), (.slice Bu U.al.length cu)] true] [⟨rowFp V.al.length Bv, fun w => IsAlts w Bv V.al.length V.al⟩, ⟨rowFp U.al.length Bu, fun w => IsAlts w Bu U.al.length U.al⟩]) 9 9 HP wide_follows rfl ?_
    intro w_11 HP
    refine An.pure H (.inr (HP)) 0 34 (.int .i64 c) rfl (by kernel_rfl) (by kernel_rfl) (fun _ _ _ h => h) (fun _ => by kernel_rfl) ?_
    intro a H
    refine An.val H (HP) 2 36 (.agg #[(.int .i64 U.channel), (.int .i64 U.frame), (.int .i64 U.version), (.int .i64 U.item), (.int .i64 U.index), (.bool U.key), (.string (bstr U.data)), (.int .i64 U.regions), (.int .i64 U.gain), (.string (bstr U.caption)), (.int .i64 U.os), (.int .i64 U.of), (.slice Bu U.al.length cu)]) rfl (by kernel_rfl) (by kernel_rfl) (fun _ _ _ h => h) (fun _ hS => ex_loadN (vs := [(.int .i64 U.channel), (.int .i64 U.frame), (.int .i64 U.version), (.int .i64 U.item), (.int .i64 U.index), (.bool U.key), (.string (bstr U.data)), (.int .i64 U.regions), (.int .i64 U.gain), (.string (bstr U.caption)), (.int .i64 U.os), (.int .i64 U.of), (.slice Bu U.al.length cu)]) (by kernel_rfl) (by kernel_rfl) (by kernel_rfl) rfl (hS.cells 1 rfl 0 13 (by kernel_rfl))) ?_
    intro a H
    refine An.one 1 (by kernel_rfl) ?_
    refine Op.call H 35 rfl (by kernel_rfl) (Eq.trans (by kernel_rfl : _ = (callFunc 14 #[(.int .i64 c)]).run Tryd.prog w_11) (Tryd.call14 _ _)) (rate_any c w_11 hc) ?_
    rintro e w_12 ⟨rfl, hb⟩
    refine ⟨_, rfl, ?_⟩
    intro a H
    have HP := HP.next hb
    refine ⟨.inr (HP), ?_⟩
    refine An.one 3 (by kernel_rfl) ?_
    refine Op.call H 37 rfl (by kernel_rfl) (Eq.trans (by kernel_rfl : _ = (callFunc 16 #[(.agg #[(.int .i64 ((rateP c).1)), (.int .i64 ((rateP c).2))]), (.agg #[(.int .i64 U.channel), (.int .i64 U.frame), (.int .i64 U.version), (.int .i64 U.item), (.int .i64 U.index), (.bool U.key), (.string (bstr U.data)), (.int .i64 U.regions), (.int .i64 U.gain), (.string (bstr U.caption)), (.int .i64 U.os), (.int .i64 U.of), (.slice Bu U.al.length cu)])]).run Tryd.prog w_12) (Tryd.call16 _ _)) ((by have hh := pack_any ((rateP c).1) ((rateP c).2) (⟨U.channel, U.frame, U.version, U.item, U.index, U.key, U.data, U.regions, U.gain, U.caption, U.os, U.of, Bu, cu, U.al⟩ : Un) w_12 (hL.below (HP.below (by kernel_rfl))) (HP.fact 1 rfl) (Nat.le_trans hcau hcbu); rw [hZu Bu cu] at hh; exact hh)) ?_
    rintro e w_13 ⟨rfl, hb⟩
    refine ⟨_, rfl, ?_⟩
    intro a H
    have HP := HP.next hb
    refine ⟨.inr (HP), ?_⟩
    refine An.pure H (.inr (HP)) 4 33 (.tuple #[(.string (bstr lu)), (.int .i64 0)]) rfl (by kernel_rfl) (by kernel_rfl) (fun _ _ _ h => h) (fun _ => by kernel_rfl) ?_
    intro a H
    refine An.pure H (.inr (HP)) 5 38 (.string (bstr lu)) rfl (by kernel_rfl) (by kernel_rfl) (fun _ _ _ h => h) (fun _ => by kernel_rfl) ?_
    intro a H
    refine An.pure H (.inr (HP)) 6 39 (.int .i64 0) rfl (by kernel_rfl) (by kernel_rfl) (fun _ _ _ h => h) (fun _ => by kernel_rfl) ?_
    intro a H
    refine An.pure H (.inr (HP)) 7 12 (.string (bstr lu)) rfl (by kernel_rfl) (by kernel_rfl) (fun _ _ _ h => h) (fun _ => by kernel_rfl) ?_
    intro a H
    refine An.pure H (.inr (HP)) 8 13 (.int .i64 0) rfl (by kernel_rfl) (by kernel_rfl) (fun _ _ _ h => h) (fun _ => by kernel_rfl) ?_
    intro a H
    refine An.done (by kernel_rfl) ?_
    have H := H.keep (L' := [(13, (.int .i64 0)), (12, (.string (bstr lu))), (24, (.bool false)), (3, (.int .i64 (pickI k 40))), (23, (.int .i64 (pickI k 40))), (22, (.int .i64 k)), (21, (.agg #[(.int .i64 V.channel), (.int .i64 V.frame), (.int .i64 V.version), (.int .i64 V.item), (.int .i64 V.index), (.bool V.key), (.string (bstr V.data)), (.int .i64 V.regions), (.int .i64 V.gain), (.string (bstr V.caption)), (.int .i64 V.os), (.int .i64 V.of), (.slice Bv V.al.length cv)])), (20, (.agg #[(.int .i64 v.channel), (.int .i64 v.frame), (.int .i64 v.version), (.int .i64 v.item), (.int .i64 v.index), (.bool v.key), (.string (bstr v.data)), (.int .i64 v.regions), (.int .i64 v.gain), (.string (bstr v.caption)), (.int .i64 v.os), (.int .i64 v.of), (.slice v.A v.al.length v.c)])), (19, (.agg #[(.int .i64 U.channel), (.int .i64 U.frame), (.int .i64 U.version), (.int .i64 U.item), (.int .i64 U.index), (.bool U.key), (.string (bstr U.data)), (.int .i64 U.regions), (.int .i64 U.gain), (.string (bstr U.caption)), (.int .i64 U.os), (.int .i64 U.of), (.slice Bu U.al.length cu)])), (18, (.agg #[(.int .i64 u.channel), (.int .i64 u.frame), (.int .i64 u.version), (.int .i64 u.item), (.int .i64 u.index), (.bool u.key), (.string (bstr u.data)), (.int .i64 u.regions), (.int .i64 u.gain), (.string (bstr u.caption)), (.int .i64 u.os), (.int .i64 u.of), (.slice u.A u.al.length u.c)])), (11, (.bool true)), (17, (.bool true)), (10, (.bool false)), (7, (.pointer (some ⟨b_3, 0, none⟩))), (6, (.pointer (some ⟨b_1, 0, none⟩))), (0, (.int .i64 c)), (1, (.agg #[(.int .i64 u.channel), (.int .i64 u.frame), (.int .i64 u.version), (.int .i64 u.item), (.int .i64 u.index), (.bool u.key), (.string (bstr u.data)), (.int .i64 u.regions), (.int .i64 u.gain), (.string (bstr u.caption)), (.int .i64 u.os), (.int .i64 u.of), (.slice u.A u.al.length u.c)])), (2, (.agg #[(.int .i64 v.channel), (.int .i64 v.frame), (.int .i64 v.version), (.int .i64 v.item), (.int .i64 v.index), (.bool v.key), (.string (bstr v.data)), (.int .i64 v.regions), (.int .i64 v.gain), (.string (bstr v.caption)), (.int .i64 v.os), (.int .i64 v.of), (.slice v.A v.al.length v.c)])), (4, (.bool false))]) (by kernel_rfl)
    refine then_normal ?_
    exact ⟨H.keep (by kernel_rfl), HP⟩
  ·
    rintro a w_14 ⟨H, HP⟩
    refine w_cut (fun a wv => Sl 88 [(14, (.string (bstr lv))), (15, (.int .i64 0)), (12, (.string (bstr lu))), (13, (.int .i64 0)), (24, (.bool false)), (3, (.int .i64 (pickI k 40))), (11, (.bool true)), (10, (.bool false)), (7, (.pointer (some ⟨b_3, 0, none⟩))), (6, (.pointer (some ⟨b_1, 0, none⟩))), (4, (.bool false))] a ∧ Hp w wv [bx b_3 28 [(.int .i64 V.channel), (.int .i64 V.frame), (.int .i64 V.version), (.int .i64 V.item), (.int .i64 V.index), (.bool V.key), (.string (bstr V.data)), (.int .i64 V.regions), (.int .i64 V.gain), (.string (bstr V.caption)), (.int .i64 V.os), (.int .i64 V.of), (.slice Bv V.al.length cv)] true, bx b_1 28 [(.int .i64 U.channel), (.int .i64 U.frame), (.int .i64 U.version), (.int .i64 U.item), (.int .i64 U.index), (.bool U.key), (.string (bstr U.data)), (.int .i64 U.regions), (.int .i64 U.gain), (.string (bstr U.caption)), (.int .i64 U.os), (.int .i64 U.of), (.slice Bu U.al.length cu)] true] [⟨rowFp V.al.length Bv, fun w => IsAlts w Bv V.al.length V.al⟩, ⟨rowFp U.al.length Bu, fun w => IsAlts w Bu U.al.length U.al⟩]) ?_ ?_
    ·
      refine An.start (fun v => Hp w v [bx b_3 28 [(.int .i64 V.channel), (.int .i64 V.frame), (.int .i64 V.version), (.int .i64 V.item), (.int .i64 V.index), (.bool V.key), (.string (bstr V.data)), (.int .i64 V.regions), (.int .i64 V.gain), (.string (bstr V.caption)), (.int .i64 V.os), (.int .i64 V.of), (.slice Bv V.al.length cv)] true, bx b_1 28 [(.int .i64 U.channel), (.int .i64 U.frame), (.int .i64 U.version), (.int .i64 U.item), (.int .i64 U.index), (.bool U.key), (.string (bstr U.data)), (.int .i64 U.regions), (.int .i64 U.gain), (.string (bstr U.caption)), (.int .i64 U.os), (.int .i64 U.of), (.slice Bu U.al.length cu)] true] [⟨rowFp V.al.length Bv, fun w => IsAlts w Bv V.al.length V.al⟩, ⟨rowFp U.al.length Bu, fun w => IsAlts w Bu U.al.length U.al⟩]) 9 9 HP wide_follows rfl ?_
      intro w_15 HP
      refine An.pure H (.inr (HP)) 0 41 (.int .i64 c) rfl (by kernel_rfl) (by kernel_rfl) (fun _ _ _ h => h) (fun _ => by kernel_rfl) ?_
      intro a H
      refine An.val H (HP) 2 43 (.agg #[(.int .i64 V.channel), (.int .i64 V.frame), (.int .i64 V.version), (.int .i64 V.item), (.int .i64 V.index), (.bool V.key), (.string (bstr V.data)), (.int .i64 V.regions), (.int .i64 V.gain), (.string (bstr V.caption)), (.int .i64 V.os), (.int .i64 V.of), (.slice Bv V.al.length cv)]) rfl (by kernel_rfl) (by kernel_rfl) (fun _ _ _ h => h) (fun _ hS => ex_loadN (vs := [(.int .i64 V.channel), (.int .i64 V.frame), (.int .i64 V.version), (.int .i64 V.item), (.int .i64 V.index), (.bool V.key), (.string (bstr V.data)), (.int .i64 V.regions), (.int .i64 V.gain), (.string (bstr V.caption)), (.int .i64 V.os), (.int .i64 V.of), (.slice Bv V.al.length cv)]) (by kernel_rfl) (by kernel_rfl) (by kernel_rfl) rfl (hS.cells 0 rfl 0 13 (by kernel_rfl))) ?_
      intro a H
      refine An.one 1 (by kernel_rfl) ?_
      refine Op.call H 42 rfl (by kernel_rfl) (Eq.trans (by kernel_rfl : _ = (callFunc 14 #[(.int .i64 c)]).run Tryd.prog w_15) (Tryd.call14 _ _)) (rate_any c w_15 hc) ?_
      rintro e w_16 ⟨rfl, hb⟩
      refine ⟨_, rfl, ?_⟩
      intro a H
      have HP := HP.next hb
      refine ⟨.inr (HP), ?_⟩
      refine An.one 3 (by kernel_rfl) ?_
      refine Op.call H 44 rfl (by kernel_rfl) (Eq.trans (by kernel_rfl : _ = (callFunc 16 #[(.agg #[(.int .i64 ((rateP c).1)), (.int .i64 ((rateP c).2))]), (.agg #[(.int .i64 V.channel), (.int .i64 V.frame), (.int .i64 V.version), (.int .i64 V.item), (.int .i64 V.index), (.bool V.key), (.string (bstr V.data)), (.int .i64 V.regions), (.int .i64 V.gain), (.string (bstr V.caption)), (.int .i64 V.os), (.int .i64 V.of), (.slice Bv V.al.length cv)])]).run Tryd.prog w_16) (Tryd.call16 _ _)) ((by have hh := pack_any ((rateP c).1) ((rateP c).2) (⟨V.channel, V.frame, V.version, V.item, V.index, V.key, V.data, V.regions, V.gain, V.caption, V.os, V.of, Bv, cv, V.al⟩ : Un) w_16 (hL.below (HP.below (by kernel_rfl))) (HP.fact 0 rfl) (Nat.le_trans hcav hcbv); rw [hZv Bv cv] at hh; exact hh)) ?_
      rintro e w_17 ⟨rfl, hb⟩
      refine ⟨_, rfl, ?_⟩
      intro a H
      have HP := HP.next hb
      refine ⟨.inr (HP), ?_⟩
      refine An.pure H (.inr (HP)) 4 40 (.tuple #[(.string (bstr lv)), (.int .i64 0)]) rfl (by kernel_rfl) (by kernel_rfl) (fun _ _ _ h => h) (fun _ => by kernel_rfl) ?_
      intro a H
      refine An.pure H (.inr (HP)) 5 45 (.string (bstr lv)) rfl (by kernel_rfl) (by kernel_rfl) (fun _ _ _ h => h) (fun _ => by kernel_rfl) ?_
      intro a H
      refine An.pure H (.inr (HP)) 6 46 (.int .i64 0) rfl (by kernel_rfl) (by kernel_rfl) (fun _ _ _ h => h) (fun _ => by kernel_rfl) ?_
      intro a H
      refine An.pure H (.inr (HP)) 7 14 (.string (bstr lv)) rfl (by kernel_rfl) (by kernel_rfl) (fun _ _ _ h => h) (fun _ => by kernel_rfl) ?_
      intro a H
      refine An.pure H (.inr (HP)) 8 15 (.int .i64 0) rfl (by kernel_rfl) (by kernel_rfl) (fun _ _ _ h => h) (fun _ => by kernel_rfl) ?_
      intro a H
      refine An.done (by kernel_rfl) ?_
      have H := H.keep (L' := [(15, (.int .i64 0)), (14, (.string (bstr lv))), (12, (.string (bstr lu))), (13, (.int .i64 0)), (24, (.bool false)), (3, (.int .i64 (pickI k 40))), (11, (.bool true)), (10, (.bool false)), (7, (.pointer (some ⟨b_3, 0, none⟩))), (6, (.pointer (some ⟨b_1, 0, none⟩))), (0, (.int .i64 c)), (4, (.bool false))]) (by kernel_rfl)
      refine then_normal ?_
      exact ⟨H.keep (by kernel_rfl), HP⟩
    ·
      rintro a w_18 ⟨H, HP⟩
      refine wp_seq ?_
      refine wp_seq ?_
      refine w_region ?_
      refine H.val 47 (.int .i64 0) (by kernel_rfl) (by kernel_rfl) ?_
      intro a H
      refine H.val 48 (.bool false) (by kernel_rfl) (by kernel_rfl) ?_
      intro a H
      refine H.val 49 (.bool false) (by kernel_rfl) (by kernel_rfl) ?_
      intro a H
      refine H.val 50 (.int .i64 0) (by kernel_rfl) (by kernel_rfl) ?_
      intro a H
      refine H.val 51 (.bool false) (by kernel_rfl) (by kernel_rfl) ?_
      intro a H
      refine H.val 52 (.bool false) (by kernel_rfl) (by kernel_rfl) ?_
      intro a H
      refine wpList_nil ?_
      refine then_normal ?_
      refine w_iff H rfl ?_
      refine wp_skip ?_
      refine then_normal ?_
      refine wp_seq ?_
      refine w_region ?_
      refine H.val 54 (.pointer (some ⟨b_1, 0, none⟩)) (by kernel_rfl) (by kernel_rfl) ?_
      intro a H
      refine H.val 55 (.int .i64 U.channel) (by kernel_rfl) (ex_load1 (by kernel_rfl) (by kernel_rfl) (HP.cell 1 rfl 0 rfl)) ?_
      intro a H
      refine H.val 56 (.pointer (some ⟨b_3, 0, none⟩)) (by kernel_rfl) (by kernel_rfl) ?_
      intro a H
      refine H.val 57 (.int .i64 V.channel) (by kernel_rfl) (ex_load1 (by kernel_rfl) (by kernel_rfl) (HP.cell 0 rfl 0 rfl)) ?_
      intro a H
      refine H.valE 58 (.bool (U.channel == V.channel)) (.bool true) (by kernel_rfl) (by kernel_rfl) ((congrArg Value.bool (hch))) ?_
      intro a H
      refine H.val 59 (.bool true) (by kernel_rfl) (by kernel_rfl) ?_
      intro a H
      refine H.val 60 (.pointer (some ⟨b_1, 1, none⟩)) (by kernel_rfl) (by kernel_rfl) ?_
      intro a H
      refine H.val 61 (.int .i64 U.frame) (by kernel_rfl) (ex_load1 (by kernel_rfl) (by kernel_rfl) (HP.cell 1 rfl 1 rfl)) ?_
      intro a H
      refine H.valE 62 (.int .i64 (IntKind.i64.wrap (U.frame + 1))) (.int .i64 (U.frame + 1)) (by kernel_rfl) (by kernel_rfl) ((by rw [wrap_ini64 _ (by omega)])) ?_
      intro a H
      refine H.valE 63 (.int .i64 ((U.frame + 1).tmod 16)) (.int .i64 ((U.frame + 1) % 16)) (by kernel_rfl) (by kernel_rfl) ((by rw [tmod_nn _ _ (by omega)])) ?_
      intro a H
      refine H.val 64 (.pointer (some ⟨b_3, 1, none⟩)) (by kernel_rfl) (by kernel_rfl) ?_
      intro a H
      refine H.val 65 (.int .i64 V.frame) (by kernel_rfl) (ex_load1 (by kernel_rfl) (by kernel_rfl) (HP.cell 0 rfl 1 rfl)) ?_
      intro a H
      refine H.valE 66 (.int .i64 (V.frame.tmod 16)) (.int .i64 (V.frame % 16)) (by kernel_rfl) (by kernel_rfl) ((by rw [tmod_nn _ _ (by omega)])) ?_
      intro a H
      refine H.valE 67 (.bool ((U.frame + 1) % 16 == V.frame % 16)) (.bool true) (by kernel_rfl) (by kernel_rfl) ((congrArg Value.bool (hfr))) ?_
      intro a H
      refine H.val 68 (.bool true) (by kernel_rfl) (by kernel_rfl) ?_
      intro a H
      refine H.val 16 (.bool true) (by kernel_rfl) (by kernel_rfl) ?_
      intro a H
      refine wpList_nil ?_
      have H := H.keep (L' := [(16, (.bool true)), (52, (.bool false)), (51, (.bool false)), (50, (.int .i64 0)), (49, (.bool false)), (48, (.bool false)), (47, (.int .i64 0)), (14, (.string (bstr lv))), (15, (.int .i64 0)), (12, (.string (bstr lu))), (13, (.int .i64 0)), (24, (.bool false)), (3, (.int .i64 (pickI k 40))), (11, (.bool true)), (10, (.bool false)), (7, (.pointer (some ⟨b_3, 0, none⟩))), (6, (.pointer (some ⟨b_1, 0, none⟩))), (4, (.bool false))]) (by kernel_rfl)
      refine then_normal ?_
      refine wp_seq ?_
      refine wp_seq ?_
      refine w_region ?_
      refine H.val 69 (.string (bstr lu)) (by kernel_rfl) (by kernel_rfl) ?_
      intro a H
      refine H.val 70 (.string (bstr lv)) (by kernel_rfl) (by kernel_rfl) ?_
      intro a H
      refine H.call 71 (by kernel_rfl) (Eq.trans (by kernel_rfl : _ = (callFunc 24 #[(.string (bstr lu)), (.string (bstr lv))]).run Tryd.prog w_18) (Tryd.call24 _ _)) ((by have hh := follows_any lu lv w_18 (by omega) (by omega); rw [hfw] at hh; exact hh)) ?_
      rintro e w_19 ⟨rfl, hb⟩
      refine ⟨_, rfl, ?_⟩
      intro a H
      have HP := HP.next hb
      refine H.val 72 (.bool true) (by kernel_rfl) (by kernel_rfl) ?_
      intro a H
      refine H.val 73 (.bool false) (by kernel_rfl) (by kernel_rfl) ?_
      intro a H
      refine wpList_nil ?_
      refine then_normal ?_
      refine w_iff H rfl ?_
      refine wp_skip ?_
      refine then_normal ?_
      refine wp_seq ?_
      refine w_region ?_
      refine H.val 74 (.bool true) (by kernel_rfl) (by kernel_rfl) ?_
      intro a H
      refine H.val 75 (.bool true) (by kernel_rfl) (by kernel_rfl) ?_
      intro a H
      refine H.val 76 (.bool false) (by kernel_rfl) (by kernel_rfl) ?_
      intro a H
      refine H.val 77 (.bool true) (by kernel_rfl) (by kernel_rfl) ?_
      intro a H
      refine H.val 78 (.bool true) (by kernel_rfl) (by kernel_rfl) ?_
      intro a H
      refine H.skip 79 (by kernel_rfl) ?_
      intro a H
      refine H.skip 80 (by kernel_rfl) ?_
      intro a H
      refine H.val 81 (.bool true) (by kernel_rfl) (by kernel_rfl) ?_
      intro a H
      refine H.val 82 (.bool true) (by kernel_rfl) (by kernel_rfl) ?_
      intro a H
      refine H.skip 83 (by kernel_rfl) ?_
      intro a H
      refine H.skip 84 (by kernel_rfl) ?_
      intro a H
      refine H.skip 85 (by kernel_rfl) ?_
      intro a H
      refine H.val 86 (.bool true) (by kernel_rfl) (by kernel_rfl) ?_
      intro a H
      refine H.val 87 (.bool true) (by kernel_rfl) (by kernel_rfl) ?_
      intro a H
      refine H.val 10 (.bool true) (by kernel_rfl) (by kernel_rfl) ?_
      intro a H
      refine wpList_nil ?_
      have H := H.keep (L' := [(10, (.bool true)), (73, (.bool false)), (72, (.bool true)), (71, (.bool true)), (70, (.string (bstr lv))), (69, (.string (bstr lu))), (16, (.bool true)), (52, (.bool false)), (51, (.bool false)), (50, (.int .i64 0)), (49, (.bool false)), (48, (.bool false)), (47, (.int .i64 0)), (14, (.string (bstr lv))), (15, (.int .i64 0)), (12, (.string (bstr lu))), (13, (.int .i64 0)), (24, (.bool false)), (3, (.int .i64 (pickI k 40))), (11, (.bool true)), (7, (.pointer (some ⟨b_3, 0, none⟩))), (6, (.pointer (some ⟨b_1, 0, none⟩))), (4, (.bool false))]) (by kernel_rfl)
      refine then_normal ?_
      refine wp_ret ?_
      refine H.ret1 (fn := Tryd.f11) Tryd.results11 (RV.tmp_ (v := (.bool true)) (by kernel_rfl)) ?_
      exact ⟨rfl, (HP.below (by kernel_rfl))⟩
set_option maxRecDepth 100000 in
set_option maxHeartbeats 4000000 in
theorem fol_fsf (c k : Int) (u v U V : Un) (w : World) (hU : shortU u = U) (hV : shortU v = V) (hL : Laid w) (hc : -9223372036854775808 ≤ c ∧ c ≤ 9223372036854775807) (hk : -9223372036854775808 ≤ k ∧ k ≤ 9223372036854775807) (huu : IsAlts w u.A u.al.length u.al) (hcu : u.al.length ≤ u.c) (hAu : u.A = none → u.c = 0) (huv : IsAlts w v.A v.al.length v.al) (hcv : v.al.length ≤ v.c) (hAv : v.A = none → v.c = 0) (lu : List UInt8) (lv : List UInt8) (hZu : ∀ B c', packP (rateP c).1 (rateP c).2 ({ U with A := B, c := c' } : Un) = some lu) (hZv : ∀ B c', packP (rateP c).1 (rateP c).2 ({ V with A := B, c := c' } : Un) = some lv) (hch : (U.channel == V.channel) = true) (hfr : ((U.frame + 1) % 16 == V.frame % 16) = false) (hfw : followsP lu lv = false) :
    Calls Tryd.prog 11 #[.int .i64 c, u.val, v.val, .int .i64 k, .bool false] w fun e w' => e = .returned (.bool true) ∧ Below w.heap.size w w' := by
  have HP := Hp.start w
  have hp40 := pickI_lt k 40 (by omega)
  obtain ⟨hlu, _, hlu2⟩ := pack_len (hZu none 0)
  obtain ⟨hlv, _, hlv2⟩ := pack_len (hZv none 0)
  obtain ⟨hfu, hfv⟩ := both_frames (hZu none 0) (hZv none 0)
  simp only at hfu hfv
  refine w_enter 88 [(0, (.int .i64 c)), (1, (.agg #[(.int .i64 u.channel), (.int .i64 u.frame), (.int .i64 u.version), (.int .i64 u.item), (.int .i64 u.index), (.bool u.key), (.string (bstr u.data)), (.int .i64 u.regions), (.int .i64 u.gain), (.string (bstr u.caption)), (.int .i64 u.os), (.int .i64 u.of), (.slice u.A u.al.length u.c)])), (2, (.agg #[(.int .i64 v.channel), (.int .i64 v.frame), (.int .i64 v.version), (.int .i64 v.item), (.int .i64 v.index), (.bool v.key), (.string (bstr v.data)), (.int .i64 v.regions), (.int .i64 v.gain), (.string (bstr v.caption)), (.int .i64 v.os), (.int .i64 v.of), (.slice v.A v.al.length v.c)])), (3, (.int .i64 k)), (4, (.bool false))] Tryd.func11 rfl Tryd.ntmps11 (by kernel_rfl) (by kernel_rfl) ?_
  intro a H
  refine wp_seq ?_
  refine w_region ?_
  refine H.alloc HP 6 (fun b => (.pointer (some ⟨b, 0, none⟩))) 28 [(.int .i64 u.channel), (.int .i64 u.frame), (.int .i64 u.version), (.int .i64 u.item), (.int .i64 u.index), (.bool u.key), (.string (bstr u.data)), (.int .i64 u.regions), (.int .i64 u.gain), (.string (bstr u.caption)), (.int .i64 u.os), (.int .i64 u.of), (.slice u.A u.al.length u.c)] (by kernel_rfl) (fun w => by kernel_rfl) ?_
  intro b_1 w_2 a H HP
  refine H.alloc HP 7 (fun b => (.pointer (some ⟨b, 0, none⟩))) 28 [(.int .i64 v.channel), (.int .i64 v.frame), (.int .i64 v.version), (.int .i64 v.item), (.int .i64 v.index), (.bool v.key), (.string (bstr v.data)), (.int .i64 v.regions), (.int .i64 v.gain), (.string (bstr v.caption)), (.int .i64 v.os), (.int .i64 v.of), (.slice v.A v.al.length v.c)] (by kernel_rfl) (fun w => by kernel_rfl) ?_
  intro b_3 w_4 a H HP
  refine H.val 10 (.bool false) (by kernel_rfl) (by kernel_rfl) ?_
  intro a H
  refine wpList_nil ?_
  refine then_normal ?_
  refine wp_seq ?_
  refine w_region ?_
  refine H.call 17 (by kernel_rfl) (Eq.trans (by kernel_rfl : _ = (callFunc 13 #[]).run Tryd.prog w_4) (Tryd.call13 _ _)) (sane_any w_4 (hL.below (HP.below (by kernel_rfl)))) ?_
  rintro e w_5 ⟨rfl, hb⟩
  refine ⟨_, rfl, ?_⟩
  intro a H
  have HP := HP.next hb
  refine H.val 11 (.bool true) (by kernel_rfl) (by kernel_rfl) ?_
  intro a H
  refine wpList_nil ?_
  refine then_normal ?_
  refine wp_seq ?_
  refine w_region ?_
  refine H.val 18 (.agg #[(.int .i64 u.channel), (.int .i64 u.frame), (.int .i64 u.version), (.int .i64 u.item), (.int .i64 u.index), (.bool u.key), (.string (bstr u.data)), (.int .i64 u.regions), (.int .i64 u.gain), (.string (bstr u.caption)), (.int .i64 u.os), (.int .i64 u.of), (.slice u.A u.al.length u.c)]) (by kernel_rfl) (ex_loadN (vs := [(.int .i64 u.channel), (.int .i64 u.frame), (.int .i64 u.version), (.int .i64 u.item), (.int .i64 u.index), (.bool u.key), (.string (bstr u.data)), (.int .i64 u.regions), (.int .i64 u.gain), (.string (bstr u.caption)), (.int .i64 u.os), (.int .i64 u.of), (.slice u.A u.al.length u.c)]) (by kernel_rfl) (by kernel_rfl) (by kernel_rfl) rfl (HP.cells 1 rfl 0 13 (by kernel_rfl))) ?_
  intro a H
  refine H.call 19 (by kernel_rfl) (Eq.trans (by kernel_rfl : _ = (callFunc 15 #[(.agg #[(.int .i64 u.channel), (.int .i64 u.frame), (.int .i64 u.version), (.int .i64 u.item), (.int .i64 u.index), (.bool u.key), (.string (bstr u.data)), (.int .i64 u.regions), (.int .i64 u.gain), (.string (bstr u.caption)), (.int .i64 u.os), (.int .i64 u.of), (.slice u.A u.al.length u.c)])]).run Tryd.prog w_5) (Tryd.call15 _ _)) (short_anyU hU (short_any u w_5 (huu.below (HP.below (by kernel_rfl))) hcu hAu)) ?_
  rintro e w_6 ⟨Bu, cu, rfl, halu, hcau, hcbu, hccu, hfru, hb⟩
  refine ⟨_, rfl, ?_⟩
  intro a H
  have HP := (HP.next hb).keepF ⟨rowFp U.al.length Bu, fun w => IsAlts w Bu U.al.length U.al⟩ halu (fun _ _ h hk hs => ⟨h.1, h.2.keep hk hs⟩) (fun j hj => row_sep HP halu.2 hfru hj)
  refine H.store HP 1 b_1 0 13 28 [(.int .i64 u.channel), (.int .i64 u.frame), (.int .i64 u.version), (.int .i64 u.item), (.int .i64 u.index), (.bool u.key), (.string (bstr u.data)), (.int .i64 u.regions), (.int .i64 u.gain), (.string (bstr u.caption)), (.int .i64 u.os), (.int .i64 u.of), (.slice u.A u.al.length u.c)] true (.agg #[(.int .i64 U.channel), (.int .i64 U.frame), (.int .i64 U.version), (.int .i64 U.item), (.int .i64 U.index), (.bool U.key), (.string (bstr U.data)), (.int .i64 U.regions), (.int .i64 U.gain), (.string (bstr U.caption)), (.int .i64 U.os), (.int .i64 U.of), (.slice Bu U.al.length cu)]) [bx b_3 28 [(.int .i64 v.channel), (.int .i64 v.frame), (.int .i64 v.version), (.int .i64 v.item), (.int .i64 v.index), (.bool v.key), (.string (bstr v.data)), (.int .i64 v.regions), (.int .i64 v.gain), (.string (bstr v.caption)), (.int .i64 v.os), (.int .i64 v.of), (.slice v.A v.al.length v.c)] true, bx b_1 28 [(.int .i64 U.channel), (.int .i64 U.frame), (.int .i64 U.version), (.int .i64 U.item), (.int .i64 U.index), (.bool U.key), (.string (bstr U.data)), (.int .i64 U.regions), (.int .i64 U.gain), (.string (bstr U.caption)), (.int .i64 U.os), (.int .i64 U.of), (.slice Bu U.al.length cu)] true] (by kernel_rfl) (by kernel_rfl) (by kernel_rfl) rfl (by kernel_rfl) (by kernel_rfl) (by kernel_rfl) (by kernel_rfl) (by kernel_rfl) ?_
  intro w_7 a H HP
  refine wpList_nil ?_
  refine then_normal ?_
  refine wp_seq ?_
  refine w_region ?_
  refine H.val 20 (.agg #[(.int .i64 v.channel), (.int .i64 v.frame), (.int .i64 v.version), (.int .i64 v.item), (.int .i64 v.index), (.bool v.key), (.string (bstr v.data)), (.int .i64 v.regions), (.int .i64 v.gain), (.string (bstr v.caption)), (.int .i64 v.os), (.int .i64 v.of), (.slice v.A v.al.length v.c)]) (by kernel_rfl) (ex_loadN (vs := [(.int .i64 v.channel), (.int .i64 v.frame), (.int .i64 v.version), (.int .i64 v.item), (.int .i64 v.index), (.bool v.key), (.string (bstr v.data)), (.int .i64 v.regions), (.int .i64 v.gain), (.string (bstr v.caption)), (.int .i64 v.os), (.int .i64 v.of), (.slice v.A v.al.length v.c)]) (by kernel_rfl) (by kernel_rfl) (by kernel_rfl) rfl (HP.cells 0 rfl 0 13 (by kernel_rfl))) ?_
  intro a H
  refine H.call 21 (by kernel_rfl) (Eq.trans (by kernel_rfl : _ = (callFunc 15 #[(.agg #[(.int .i64 v.channel), (.int .i64 v.frame), (.int .i64 v.version), (.int .i64 v.item), (.int .i64 v.index), (.bool v.key), (.string (bstr v.data)), (.int .i64 v.regions), (.int .i64 v.gain), (.string (bstr v.caption)), (.int .i64 v.os), (.int .i64 v.of), (.slice v.A v.al.length v.c)])]).run Tryd.prog w_7) (Tryd.call15 _ _)) (short_anyU hV (short_any v w_7 (huv.below (HP.below (by kernel_rfl))) hcv hAv)) ?_
  rintro e w_8 ⟨Bv, cv, rfl, halv, hcav, hcbv, hccv, hfrv, hb⟩
  refine ⟨_, rfl, ?_⟩
  intro a H
  have HP := (HP.next hb).keepF ⟨rowFp V.al.length Bv, fun w => IsAlts w Bv V.al.length V.al⟩ halv (fun _ _ h hk hs => ⟨h.1, h.2.keep hk hs⟩) (fun j hj => row_sep HP halv.2 hfrv hj)
  refine H.store HP 0 b_3 0 13 28 [(.int .i64 v.channel), (.int .i64 v.frame), (.int .i64 v.version), (.int .i64 v.item), (.int .i64 v.index), (.bool v.key), (.string (bstr v.data)), (.int .i64 v.regions), (.int .i64 v.gain), (.string (bstr v.caption)), (.int .i64 v.os), (.int .i64 v.of), (.slice v.A v.al.length v.c)] true (.agg #[(.int .i64 V.channel), (.int .i64 V.frame), (.int .i64 V.version), (.int .i64 V.item), (.int .i64 V.index), (.bool V.key), (.string (bstr V.data)), (.int .i64 V.regions), (.int .i64 V.gain), (.string (bstr V.caption)), (.int .i64 V.os), (.int .i64 V.of), (.slice Bv V.al.length cv)]) [bx b_3 28 [(.int .i64 V.channel), (.int .i64 V.frame), (.int .i64 V.version), (.int .i64 V.item), (.int .i64 V.index), (.bool V.key), (.string (bstr V.data)), (.int .i64 V.regions), (.int .i64 V.gain), (.string (bstr V.caption)), (.int .i64 V.os), (.int .i64 V.of), (.slice Bv V.al.length cv)] true, bx b_1 28 [(.int .i64 U.channel), (.int .i64 U.frame), (.int .i64 U.version), (.int .i64 U.item), (.int .i64 U.index), (.bool U.key), (.string (bstr U.data)), (.int .i64 U.regions), (.int .i64 U.gain), (.string (bstr U.caption)), (.int .i64 U.os), (.int .i64 U.of), (.slice Bu U.al.length cu)] true] (by kernel_rfl) (by kernel_rfl) (by kernel_rfl) rfl (by kernel_rfl) (by kernel_rfl) (by kernel_rfl) (by kernel_rfl) (by kernel_rfl) ?_
  intro w_9 a H HP
  refine wpList_nil ?_
  refine then_normal ?_
  refine wp_seq ?_
  refine w_region ?_
  refine H.val 22 (.int .i64 k) (by kernel_rfl) (by kernel_rfl) ?_
  intro a H
  refine H.call 23 (by kernel_rfl) (Eq.trans (by kernel_rfl : _ = (callFunc 27 #[(.int .i64 k), (.int .i64 40)]).run Tryd.prog w_9) (Tryd.call27 _ _)) (pick_any k 40 w_9 (by omega) (by omega)) ?_
  rintro e w_10 ⟨rfl, rfl⟩
  refine ⟨_, rfl, ?_⟩
  intro a H
  refine H.val 3 (.int .i64 (pickI k 40)) (by kernel_rfl) (by kernel_rfl) ?_
  intro a H
  refine wpList_nil ?_
  refine then_normal ?_
  refine wp_seq ?_
  refine wp_seq ?_
  refine w_region ?_
  refine H.val 24 (.bool false) (by kernel_rfl) (by kernel_rfl) ?_
  intro a H
  refine wpList_nil ?_
  refine then_normal ?_
  refine w_iff H rfl ?_
  refine wp_skip ?_
  refine then_normal ?_
  refine w_cut (fun a wv => Sl 88 [(12, (.string (bstr lu))), (13, (.int .i64 0)), (24, (.bool false)), (3, (.int .i64 (pickI k 40))), (11, (.bool true)), (10, (.bool false)), (7, (.pointer (some ⟨b_3, 0, none⟩))), (6, (.pointer (some ⟨b_1, 0, none⟩))), (0, (.int .i64 c)), (4, (.bool false))] a ∧ Hp w wv [bx b_3 28 [(.int .i64 V.channel), (.int .i64 V.frame), (.int .i64 V.version), (.int .i64 V.item), (.int .i64 V.index), (.bool V.key), (.string (bstr V.data)), (.int .i64 V.regions), (.int .i64 V.gain), (.string (bstr V.caption)), (.int .i64 V.os), (.int .i64 V.of), (.slice Bv V.al.length cv)] true, bx b_1 28 [(.int .i64 U.channel), (.int .i64 U.frame), (.int .i64 U.version), (.int .i64 U.item), (.int .i64 U.index), (.bool U.key), (.string (bstr U.data)), (.int .i64 U.regions), (.int .i64 U.gain), (.string (bstr U.caption)), (.int .i64 U.os), (.int .i64 U.of), (.slice Bu U.al.length cu)] true] [⟨rowFp V.al.length Bv, fun w => IsAlts w Bv V.al.length V.al⟩, ⟨rowFp U.al.length Bu, fun w => IsAlts w Bu U.al.length U.al⟩]) ?_ ?_
  ·
    refine An.start (fun v => Hp w v [bx b_3 28 [(.int .i64 V.channel), (.int .i64 V.frame), (.int .i64 V.version), (.int .i64 V.item), (.int .i64 V.index), (.bool V.key), (.string (bstr V.data)), (.int .i64 V.regions), (.int .i64 V.gain), (.string (bstr V.caption)), (.int .i64 V.os), (.int .i64 V.of), (.slice Bv V.al.length cv)] true, bx b_1 28 [(.int .i64 U.channel), (.int .i64 U.frame), (.int .i64 U.version), (.int .i64 U.item), (.int .i64 U.index), (.bool U.key), (.string (bstr U.data)), (.int .i64 U.regions), (.int .i64 U.gain), (.string (bstr U.caption)), (.int .i64 U.os), (.int .i64 U.of), (.slice Bu U.al.length cu)] true] [⟨rowFp V.al.length Bv, fun w => IsAlts w Bv V.al.length V.al⟩, ⟨rowFp U.al.length Bu, fun w => IsAlts w Bu U.al.length U.al⟩]) 9 9 HP wide_follows rfl ?_
    intro w_11 HP
    refine An.pure H (.inr (HP)) 0 34 (.int .i64 c) rfl (by kernel_rfl) (by kernel_rfl) (fun _ _ _ h => h) (fun _ => by kernel_rfl) ?_
    intro a H
    refine An.val H (HP) 2 36 (.agg #[(.int .i64 U.channel), (.int .i64 U.frame), (.int .i64 U.version), (.int .i64 U.item), (.int .i64 U.index), (.bool U.key), (.string (bstr U.data)), (.int .i64 U.regions), (.int .i64 U.gain), (.string (bstr U.caption)), (.int .i64 U.os), (.int .i64 U.of), (.slice Bu U.al.length cu)]) rfl (by kernel_rfl) (by kernel_rfl) (fun _ _ _ h => h) (fun _ hS => ex_loadN (vs := [(.int .i64 U.channel), (.int .i64 U.frame), (.int .i64 U.version), (.int .i64 U.item), (.int .i64 U.index), (.bool U.key), (.string (bstr U.data)), (.int .i64 U.regions), (.int .i64 U.gain), (.string (bstr U.caption)), (.int .i64 U.os), (.int .i64 U.of), (.slice Bu U.al.length cu)]) (by kernel_rfl) (by kernel_rfl) (by kernel_rfl) rfl (hS.cells 1 rfl 0 13 (by kernel_rfl))) ?_
    intro a H
    refine An.one 1 (by kernel_rfl) ?_
    refine Op.call H 35 rfl (by kernel_rfl) (Eq.trans (by kernel_rfl : _ = (callFunc 14 #[(.int .i64 c)]).run Tryd.prog w_11) (Tryd.call14 _ _)) (rate_any c w_11 hc) ?_
    rintro e w_12 ⟨rfl, hb⟩
    refine ⟨_, rfl, ?_⟩
    intro a H
    have HP := HP.next hb
    refine ⟨.inr (HP), ?_⟩
    refine An.one 3 (by kernel_rfl) ?_
    refine Op.call H 37 rfl (by kernel_rfl) (Eq.trans (by kernel_rfl : _ = (callFunc 16 #[(.agg #[(.int .i64 ((rateP c).1)), (.int .i64 ((rateP c).2))]), (.agg #[(.int .i64 U.channel), (.int .i64 U.frame), (.int .i64 U.version), (.int .i64 U.item), (.int .i64 U.index), (.bool U.key), (.string (bstr U.data)), (.int .i64 U.regions), (.int .i64 U.gain), (.string (bstr U.caption)), (.int .i64 U.os), (.int .i64 U.of), (.slice Bu U.al.length cu)])]).run Tryd.prog w_12) (Tryd.call16 _ _)) ((by have hh := pack_any ((rateP c).1) ((rateP c).2) (⟨U.channel, U.frame, U.version, U.item, U.index, U.key, U.data, U.regions, U.gain, U.caption, U.os, U.of, Bu, cu, U.al⟩ : Un) w_12 (hL.below (HP.below (by kernel_rfl))) (HP.fact 1 rfl) (Nat.le_trans hcau hcbu); rw [hZu Bu cu] at hh; exact hh)) ?_
    rintro e w_13 ⟨rfl, hb⟩
    refine ⟨_, rfl, ?_⟩
    intro a H
    have HP := HP.next hb
    refine ⟨.inr (HP), ?_⟩
    refine An.pure H (.inr (HP)) 4 33 (.tuple #[(.string (bstr lu)), (.int .i64 0)]) rfl (by kernel_rfl) (by kernel_rfl) (fun _ _ _ h => h) (fun _ => by kernel_rfl) ?_
    intro a H
    refine An.pure H (.inr (HP)) 5 38 (.string (bstr lu)) rfl (by kernel_rfl) (by kernel_rfl) (fun _ _ _ h => h) (fun _ => by kernel_rfl) ?_
    intro a H
    refine An.pure H (.inr (HP)) 6 39 (.int .i64 0) rfl (by kernel_rfl) (by kernel_rfl) (fun _ _ _ h => h) (fun _ => by kernel_rfl) ?_
    intro a H
    refine An.pure H (.inr (HP)) 7 12 (.string (bstr lu)) rfl (by kernel_rfl) (by kernel_rfl) (fun _ _ _ h => h) (fun _ => by kernel_rfl) ?_
    intro a H
    refine An.pure H (.inr (HP)) 8 13 (.int .i64 0) rfl (by kernel_rfl) (by kernel_rfl) (fun _ _ _ h => h) (fun _ => by kernel_rfl) ?_
    intro a H
    refine An.done (by kernel_rfl) ?_
    have H := H.keep (L' := [(13, (.int .i64 0)), (12, (.string (bstr lu))), (24, (.bool false)), (3, (.int .i64 (pickI k 40))), (23, (.int .i64 (pickI k 40))), (22, (.int .i64 k)), (21, (.agg #[(.int .i64 V.channel), (.int .i64 V.frame), (.int .i64 V.version), (.int .i64 V.item), (.int .i64 V.index), (.bool V.key), (.string (bstr V.data)), (.int .i64 V.regions), (.int .i64 V.gain), (.string (bstr V.caption)), (.int .i64 V.os), (.int .i64 V.of), (.slice Bv V.al.length cv)])), (20, (.agg #[(.int .i64 v.channel), (.int .i64 v.frame), (.int .i64 v.version), (.int .i64 v.item), (.int .i64 v.index), (.bool v.key), (.string (bstr v.data)), (.int .i64 v.regions), (.int .i64 v.gain), (.string (bstr v.caption)), (.int .i64 v.os), (.int .i64 v.of), (.slice v.A v.al.length v.c)])), (19, (.agg #[(.int .i64 U.channel), (.int .i64 U.frame), (.int .i64 U.version), (.int .i64 U.item), (.int .i64 U.index), (.bool U.key), (.string (bstr U.data)), (.int .i64 U.regions), (.int .i64 U.gain), (.string (bstr U.caption)), (.int .i64 U.os), (.int .i64 U.of), (.slice Bu U.al.length cu)])), (18, (.agg #[(.int .i64 u.channel), (.int .i64 u.frame), (.int .i64 u.version), (.int .i64 u.item), (.int .i64 u.index), (.bool u.key), (.string (bstr u.data)), (.int .i64 u.regions), (.int .i64 u.gain), (.string (bstr u.caption)), (.int .i64 u.os), (.int .i64 u.of), (.slice u.A u.al.length u.c)])), (11, (.bool true)), (17, (.bool true)), (10, (.bool false)), (7, (.pointer (some ⟨b_3, 0, none⟩))), (6, (.pointer (some ⟨b_1, 0, none⟩))), (0, (.int .i64 c)), (1, (.agg #[(.int .i64 u.channel), (.int .i64 u.frame), (.int .i64 u.version), (.int .i64 u.item), (.int .i64 u.index), (.bool u.key), (.string (bstr u.data)), (.int .i64 u.regions), (.int .i64 u.gain), (.string (bstr u.caption)), (.int .i64 u.os), (.int .i64 u.of), (.slice u.A u.al.length u.c)])), (2, (.agg #[(.int .i64 v.channel), (.int .i64 v.frame), (.int .i64 v.version), (.int .i64 v.item), (.int .i64 v.index), (.bool v.key), (.string (bstr v.data)), (.int .i64 v.regions), (.int .i64 v.gain), (.string (bstr v.caption)), (.int .i64 v.os), (.int .i64 v.of), (.slice v.A v.al.length v.c)])), (4, (.bool false))]) (by kernel_rfl)
    refine then_normal ?_
    exact ⟨H.keep (by kernel_rfl), HP⟩
  ·
    rintro a w_14 ⟨H, HP⟩
    refine w_cut (fun a wv => Sl 88 [(14, (.string (bstr lv))), (15, (.int .i64 0)), (12, (.string (bstr lu))), (13, (.int .i64 0)), (24, (.bool false)), (3, (.int .i64 (pickI k 40))), (11, (.bool true)), (10, (.bool false)), (7, (.pointer (some ⟨b_3, 0, none⟩))), (6, (.pointer (some ⟨b_1, 0, none⟩))), (4, (.bool false))] a ∧ Hp w wv [bx b_3 28 [(.int .i64 V.channel), (.int .i64 V.frame), (.int .i64 V.version), (.int .i64 V.item), (.int .i64 V.index), (.bool V.key), (.string (bstr V.data)), (.int .i64 V.regions), (.int .i64 V.gain), (.string (bstr V.caption)), (.int .i64 V.os), (.int .i64 V.of), (.slice Bv V.al.length cv)] true, bx b_1 28 [(.int .i64 U.channel), (.int .i64 U.frame), (.int .i64 U.version), (.int .i64 U.item), (.int .i64 U.index), (.bool U.key), (.string (bstr U.data)), (.int .i64 U.regions), (.int .i64 U.gain), (.string (bstr U.caption)), (.int .i64 U.os), (.int .i64 U.of), (.slice Bu U.al.length cu)] true] [⟨rowFp V.al.length Bv, fun w => IsAlts w Bv V.al.length V.al⟩, ⟨rowFp U.al.length Bu, fun w => IsAlts w Bu U.al.length U.al⟩]) ?_ ?_
    ·
      refine An.start (fun v => Hp w v [bx b_3 28 [(.int .i64 V.channel), (.int .i64 V.frame), (.int .i64 V.version), (.int .i64 V.item), (.int .i64 V.index), (.bool V.key), (.string (bstr V.data)), (.int .i64 V.regions), (.int .i64 V.gain), (.string (bstr V.caption)), (.int .i64 V.os), (.int .i64 V.of), (.slice Bv V.al.length cv)] true, bx b_1 28 [(.int .i64 U.channel), (.int .i64 U.frame), (.int .i64 U.version), (.int .i64 U.item), (.int .i64 U.index), (.bool U.key), (.string (bstr U.data)), (.int .i64 U.regions), (.int .i64 U.gain), (.string (bstr U.caption)), (.int .i64 U.os), (.int .i64 U.of), (.slice Bu U.al.length cu)] true] [⟨rowFp V.al.length Bv, fun w => IsAlts w Bv V.al.length V.al⟩, ⟨rowFp U.al.length Bu, fun w => IsAlts w Bu U.al.length U.al⟩]) 9 9 HP wide_follows rfl ?_
      intro w_15 HP
      refine An.pure H (.inr (HP)) 0 41 (.int .i64 c) rfl (by kernel_rfl) (by kernel_rfl) (fun _ _ _ h => h) (fun _ => by kernel_rfl) ?_
      intro a H
      refine An.val H (HP) 2 43 (.agg #[(.int .i64 V.channel), (.int .i64 V.frame), (.int .i64 V.version), (.int .i64 V.item), (.int .i64 V.index), (.bool V.key), (.string (bstr V.data)), (.int .i64 V.regions), (.int .i64 V.gain), (.string (bstr V.caption)), (.int .i64 V.os), (.int .i64 V.of), (.slice Bv V.al.length cv)]) rfl (by kernel_rfl) (by kernel_rfl) (fun _ _ _ h => h) (fun _ hS => ex_loadN (vs := [(.int .i64 V.channel), (.int .i64 V.frame), (.int .i64 V.version), (.int .i64 V.item), (.int .i64 V.index), (.bool V.key), (.string (bstr V.data)), (.int .i64 V.regions), (.int .i64 V.gain), (.string (bstr V.caption)), (.int .i64 V.os), (.int .i64 V.of), (.slice Bv V.al.length cv)]) (by kernel_rfl) (by kernel_rfl) (by kernel_rfl) rfl (hS.cells 0 rfl 0 13 (by kernel_rfl))) ?_
      intro a H
      refine An.one 1 (by kernel_rfl) ?_
      refine Op.call H 42 rfl (by kernel_rfl) (Eq.trans (by kernel_rfl : _ = (callFunc 14 #[(.int .i64 c)]).run Tryd.prog w_15) (Tryd.call14 _ _)) (rate_any c w_15 hc) ?_
      rintro e w_16 ⟨rfl, hb⟩
      refine ⟨_, rfl, ?_⟩
      intro a H
      have HP := HP.next hb
      refine ⟨.inr (HP), ?_⟩
      refine An.one 3 (by kernel_rfl) ?_
      refine Op.call H 44 rfl (by kernel_rfl) (Eq.trans (by kernel_rfl : _ = (callFunc 16 #[(.agg #[(.int .i64 ((rateP c).1)), (.int .i64 ((rateP c).2))]), (.agg #[(.int .i64 V.channel), (.int .i64 V.frame), (.int .i64 V.version), (.int .i64 V.item), (.int .i64 V.index), (.bool V.key), (.string (bstr V.data)), (.int .i64 V.regions), (.int .i64 V.gain), (.string (bstr V.caption)), (.int .i64 V.os), (.int .i64 V.of), (.slice Bv V.al.length cv)])]).run Tryd.prog w_16) (Tryd.call16 _ _)) ((by have hh := pack_any ((rateP c).1) ((rateP c).2) (⟨V.channel, V.frame, V.version, V.item, V.index, V.key, V.data, V.regions, V.gain, V.caption, V.os, V.of, Bv, cv, V.al⟩ : Un) w_16 (hL.below (HP.below (by kernel_rfl))) (HP.fact 0 rfl) (Nat.le_trans hcav hcbv); rw [hZv Bv cv] at hh; exact hh)) ?_
      rintro e w_17 ⟨rfl, hb⟩
      refine ⟨_, rfl, ?_⟩
      intro a H
      have HP := HP.next hb
      refine ⟨.inr (HP), ?_⟩
      refine An.pure H (.inr (HP)) 4 40 (.tuple #[(.string (bstr lv)), (.int .i64 0)]) rfl (by kernel_rfl) (by kernel_rfl) (fun _ _ _ h => h) (fun _ => by kernel_rfl) ?_
      intro a H
      refine An.pure H (.inr (HP)) 5 45 (.string (bstr lv)) rfl (by kernel_rfl) (by kernel_rfl) (fun _ _ _ h => h) (fun _ => by kernel_rfl) ?_
      intro a H
      refine An.pure H (.inr (HP)) 6 46 (.int .i64 0) rfl (by kernel_rfl) (by kernel_rfl) (fun _ _ _ h => h) (fun _ => by kernel_rfl) ?_
      intro a H
      refine An.pure H (.inr (HP)) 7 14 (.string (bstr lv)) rfl (by kernel_rfl) (by kernel_rfl) (fun _ _ _ h => h) (fun _ => by kernel_rfl) ?_
      intro a H
      refine An.pure H (.inr (HP)) 8 15 (.int .i64 0) rfl (by kernel_rfl) (by kernel_rfl) (fun _ _ _ h => h) (fun _ => by kernel_rfl) ?_
      intro a H
      refine An.done (by kernel_rfl) ?_
      have H := H.keep (L' := [(15, (.int .i64 0)), (14, (.string (bstr lv))), (12, (.string (bstr lu))), (13, (.int .i64 0)), (24, (.bool false)), (3, (.int .i64 (pickI k 40))), (11, (.bool true)), (10, (.bool false)), (7, (.pointer (some ⟨b_3, 0, none⟩))), (6, (.pointer (some ⟨b_1, 0, none⟩))), (0, (.int .i64 c)), (4, (.bool false))]) (by kernel_rfl)
      refine then_normal ?_
      exact ⟨H.keep (by kernel_rfl), HP⟩
    ·
      rintro a w_18 ⟨H, HP⟩
      refine wp_seq ?_
      refine wp_seq ?_
      refine w_region ?_
      refine H.val 47 (.int .i64 0) (by kernel_rfl) (by kernel_rfl) ?_
      intro a H
      refine H.val 48 (.bool false) (by kernel_rfl) (by kernel_rfl) ?_
      intro a H
      refine H.val 49 (.bool false) (by kernel_rfl) (by kernel_rfl) ?_
      intro a H
      refine H.val 50 (.int .i64 0) (by kernel_rfl) (by kernel_rfl) ?_
      intro a H
      refine H.val 51 (.bool false) (by kernel_rfl) (by kernel_rfl) ?_
      intro a H
      refine H.val 52 (.bool false) (by kernel_rfl) (by kernel_rfl) ?_
      intro a H
      refine wpList_nil ?_
      refine then_normal ?_
      refine w_iff H rfl ?_
      refine wp_skip ?_
      refine then_normal ?_
      refine wp_seq ?_
      refine w_region ?_
      refine H.val 54 (.pointer (some ⟨b_1, 0, none⟩)) (by kernel_rfl) (by kernel_rfl) ?_
      intro a H
      refine H.val 55 (.int .i64 U.channel) (by kernel_rfl) (ex_load1 (by kernel_rfl) (by kernel_rfl) (HP.cell 1 rfl 0 rfl)) ?_
      intro a H
      refine H.val 56 (.pointer (some ⟨b_3, 0, none⟩)) (by kernel_rfl) (by kernel_rfl) ?_
      intro a H
      refine H.val 57 (.int .i64 V.channel) (by kernel_rfl) (ex_load1 (by kernel_rfl) (by kernel_rfl) (HP.cell 0 rfl 0 rfl)) ?_
      intro a H
      refine H.valE 58 (.bool (U.channel == V.channel)) (.bool true) (by kernel_rfl) (by kernel_rfl) ((congrArg Value.bool (hch))) ?_
      intro a H
      refine H.val 59 (.bool true) (by kernel_rfl) (by kernel_rfl) ?_
      intro a H
      refine H.val 60 (.pointer (some ⟨b_1, 1, none⟩)) (by kernel_rfl) (by kernel_rfl) ?_
      intro a H
      refine H.val 61 (.int .i64 U.frame) (by kernel_rfl) (ex_load1 (by kernel_rfl) (by kernel_rfl) (HP.cell 1 rfl 1 rfl)) ?_
      intro a H
      refine H.valE 62 (.int .i64 (IntKind.i64.wrap (U.frame + 1))) (.int .i64 (U.frame + 1)) (by kernel_rfl) (by kernel_rfl) ((by rw [wrap_ini64 _ (by omega)])) ?_
      intro a H
      refine H.valE 63 (.int .i64 ((U.frame + 1).tmod 16)) (.int .i64 ((U.frame + 1) % 16)) (by kernel_rfl) (by kernel_rfl) ((by rw [tmod_nn _ _ (by omega)])) ?_
      intro a H
      refine H.val 64 (.pointer (some ⟨b_3, 1, none⟩)) (by kernel_rfl) (by kernel_rfl) ?_
      intro a H
      refine H.val 65 (.int .i64 V.frame) (by kernel_rfl) (ex_load1 (by kernel_rfl) (by kernel_rfl) (HP.cell 0 rfl 1 rfl)) ?_
      intro a H
      refine H.valE 66 (.int .i64 (V.frame.tmod 16)) (.int .i64 (V.frame % 16)) (by kernel_rfl) (by kernel_rfl) ((by rw [tmod_nn _ _ (by omega)])) ?_
      intro a H
      refine H.valE 67 (.bool ((U.frame + 1) % 16 == V.frame % 16)) (.bool false) (by kernel_rfl) (by kernel_rfl) ((congrArg Value.bool (hfr))) ?_
      intro a H
      refine H.val 68 (.bool false) (by kernel_rfl) (by kernel_rfl) ?_
      intro a H
      refine H.val 16 (.bool false) (by kernel_rfl) (by kernel_rfl) ?_
      intro a H
      refine wpList_nil ?_
      have H := H.keep (L' := [(16, (.bool false)), (52, (.bool false)), (51, (.bool false)), (50, (.int .i64 0)), (49, (.bool false)), (48, (.bool false)), (47, (.int .i64 0)), (14, (.string (bstr lv))), (15, (.int .i64 0)), (12, (.string (bstr lu))), (13, (.int .i64 0)), (24, (.bool false)), (3, (.int .i64 (pickI k 40))), (11, (.bool true)), (10, (.bool false)), (7, (.pointer (some ⟨b_3, 0, none⟩))), (6, (.pointer (some ⟨b_1, 0, none⟩))), (4, (.bool false))]) (by kernel_rfl)
      refine then_normal ?_
      refine wp_seq ?_
      refine wp_seq ?_
      refine w_region ?_
      refine H.val 69 (.string (bstr lu)) (by kernel_rfl) (by kernel_rfl) ?_
      intro a H
      refine H.val 70 (.string (bstr lv)) (by kernel_rfl) (by kernel_rfl) ?_
      intro a H
      refine H.call 71 (by kernel_rfl) (Eq.trans (by kernel_rfl : _ = (callFunc 24 #[(.string (bstr lu)), (.string (bstr lv))]).run Tryd.prog w_18) (Tryd.call24 _ _)) ((by have hh := follows_any lu lv w_18 (by omega) (by omega); rw [hfw] at hh; exact hh)) ?_
      rintro e w_19 ⟨rfl, hb⟩
      refine ⟨_, rfl, ?_⟩
      intro a H
      have HP := HP.next hb
      refine H.val 72 (.bool false) (by kernel_rfl) (by kernel_rfl) ?_
      intro a H
      refine H.val 73 (.bool false) (by kernel_rfl) (by kernel_rfl) ?_
      intro a H
      refine wpList_nil ?_
      refine then_normal ?_
      refine w_iff H rfl ?_
      refine wp_skip ?_
      refine then_normal ?_
      refine wp_seq ?_
      refine w_region ?_
      refine H.val 74 (.bool true) (by kernel_rfl) (by kernel_rfl) ?_
      intro a H
      refine H.val 75 (.bool true) (by kernel_rfl) (by kernel_rfl) ?_
      intro a H
      refine H.val 76 (.bool false) (by kernel_rfl) (by kernel_rfl) ?_
      intro a H
      refine H.val 77 (.bool true) (by kernel_rfl) (by kernel_rfl) ?_
      intro a H
      refine H.val 78 (.bool true) (by kernel_rfl) (by kernel_rfl) ?_
      intro a H
      refine H.skip 79 (by kernel_rfl) ?_
      intro a H
      refine H.skip 80 (by kernel_rfl) ?_
      intro a H
      refine H.val 81 (.bool true) (by kernel_rfl) (by kernel_rfl) ?_
      intro a H
      refine H.val 82 (.bool true) (by kernel_rfl) (by kernel_rfl) ?_
      intro a H
      refine H.skip 83 (by kernel_rfl) ?_
      intro a H
      refine H.skip 84 (by kernel_rfl) ?_
      intro a H
      refine H.skip 85 (by kernel_rfl) ?_
      intro a H
      refine H.val 86 (.bool true) (by kernel_rfl) (by kernel_rfl) ?_
      intro a H
      refine H.val 87 (.bool true) (by kernel_rfl) (by kernel_rfl) ?_
      intro a H
      refine H.val 10 (.bool true) (by kernel_rfl) (by kernel_rfl) ?_
      intro a H
      refine wpList_nil ?_
      have H := H.keep (L' := [(10, (.bool true)), (73, (.bool false)), (72, (.bool false)), (71, (.bool false)), (70, (.string (bstr lv))), (69, (.string (bstr lu))), (16, (.bool false)), (52, (.bool false)), (51, (.bool false)), (50, (.int .i64 0)), (49, (.bool false)), (48, (.bool false)), (47, (.int .i64 0)), (14, (.string (bstr lv))), (15, (.int .i64 0)), (12, (.string (bstr lu))), (13, (.int .i64 0)), (24, (.bool false)), (3, (.int .i64 (pickI k 40))), (11, (.bool true)), (7, (.pointer (some ⟨b_3, 0, none⟩))), (6, (.pointer (some ⟨b_1, 0, none⟩))), (4, (.bool false))]) (by kernel_rfl)
      refine then_normal ?_
      refine wp_ret ?_
      refine H.ret1 (fn := Tryd.f11) Tryd.results11 (RV.tmp_ (v := (.bool true)) (by kernel_rfl)) ?_
      exact ⟨rfl, (HP.below (by kernel_rfl))⟩
set_option maxRecDepth 100000 in
set_option maxHeartbeats 4000000 in
theorem fol_fsc (c k : Int) (u v U V : Un) (w : World) (hU : shortU u = U) (hV : shortU v = V) (hL : Laid w) (hc : -9223372036854775808 ≤ c ∧ c ≤ 9223372036854775807) (hk : -9223372036854775808 ≤ k ∧ k ≤ 9223372036854775807) (huu : IsAlts w u.A u.al.length u.al) (hcu : u.al.length ≤ u.c) (hAu : u.A = none → u.c = 0) (huv : IsAlts w v.A v.al.length v.al) (hcv : v.al.length ≤ v.c) (hAv : v.A = none → v.c = 0) (lu : List UInt8) (lv : List UInt8) (hZu : ∀ B c', packP (rateP c).1 (rateP c).2 ({ U with A := B, c := c' } : Un) = some lu) (hZv : ∀ B c', packP (rateP c).1 (rateP c).2 ({ V with A := B, c := c' } : Un) = some lv) (hch : (U.channel == V.channel) = false) (hfw : followsP lu lv = false) :
    Calls Tryd.prog 11 #[.int .i64 c, u.val, v.val, .int .i64 k, .bool false] w fun e w' => e = .returned (.bool true) ∧ Below w.heap.size w w' := by
  have HP := Hp.start w
  have hp40 := pickI_lt k 40 (by omega)
  obtain ⟨hlu, _, hlu2⟩ := pack_len (hZu none 0)
  obtain ⟨hlv, _, hlv2⟩ := pack_len (hZv none 0)
  obtain ⟨hfu, hfv⟩ := both_frames (hZu none 0) (hZv none 0)
  simp only at hfu hfv
  refine w_enter 88 [(0, (.int .i64 c)), (1, (.agg #[(.int .i64 u.channel), (.int .i64 u.frame), (.int .i64 u.version), (.int .i64 u.item), (.int .i64 u.index), (.bool u.key), (.string (bstr u.data)), (.int .i64 u.regions), (.int .i64 u.gain), (.string (bstr u.caption)), (.int .i64 u.os), (.int .i64 u.of), (.slice u.A u.al.length u.c)])), (2, (.agg #[(.int .i64 v.channel), (.int .i64 v.frame), (.int .i64 v.version), (.int .i64 v.item), (.int .i64 v.index), (.bool v.key), (.string (bstr v.data)), (.int .i64 v.regions), (.int .i64 v.gain), (.string (bstr v.caption)), (.int .i64 v.os), (.int .i64 v.of), (.slice v.A v.al.length v.c)])), (3, (.int .i64 k)), (4, (.bool false))] Tryd.func11 rfl Tryd.ntmps11 (by kernel_rfl) (by kernel_rfl) ?_
  intro a H
  refine wp_seq ?_
  refine w_region ?_
  refine H.alloc HP 6 (fun b => (.pointer (some ⟨b, 0, none⟩))) 28 [(.int .i64 u.channel), (.int .i64 u.frame), (.int .i64 u.version), (.int .i64 u.item), (.int .i64 u.index), (.bool u.key), (.string (bstr u.data)), (.int .i64 u.regions), (.int .i64 u.gain), (.string (bstr u.caption)), (.int .i64 u.os), (.int .i64 u.of), (.slice u.A u.al.length u.c)] (by kernel_rfl) (fun w => by kernel_rfl) ?_
  intro b_1 w_2 a H HP
  refine H.alloc HP 7 (fun b => (.pointer (some ⟨b, 0, none⟩))) 28 [(.int .i64 v.channel), (.int .i64 v.frame), (.int .i64 v.version), (.int .i64 v.item), (.int .i64 v.index), (.bool v.key), (.string (bstr v.data)), (.int .i64 v.regions), (.int .i64 v.gain), (.string (bstr v.caption)), (.int .i64 v.os), (.int .i64 v.of), (.slice v.A v.al.length v.c)] (by kernel_rfl) (fun w => by kernel_rfl) ?_
  intro b_3 w_4 a H HP
  refine H.val 10 (.bool false) (by kernel_rfl) (by kernel_rfl) ?_
  intro a H
  refine wpList_nil ?_
  refine then_normal ?_
  refine wp_seq ?_
  refine w_region ?_
  refine H.call 17 (by kernel_rfl) (Eq.trans (by kernel_rfl : _ = (callFunc 13 #[]).run Tryd.prog w_4) (Tryd.call13 _ _)) (sane_any w_4 (hL.below (HP.below (by kernel_rfl)))) ?_
  rintro e w_5 ⟨rfl, hb⟩
  refine ⟨_, rfl, ?_⟩
  intro a H
  have HP := HP.next hb
  refine H.val 11 (.bool true) (by kernel_rfl) (by kernel_rfl) ?_
  intro a H
  refine wpList_nil ?_
  refine then_normal ?_
  refine wp_seq ?_
  refine w_region ?_
  refine H.val 18 (.agg #[(.int .i64 u.channel), (.int .i64 u.frame), (.int .i64 u.version), (.int .i64 u.item), (.int .i64 u.index), (.bool u.key), (.string (bstr u.data)), (.int .i64 u.regions), (.int .i64 u.gain), (.string (bstr u.caption)), (.int .i64 u.os), (.int .i64 u.of), (.slice u.A u.al.length u.c)]) (by kernel_rfl) (ex_loadN (vs := [(.int .i64 u.channel), (.int .i64 u.frame), (.int .i64 u.version), (.int .i64 u.item), (.int .i64 u.index), (.bool u.key), (.string (bstr u.data)), (.int .i64 u.regions), (.int .i64 u.gain), (.string (bstr u.caption)), (.int .i64 u.os), (.int .i64 u.of), (.slice u.A u.al.length u.c)]) (by kernel_rfl) (by kernel_rfl) (by kernel_rfl) rfl (HP.cells 1 rfl 0 13 (by kernel_rfl))) ?_
  intro a H
  refine H.call 19 (by kernel_rfl) (Eq.trans (by kernel_rfl : _ = (callFunc 15 #[(.agg #[(.int .i64 u.channel), (.int .i64 u.frame), (.int .i64 u.version), (.int .i64 u.item), (.int .i64 u.index), (.bool u.key), (.string (bstr u.data)), (.int .i64 u.regions), (.int .i64 u.gain), (.string (bstr u.caption)), (.int .i64 u.os), (.int .i64 u.of), (.slice u.A u.al.length u.c)])]).run Tryd.prog w_5) (Tryd.call15 _ _)) (short_anyU hU (short_any u w_5 (huu.below (HP.below (by kernel_rfl))) hcu hAu)) ?_
  rintro e w_6 ⟨Bu, cu, rfl, halu, hcau, hcbu, hccu, hfru, hb⟩
  refine ⟨_, rfl, ?_⟩
  intro a H
  have HP := (HP.next hb).keepF ⟨rowFp U.al.length Bu, fun w => IsAlts w Bu U.al.length U.al⟩ halu (fun _ _ h hk hs => ⟨h.1, h.2.keep hk hs⟩) (fun j hj => row_sep HP halu.2 hfru hj)
  refine H.store HP 1 b_1 0 13 28 [(.int .i64 u.channel), (.int .i64 u.frame), (.int .i64 u.version), (.int .i64 u.item), (.int .i64 u.index), (.bool u.key), (.string (bstr u.data)), (.int .i64 u.regions), (.int .i64 u.gain), (.string (bstr u.caption)), (.int .i64 u.os), (.int .i64 u.of), (.slice u.A u.al.length u.c)] true (.agg #[(.int .i64 U.channel), (.int .i64 U.frame), (.int .i64 U.version), (.int .i64 U.item), (.int .i64 U.index), (.bool U.key), (.string (bstr U.data)), (.int .i64 U.regions), (.int .i64 U.gain), (.string (bstr U.caption)), (.int .i64 U.os), (.int .i64 U.of), (.slice Bu U.al.length cu)]) [bx b_3 28 [(.int .i64 v.channel), (.int .i64 v.frame), (.int .i64 v.version), (.int .i64 v.item), (.int .i64 v.index), (.bool v.key), (.string (bstr v.data)), (.int .i64 v.regions), (.int .i64 v.gain), (.string (bstr v.caption)), (.int .i64 v.os), (.int .i64 v.of), (.slice v.A v.al.length v.c)] true, bx b_1 28 [(.int .i64 U.channel), (.int .i64 U.frame), (.int .i64 U.version), (.int .i64 U.item), (.int .i64 U.index), (.bool U.key), (.string (bstr U.data)), (.int .i64 U.regions), (.int .i64 U.gain), (.string (bstr U.caption)), (.int .i64 U.os), (.int .i64 U.of), (.slice Bu U.al.length cu)] true] (by kernel_rfl) (by kernel_rfl) (by kernel_rfl) rfl (by kernel_rfl) (by kernel_rfl) (by kernel_rfl) (by kernel_rfl) (by kernel_rfl) ?_
  intro w_7 a H HP
  refine wpList_nil ?_
  refine then_normal ?_
  refine wp_seq ?_
  refine w_region ?_
  refine H.val 20 (.agg #[(.int .i64 v.channel), (.int .i64 v.frame), (.int .i64 v.version), (.int .i64 v.item), (.int .i64 v.index), (.bool v.key), (.string (bstr v.data)), (.int .i64 v.regions), (.int .i64 v.gain), (.string (bstr v.caption)), (.int .i64 v.os), (.int .i64 v.of), (.slice v.A v.al.length v.c)]) (by kernel_rfl) (ex_loadN (vs := [(.int .i64 v.channel), (.int .i64 v.frame), (.int .i64 v.version), (.int .i64 v.item), (.int .i64 v.index), (.bool v.key), (.string (bstr v.data)), (.int .i64 v.regions), (.int .i64 v.gain), (.string (bstr v.caption)), (.int .i64 v.os), (.int .i64 v.of), (.slice v.A v.al.length v.c)]) (by kernel_rfl) (by kernel_rfl) (by kernel_rfl) rfl (HP.cells 0 rfl 0 13 (by kernel_rfl))) ?_
  intro a H
  refine H.call 21 (by kernel_rfl) (Eq.trans (by kernel_rfl : _ = (callFunc 15 #[(.agg #[(.int .i64 v.channel), (.int .i64 v.frame), (.int .i64 v.version), (.int .i64 v.item), (.int .i64 v.index), (.bool v.key), (.string (bstr v.data)), (.int .i64 v.regions), (.int .i64 v.gain), (.string (bstr v.caption)), (.int .i64 v.os), (.int .i64 v.of), (.slice v.A v.al.length v.c)])]).run Tryd.prog w_7) (Tryd.call15 _ _)) (short_anyU hV (short_any v w_7 (huv.below (HP.below (by kernel_rfl))) hcv hAv)) ?_
  rintro e w_8 ⟨Bv, cv, rfl, halv, hcav, hcbv, hccv, hfrv, hb⟩
  refine ⟨_, rfl, ?_⟩
  intro a H
  have HP := (HP.next hb).keepF ⟨rowFp V.al.length Bv, fun w => IsAlts w Bv V.al.length V.al⟩ halv (fun _ _ h hk hs => ⟨h.1, h.2.keep hk hs⟩) (fun j hj => row_sep HP halv.2 hfrv hj)
  refine H.store HP 0 b_3 0 13 28 [(.int .i64 v.channel), (.int .i64 v.frame), (.int .i64 v.version), (.int .i64 v.item), (.int .i64 v.index), (.bool v.key), (.string (bstr v.data)), (.int .i64 v.regions), (.int .i64 v.gain), (.string (bstr v.caption)), (.int .i64 v.os), (.int .i64 v.of), (.slice v.A v.al.length v.c)] true (.agg #[(.int .i64 V.channel), (.int .i64 V.frame), (.int .i64 V.version), (.int .i64 V.item), (.int .i64 V.index), (.bool V.key), (.string (bstr V.data)), (.int .i64 V.regions), (.int .i64 V.gain), (.string (bstr V.caption)), (.int .i64 V.os), (.int .i64 V.of), (.slice Bv V.al.length cv)]) [bx b_3 28 [(.int .i64 V.channel), (.int .i64 V.frame), (.int .i64 V.version), (.int .i64 V.item), (.int .i64 V.index), (.bool V.key), (.string (bstr V.data)), (.int .i64 V.regions), (.int .i64 V.gain), (.string (bstr V.caption)), (.int .i64 V.os), (.int .i64 V.of), (.slice Bv V.al.length cv)] true, bx b_1 28 [(.int .i64 U.channel), (.int .i64 U.frame), (.int .i64 U.version), (.int .i64 U.item), (.int .i64 U.index), (.bool U.key), (.string (bstr U.data)), (.int .i64 U.regions), (.int .i64 U.gain), (.string (bstr U.caption)), (.int .i64 U.os), (.int .i64 U.of), (.slice Bu U.al.length cu)] true] (by kernel_rfl) (by kernel_rfl) (by kernel_rfl) rfl (by kernel_rfl) (by kernel_rfl) (by kernel_rfl) (by kernel_rfl) (by kernel_rfl) ?_
  intro w_9 a H HP
  refine wpList_nil ?_
  refine then_normal ?_
  refine wp_seq ?_
  refine w_region ?_
  refine H.val 22 (.int .i64 k) (by kernel_rfl) (by kernel_rfl) ?_
  intro a H
  refine H.call 23 (by kernel_rfl) (Eq.trans (by kernel_rfl : _ = (callFunc 27 #[(.int .i64 k), (.int .i64 40)]).run Tryd.prog w_9) (Tryd.call27 _ _)) (pick_any k 40 w_9 (by omega) (by omega)) ?_
  rintro e w_10 ⟨rfl, rfl⟩
  refine ⟨_, rfl, ?_⟩
  intro a H
  refine H.val 3 (.int .i64 (pickI k 40)) (by kernel_rfl) (by kernel_rfl) ?_
  intro a H
  refine wpList_nil ?_
  refine then_normal ?_
  refine wp_seq ?_
  refine wp_seq ?_
  refine w_region ?_
  refine H.val 24 (.bool false) (by kernel_rfl) (by kernel_rfl) ?_
  intro a H
  refine wpList_nil ?_
  refine then_normal ?_
  refine w_iff H rfl ?_
  refine wp_skip ?_
  refine then_normal ?_
  refine w_cut (fun a wv => Sl 88 [(12, (.string (bstr lu))), (13, (.int .i64 0)), (24, (.bool false)), (3, (.int .i64 (pickI k 40))), (11, (.bool true)), (10, (.bool false)), (7, (.pointer (some ⟨b_3, 0, none⟩))), (6, (.pointer (some ⟨b_1, 0, none⟩))), (0, (.int .i64 c)), (4, (.bool false))] a ∧ Hp w wv [bx b_3 28 [(.int .i64 V.channel), (.int .i64 V.frame), (.int .i64 V.version), (.int .i64 V.item), (.int .i64 V.index), (.bool V.key), (.string (bstr V.data)), (.int .i64 V.regions), (.int .i64 V.gain), (.string (bstr V.caption)), (.int .i64 V.os), (.int .i64 V.of), (.slice Bv V.al.length cv)] true, bx b_1 28 [(.int .i64 U.channel), (.int .i64 U.frame), (.int .i64 U.version), (.int .i64 U.item), (.int .i64 U.index), (.bool U.key), (.string (bstr U.data)), (.int .i64 U.regions), (.int .i64 U.gain), (.string (bstr U.caption)), (.int .i64 U.os), (.int .i64 U.of), (.slice Bu U.al.length cu)] true] [⟨rowFp V.al.length Bv, fun w => IsAlts w Bv V.al.length V.al⟩, ⟨rowFp U.al.length Bu, fun w => IsAlts w Bu U.al.length U.al⟩]) ?_ ?_
  ·
    refine An.start (fun v => Hp w v [bx b_3 28 [(.int .i64 V.channel), (.int .i64 V.frame), (.int .i64 V.version), (.int .i64 V.item), (.int .i64 V.index), (.bool V.key), (.string (bstr V.data)), (.int .i64 V.regions), (.int .i64 V.gain), (.string (bstr V.caption)), (.int .i64 V.os), (.int .i64 V.of), (.slice Bv V.al.length cv)] true, bx b_1 28 [(.int .i64 U.channel), (.int .i64 U.frame), (.int .i64 U.version), (.int .i64 U.item), (.int .i64 U.index), (.bool U.key), (.string (bstr U.data)), (.int .i64 U.regions), (.int .i64 U.gain), (.string (bstr U.caption)), (.int .i64 U.os), (.int .i64 U.of), (.slice Bu U.al.length cu)] true] [⟨rowFp V.al.length Bv, fun w => IsAlts w Bv V.al.length V.al⟩, ⟨rowFp U.al.length Bu, fun w => IsAlts w Bu U.al.length U.al⟩]) 9 9 HP wide_follows rfl ?_
    intro w_11 HP
    refine An.pure H (.inr (HP)) 0 34 (.int .i64 c) rfl (by kernel_rfl) (by kernel_rfl) (fun _ _ _ h => h) (fun _ => by kernel_rfl) ?_
    intro a H
    refine An.val H (HP) 2 36 (.agg #[(.int .i64 U.channel), (.int .i64 U.frame), (.int .i64 U.version), (.int .i64 U.item), (.int .i64 U.index), (.bool U.key), (.string (bstr U.data)), (.int .i64 U.regions), (.int .i64 U.gain), (.string (bstr U.caption)), (.int .i64 U.os), (.int .i64 U.of), (.slice Bu U.al.length cu)]) rfl (by kernel_rfl) (by kernel_rfl) (fun _ _ _ h => h) (fun _ hS => ex_loadN (vs := [(.int .i64 U.channel), (.int .i64 U.frame), (.int .i64 U.version), (.int .i64 U.item), (.int .i64 U.index), (.bool U.key), (.string (bstr U.data)), (.int .i64 U.regions), (.int .i64 U.gain), (.string (bstr U.caption)), (.int .i64 U.os), (.int .i64 U.of), (.slice Bu U.al.length cu)]) (by kernel_rfl) (by kernel_rfl) (by kernel_rfl) rfl (hS.cells 1 rfl 0 13 (by kernel_rfl))) ?_
    intro a H
    refine An.one 1 (by kernel_rfl) ?_
    refine Op.call H 35 rfl (by kernel_rfl) (Eq.trans (by kernel_rfl : _ = (callFunc 14 #[(.int .i64 c)]).run Tryd.prog w_11) (Tryd.call14 _ _)) (rate_any c w_11 hc) ?_
    rintro e w_12 ⟨rfl, hb⟩
    refine ⟨_, rfl, ?_⟩
    intro a H
    have HP := HP.next hb
    refine ⟨.inr (HP), ?_⟩
    refine An.one 3 (by kernel_rfl) ?_
    refine Op.call H 37 rfl (by kernel_rfl) (Eq.trans (by kernel_rfl : _ = (callFunc 16 #[(.agg #[(.int .i64 ((rateP c).1)), (.int .i64 ((rateP c).2))]), (.agg #[(.int .i64 U.channel), (.int .i64 U.frame), (.int .i64 U.version), (.int .i64 U.item), (.int .i64 U.index), (.bool U.key), (.string (bstr U.data)), (.int .i64 U.regions), (.int .i64 U.gain), (.string (bstr U.caption)), (.int .i64 U.os), (.int .i64 U.of), (.slice Bu U.al.length cu)])]).run Tryd.prog w_12) (Tryd.call16 _ _)) ((by have hh := pack_any ((rateP c).1) ((rateP c).2) (⟨U.channel, U.frame, U.version, U.item, U.index, U.key, U.data, U.regions, U.gain, U.caption, U.os, U.of, Bu, cu, U.al⟩ : Un) w_12 (hL.below (HP.below (by kernel_rfl))) (HP.fact 1 rfl) (Nat.le_trans hcau hcbu); rw [hZu Bu cu] at hh; exact hh)) ?_
    rintro e w_13 ⟨rfl, hb⟩
    refine ⟨_, rfl, ?_⟩
    intro a H
    have HP := HP.next hb
    refine ⟨.inr (HP), ?_⟩
    refine An.pure H (.inr (HP)) 4 33 (.tuple #[(.string (bstr lu)), (.int .i64 0)]) rfl (by kernel_rfl) (by kernel_rfl) (fun _ _ _ h => h) (fun _ => by kernel_rfl) ?_
    intro a H
    refine An.pure H (.inr (HP)) 5 38 (.string (bstr lu)) rfl (by kernel_rfl) (by kernel_rfl) (fun _ _ _ h => h) (fun _ => by kernel_rfl) ?_
    intro a H
    refine An.pure H (.inr (HP)) 6 39 (.int .i64 0) rfl (by kernel_rfl) (by kernel_rfl) (fun _ _ _ h => h) (fun _ => by kernel_rfl) ?_
    intro a H
    refine An.pure H (.inr (HP)) 7 12 (.string (bstr lu)) rfl (by kernel_rfl) (by kernel_rfl) (fun _ _ _ h => h) (fun _ => by kernel_rfl) ?_
    intro a H
    refine An.pure H (.inr (HP)) 8 13 (.int .i64 0) rfl (by kernel_rfl) (by kernel_rfl) (fun _ _ _ h => h) (fun _ => by kernel_rfl) ?_
    intro a H
    refine An.done (by kernel_rfl) ?_
    have H := H.keep (L' := [(13, (.int .i64 0)), (12, (.string (bstr lu))), (24, (.bool false)), (3, (.int .i64 (pickI k 40))), (23, (.int .i64 (pickI k 40))), (22, (.int .i64 k)), (21, (.agg #[(.int .i64 V.channel), (.int .i64 V.frame), (.int .i64 V.version), (.int .i64 V.item), (.int .i64 V.index), (.bool V.key), (.string (bstr V.data)), (.int .i64 V.regions), (.int .i64 V.gain), (.string (bstr V.caption)), (.int .i64 V.os), (.int .i64 V.of), (.slice Bv V.al.length cv)])), (20, (.agg #[(.int .i64 v.channel), (.int .i64 v.frame), (.int .i64 v.version), (.int .i64 v.item), (.int .i64 v.index), (.bool v.key), (.string (bstr v.data)), (.int .i64 v.regions), (.int .i64 v.gain), (.string (bstr v.caption)), (.int .i64 v.os), (.int .i64 v.of), (.slice v.A v.al.length v.c)])), (19, (.agg #[(.int .i64 U.channel), (.int .i64 U.frame), (.int .i64 U.version), (.int .i64 U.item), (.int .i64 U.index), (.bool U.key), (.string (bstr U.data)), (.int .i64 U.regions), (.int .i64 U.gain), (.string (bstr U.caption)), (.int .i64 U.os), (.int .i64 U.of), (.slice Bu U.al.length cu)])), (18, (.agg #[(.int .i64 u.channel), (.int .i64 u.frame), (.int .i64 u.version), (.int .i64 u.item), (.int .i64 u.index), (.bool u.key), (.string (bstr u.data)), (.int .i64 u.regions), (.int .i64 u.gain), (.string (bstr u.caption)), (.int .i64 u.os), (.int .i64 u.of), (.slice u.A u.al.length u.c)])), (11, (.bool true)), (17, (.bool true)), (10, (.bool false)), (7, (.pointer (some ⟨b_3, 0, none⟩))), (6, (.pointer (some ⟨b_1, 0, none⟩))), (0, (.int .i64 c)), (1, (.agg #[(.int .i64 u.channel), (.int .i64 u.frame), (.int .i64 u.version), (.int .i64 u.item), (.int .i64 u.index), (.bool u.key), (.string (bstr u.data)), (.int .i64 u.regions), (.int .i64 u.gain), (.string (bstr u.caption)), (.int .i64 u.os), (.int .i64 u.of), (.slice u.A u.al.length u.c)])), (2, (.agg #[(.int .i64 v.channel), (.int .i64 v.frame), (.int .i64 v.version), (.int .i64 v.item), (.int .i64 v.index), (.bool v.key), (.string (bstr v.data)), (.int .i64 v.regions), (.int .i64 v.gain), (.string (bstr v.caption)), (.int .i64 v.os), (.int .i64 v.of), (.slice v.A v.al.length v.c)])), (4, (.bool false))]) (by kernel_rfl)
    refine then_normal ?_
    exact ⟨H.keep (by kernel_rfl), HP⟩
  ·
    rintro a w_14 ⟨H, HP⟩
    refine w_cut (fun a wv => Sl 88 [(14, (.string (bstr lv))), (15, (.int .i64 0)), (12, (.string (bstr lu))), (13, (.int .i64 0)), (24, (.bool false)), (3, (.int .i64 (pickI k 40))), (11, (.bool true)), (10, (.bool false)), (7, (.pointer (some ⟨b_3, 0, none⟩))), (6, (.pointer (some ⟨b_1, 0, none⟩))), (4, (.bool false))] a ∧ Hp w wv [bx b_3 28 [(.int .i64 V.channel), (.int .i64 V.frame), (.int .i64 V.version), (.int .i64 V.item), (.int .i64 V.index), (.bool V.key), (.string (bstr V.data)), (.int .i64 V.regions), (.int .i64 V.gain), (.string (bstr V.caption)), (.int .i64 V.os), (.int .i64 V.of), (.slice Bv V.al.length cv)] true, bx b_1 28 [(.int .i64 U.channel), (.int .i64 U.frame), (.int .i64 U.version), (.int .i64 U.item), (.int .i64 U.index), (.bool U.key), (.string (bstr U.data)), (.int .i64 U.regions), (.int .i64 U.gain), (.string (bstr U.caption)), (.int .i64 U.os), (.int .i64 U.of), (.slice Bu U.al.length cu)] true] [⟨rowFp V.al.length Bv, fun w => IsAlts w Bv V.al.length V.al⟩, ⟨rowFp U.al.length Bu, fun w => IsAlts w Bu U.al.length U.al⟩]) ?_ ?_
    ·
      refine An.start (fun v => Hp w v [bx b_3 28 [(.int .i64 V.channel), (.int .i64 V.frame), (.int .i64 V.version), (.int .i64 V.item), (.int .i64 V.index), (.bool V.key), (.string (bstr V.data)), (.int .i64 V.regions), (.int .i64 V.gain), (.string (bstr V.caption)), (.int .i64 V.os), (.int .i64 V.of), (.slice Bv V.al.length cv)] true, bx b_1 28 [(.int .i64 U.channel), (.int .i64 U.frame), (.int .i64 U.version), (.int .i64 U.item), (.int .i64 U.index), (.bool U.key), (.string (bstr U.data)), (.int .i64 U.regions), (.int .i64 U.gain), (.string (bstr U.caption)), (.int .i64 U.os), (.int .i64 U.of), (.slice Bu U.al.length cu)] true] [⟨rowFp V.al.length Bv, fun w => IsAlts w Bv V.al.length V.al⟩, ⟨rowFp U.al.length Bu, fun w => IsAlts w Bu U.al.length U.al⟩]) 9 9 HP wide_follows rfl ?_
      intro w_15 HP
      refine An.pure H (.inr (HP)) 0 41 (.int .i64 c) rfl (by kernel_rfl) (by kernel_rfl) (fun _ _ _ h => h) (fun _ => by kernel_rfl) ?_
      intro a H
      refine An.val H (HP) 2 43 (.agg #[(.int .i64 V.channel), (.int .i64 V.frame), (.int .i64 V.version), (.int .i64 V.item), (.int .i64 V.index), (.bool V.key), (.string (bstr V.data)), (.int .i64 V.regions), (.int .i64 V.gain), (.string (bstr V.caption)), (.int .i64 V.os), (.int .i64 V.of), (.slice Bv V.al.length cv)]) rfl (by kernel_rfl) (by kernel_rfl) (fun _ _ _ h => h) (fun _ hS => ex_loadN (vs := [(.int .i64 V.channel), (.int .i64 V.frame), (.int .i64 V.version), (.int .i64 V.item), (.int .i64 V.index), (.bool V.key), (.string (bstr V.data)), (.int .i64 V.regions), (.int .i64 V.gain), (.string (bstr V.caption)), (.int .i64 V.os), (.int .i64 V.of), (.slice Bv V.al.length cv)]) (by kernel_rfl) (by kernel_rfl) (by kernel_rfl) rfl (hS.cells 0 rfl 0 13 (by kernel_rfl))) ?_
      intro a H
      refine An.one 1 (by kernel_rfl) ?_
      refine Op.call H 42 rfl (by kernel_rfl) (Eq.trans (by kernel_rfl : _ = (callFunc 14 #[(.int .i64 c)]).run Tryd.prog w_15) (Tryd.call14 _ _)) (rate_any c w_15 hc) ?_
      rintro e w_16 ⟨rfl, hb⟩
      refine ⟨_, rfl, ?_⟩
      intro a H
      have HP := HP.next hb
      refine ⟨.inr (HP), ?_⟩
      refine An.one 3 (by kernel_rfl) ?_
      refine Op.call H 44 rfl (by kernel_rfl) (Eq.trans (by kernel_rfl : _ = (callFunc 16 #[(.agg #[(.int .i64 ((rateP c).1)), (.int .i64 ((rateP c).2))]), (.agg #[(.int .i64 V.channel), (.int .i64 V.frame), (.int .i64 V.version), (.int .i64 V.item), (.int .i64 V.index), (.bool V.key), (.string (bstr V.data)), (.int .i64 V.regions), (.int .i64 V.gain), (.string (bstr V.caption)), (.int .i64 V.os), (.int .i64 V.of), (.slice Bv V.al.length cv)])]).run Tryd.prog w_16) (Tryd.call16 _ _)) ((by have hh := pack_any ((rateP c).1) ((rateP c).2) (⟨V.channel, V.frame, V.version, V.item, V.index, V.key, V.data, V.regions, V.gain, V.caption, V.os, V.of, Bv, cv, V.al⟩ : Un) w_16 (hL.below (HP.below (by kernel_rfl))) (HP.fact 0 rfl) (Nat.le_trans hcav hcbv); rw [hZv Bv cv] at hh; exact hh)) ?_
      rintro e w_17 ⟨rfl, hb⟩
      refine ⟨_, rfl, ?_⟩
      intro a H
      have HP := HP.next hb
      refine ⟨.inr (HP), ?_⟩
      refine An.pure H (.inr (HP)) 4 40 (.tuple #[(.string (bstr lv)), (.int .i64 0)]) rfl (by kernel_rfl) (by kernel_rfl) (fun _ _ _ h => h) (fun _ => by kernel_rfl) ?_
      intro a H
      refine An.pure H (.inr (HP)) 5 45 (.string (bstr lv)) rfl (by kernel_rfl) (by kernel_rfl) (fun _ _ _ h => h) (fun _ => by kernel_rfl) ?_
      intro a H
      refine An.pure H (.inr (HP)) 6 46 (.int .i64 0) rfl (by kernel_rfl) (by kernel_rfl) (fun _ _ _ h => h) (fun _ => by kernel_rfl) ?_
      intro a H
      refine An.pure H (.inr (HP)) 7 14 (.string (bstr lv)) rfl (by kernel_rfl) (by kernel_rfl) (fun _ _ _ h => h) (fun _ => by kernel_rfl) ?_
      intro a H
      refine An.pure H (.inr (HP)) 8 15 (.int .i64 0) rfl (by kernel_rfl) (by kernel_rfl) (fun _ _ _ h => h) (fun _ => by kernel_rfl) ?_
      intro a H
      refine An.done (by kernel_rfl) ?_
      have H := H.keep (L' := [(15, (.int .i64 0)), (14, (.string (bstr lv))), (12, (.string (bstr lu))), (13, (.int .i64 0)), (24, (.bool false)), (3, (.int .i64 (pickI k 40))), (11, (.bool true)), (10, (.bool false)), (7, (.pointer (some ⟨b_3, 0, none⟩))), (6, (.pointer (some ⟨b_1, 0, none⟩))), (0, (.int .i64 c)), (4, (.bool false))]) (by kernel_rfl)
      refine then_normal ?_
      exact ⟨H.keep (by kernel_rfl), HP⟩
    ·
      rintro a w_18 ⟨H, HP⟩
      refine wp_seq ?_
      refine wp_seq ?_
      refine w_region ?_
      refine H.val 47 (.int .i64 0) (by kernel_rfl) (by kernel_rfl) ?_
      intro a H
      refine H.val 48 (.bool false) (by kernel_rfl) (by kernel_rfl) ?_
      intro a H
      refine H.val 49 (.bool false) (by kernel_rfl) (by kernel_rfl) ?_
      intro a H
      refine H.val 50 (.int .i64 0) (by kernel_rfl) (by kernel_rfl) ?_
      intro a H
      refine H.val 51 (.bool false) (by kernel_rfl) (by kernel_rfl) ?_
      intro a H
      refine H.val 52 (.bool false) (by kernel_rfl) (by kernel_rfl) ?_
      intro a H
      refine wpList_nil ?_
      refine then_normal ?_
      refine w_iff H rfl ?_
      refine wp_skip ?_
      refine then_normal ?_
      refine wp_seq ?_
      refine w_region ?_
      refine H.val 54 (.pointer (some ⟨b_1, 0, none⟩)) (by kernel_rfl) (by kernel_rfl) ?_
      intro a H
      refine H.val 55 (.int .i64 U.channel) (by kernel_rfl) (ex_load1 (by kernel_rfl) (by kernel_rfl) (HP.cell 1 rfl 0 rfl)) ?_
      intro a H
      refine H.val 56 (.pointer (some ⟨b_3, 0, none⟩)) (by kernel_rfl) (by kernel_rfl) ?_
      intro a H
      refine H.val 57 (.int .i64 V.channel) (by kernel_rfl) (ex_load1 (by kernel_rfl) (by kernel_rfl) (HP.cell 0 rfl 0 rfl)) ?_
      intro a H
      refine H.valE 58 (.bool (U.channel == V.channel)) (.bool false) (by kernel_rfl) (by kernel_rfl) ((congrArg Value.bool (hch))) ?_
      intro a H
      refine H.val 59 (.bool false) (by kernel_rfl) (by kernel_rfl) ?_
      intro a H
      refine H.skip 60 (by kernel_rfl) ?_
      intro a H
      refine H.skip 61 (by kernel_rfl) ?_
      intro a H
      refine H.skip 62 (by kernel_rfl) ?_
      intro a H
      refine H.skip 63 (by kernel_rfl) ?_
      intro a H
      refine H.skip 64 (by kernel_rfl) ?_
      intro a H
      refine H.skip 65 (by kernel_rfl) ?_
      intro a H
      refine H.skip 66 (by kernel_rfl) ?_
      intro a H
      refine H.skip 67 (by kernel_rfl) ?_
      intro a H
      refine H.val 68 (.bool false) (by kernel_rfl) (by kernel_rfl) ?_
      intro a H
      refine H.val 16 (.bool false) (by kernel_rfl) (by kernel_rfl) ?_
      intro a H
      refine wpList_nil ?_
      have H := H.keep (L' := [(16, (.bool false)), (52, (.bool false)), (51, (.bool false)), (50, (.int .i64 0)), (49, (.bool false)), (48, (.bool false)), (47, (.int .i64 0)), (14, (.string (bstr lv))), (15, (.int .i64 0)), (12, (.string (bstr lu))), (13, (.int .i64 0)), (24, (.bool false)), (3, (.int .i64 (pickI k 40))), (11, (.bool true)), (10, (.bool false)), (7, (.pointer (some ⟨b_3, 0, none⟩))), (6, (.pointer (some ⟨b_1, 0, none⟩))), (4, (.bool false))]) (by kernel_rfl)
      refine then_normal ?_
      refine wp_seq ?_
      refine wp_seq ?_
      refine w_region ?_
      refine H.val 69 (.string (bstr lu)) (by kernel_rfl) (by kernel_rfl) ?_
      intro a H
      refine H.val 70 (.string (bstr lv)) (by kernel_rfl) (by kernel_rfl) ?_
      intro a H
      refine H.call 71 (by kernel_rfl) (Eq.trans (by kernel_rfl : _ = (callFunc 24 #[(.string (bstr lu)), (.string (bstr lv))]).run Tryd.prog w_18) (Tryd.call24 _ _)) ((by have hh := follows_any lu lv w_18 (by omega) (by omega); rw [hfw] at hh; exact hh)) ?_
      rintro e w_19 ⟨rfl, hb⟩
      refine ⟨_, rfl, ?_⟩
      intro a H
      have HP := HP.next hb
      refine H.val 72 (.bool false) (by kernel_rfl) (by kernel_rfl) ?_
      intro a H
      refine H.val 73 (.bool false) (by kernel_rfl) (by kernel_rfl) ?_
      intro a H
      refine wpList_nil ?_
      refine then_normal ?_
      refine w_iff H rfl ?_
      refine wp_skip ?_
      refine then_normal ?_
      refine wp_seq ?_
      refine w_region ?_
      refine H.val 74 (.bool true) (by kernel_rfl) (by kernel_rfl) ?_
      intro a H
      refine H.val 75 (.bool true) (by kernel_rfl) (by kernel_rfl) ?_
      intro a H
      refine H.val 76 (.bool false) (by kernel_rfl) (by kernel_rfl) ?_
      intro a H
      refine H.val 77 (.bool true) (by kernel_rfl) (by kernel_rfl) ?_
      intro a H
      refine H.val 78 (.bool true) (by kernel_rfl) (by kernel_rfl) ?_
      intro a H
      refine H.skip 79 (by kernel_rfl) ?_
      intro a H
      refine H.skip 80 (by kernel_rfl) ?_
      intro a H
      refine H.val 81 (.bool true) (by kernel_rfl) (by kernel_rfl) ?_
      intro a H
      refine H.val 82 (.bool true) (by kernel_rfl) (by kernel_rfl) ?_
      intro a H
      refine H.skip 83 (by kernel_rfl) ?_
      intro a H
      refine H.skip 84 (by kernel_rfl) ?_
      intro a H
      refine H.skip 85 (by kernel_rfl) ?_
      intro a H
      refine H.val 86 (.bool true) (by kernel_rfl) (by kernel_rfl) ?_
      intro a H
      refine H.val 87 (.bool true) (by kernel_rfl) (by kernel_rfl) ?_
      intro a H
      refine H.val 10 (.bool true) (by kernel_rfl) (by kernel_rfl) ?_
      intro a H
      refine wpList_nil ?_
      have H := H.keep (L' := [(10, (.bool true)), (73, (.bool false)), (72, (.bool false)), (71, (.bool false)), (70, (.string (bstr lv))), (69, (.string (bstr lu))), (16, (.bool false)), (52, (.bool false)), (51, (.bool false)), (50, (.int .i64 0)), (49, (.bool false)), (48, (.bool false)), (47, (.int .i64 0)), (14, (.string (bstr lv))), (15, (.int .i64 0)), (12, (.string (bstr lu))), (13, (.int .i64 0)), (24, (.bool false)), (3, (.int .i64 (pickI k 40))), (11, (.bool true)), (7, (.pointer (some ⟨b_3, 0, none⟩))), (6, (.pointer (some ⟨b_1, 0, none⟩))), (4, (.bool false))]) (by kernel_rfl)
      refine then_normal ?_
      refine wp_ret ?_
      refine H.ret1 (fn := Tryd.f11) Tryd.results11 (RV.tmp_ (v := (.bool true)) (by kernel_rfl)) ?_
      exact ⟨rfl, (HP.below (by kernel_rfl))⟩
theorem follows_all (c k : Int) (u v : Un) (same : Bool) (w : World) (hL : Laid w) (hc : -9223372036854775808 ≤ c ∧ c ≤ 9223372036854775807) (hk : -9223372036854775808 ≤ k ∧ k ≤ 9223372036854775807) (huu : IsAlts w u.A u.al.length u.al) (hcu : u.al.length ≤ u.c) (hAu : u.A = none → u.c = 0) (huv : IsAlts w v.A v.al.length v.al) (hcv : v.al.length ≤ v.c) (hAv : v.A = none → v.c = 0) :
    Calls Tryd.prog 11 #[.int .i64 c, u.val, v.val, .int .i64 k, .bool same] w fun e w' => e = .returned (.bool true) ∧ Below w.heap.size w w' := by
  obtain ⟨U, hU⟩ : ∃ U, shortU u = U := ⟨_, rfl⟩
  obtain ⟨V, hV⟩ : ∃ V, shortU v = V := ⟨_, rfl⟩
  cases hu' : packP (rateP c).1 (rateP c).2 U with
  | none =>
    have hZu : ∀ B c', packP (rateP c).1 (rateP c).2 ({ U with A := B, c := c' } : Un) = none := fun _ _ => hu'
    cases same with
    | true =>
      obtain ⟨Zv, hv'⟩ : ∃ Zv, packP (rateP c).1 (rateP c).2 (⟨U.channel, IntKind.i64.wrap (U.frame + pickI k 40), V.version, V.item, V.index, V.key, V.data, V.regions, V.gain, V.caption, V.os, V.of, none, 0, V.al⟩ : Un) = Zv := ⟨_, rfl⟩
      exact fol_tn c k u v U V w hU hV hL hc hk huu hcu hAu huv hcv hAv Zv hZu fun _ _ => hv'
    | false =>
      obtain ⟨Zv, hv'⟩ : ∃ Zv, packP (rateP c).1 (rateP c).2 V = Zv := ⟨_, rfl⟩
      exact fol_fn c k u v U V w hU hV hL hc hk huu hcu hAu huv hcv hAv Zv hZu fun _ _ => hv'
  | some lu =>
    have hZu : ∀ B c', packP (rateP c).1 (rateP c).2 ({ U with A := B, c := c' } : Un) = some lu := fun _ _ => hu'
    cases same with
    | true =>
      cases hv' : packP (rateP c).1 (rateP c).2 (⟨U.channel, IntKind.i64.wrap (U.frame + pickI k 40), V.version, V.item, V.index, V.key, V.data, V.regions, V.gain, V.caption, V.os, V.of, none, 0, V.al⟩ : Un) with
      | none => exact fol_tsn c k u v U V w hU hV hL hc hk huu hcu hAu huv hcv hAv lu hZu fun _ _ => hv'
      | some lv =>
        have hfw := follows_law hu' hv'
        have hch : (U.channel == U.channel) = true := beq_self_eq_true _
        cases hfr : ((U.frame + 1) % 16 == (IntKind.i64.wrap (U.frame + pickI k 40)) % 16) with
        | true => exact fol_tss c k u v U V w hU hV hL hc hk huu hcu hAu huv hcv hAv lu lv hZu (fun _ _ => hv') hch hfr (by rw [hfw]; simp only [hch, hfr, Bool.and_true])
        | false =>
          refine fol_tsf c k u v U V w hU hV hL hc hk huu hcu hAu huv hcv hAv lu lv hZu (fun _ _ => hv') hch hfr (by rw [hfw]; simp only [hfr, Bool.and_false]) ?_
          rw [bne_iff_ne]
          intro e
          have hf := (valid_of_pack hu').2
          rw [e, wrap_ini64 _ (by omega)] at hfr
          simp at hfr
    | false =>
      cases hv' : packP (rateP c).1 (rateP c).2 V with
      | none => exact fol_fsn c k u v U V w hU hV hL hc hk huu hcu hAu huv hcv hAv lu hZu fun _ _ => hv'
      | some lv =>
        have hfw := follows_law hu' hv'
        cases hch : (U.channel == V.channel) with
        | false => exact fol_fsc c k u v U V w hU hV hL hc hk huu hcu hAu huv hcv hAv lu lv hZu (fun _ _ => hv') hch (by rw [hfw]; simp only [hch, Bool.false_and])
        | true =>
          cases hfr : ((U.frame + 1) % 16 == V.frame % 16) with
          | true => exact fol_fss c k u v U V w hU hV hL hc hk huu hcu hAu huv hcv hAv lu lv hZu (fun _ _ => hv') hch hfr (by rw [hfw]; simp only [hch, hfr, Bool.and_true])
          | false => exact fol_fsf c k u v U V w hU hV hL hc hk huu hcu hAu huv hcv hAv lu lv hZu (fun _ _ => hv') hch hfr (by rw [hfw]; simp only [hfr, Bool.and_false])
end Go.Proofs.YtgdjpaeclicdfaaDoor
