/- TransportPackets: the walk. -/
import Derived.Test.YtgdjpaeclicdfaaDoorLwA
import Derived.Test.YtgdjpaeclicdfaaDoorTrM
namespace Go.Proofs.YtgdjpaeclicdfaaDoor
open Go.ChangeShapes Go.WideShapes Go.ChangeAt Go.RowKit
set_option linter.unusedVariables false
set_option linter.unusedSimpArgs false

theorem valid_of_pack {rn rd : Int} {u : Un} {l : List UInt8} (h : packP rn rd u = some l) : (0 ≤ u.channel ∧ u.channel < 40) ∧ (0 ≤ u.frame ∧ u.frame ≤ 100000000) := by
  obtain ⟨_, hv, _⟩ := packP_some h
  obtain ⟨hf, _⟩ := validU_facts hv
  exact ⟨⟨hf.1, hf.2.1⟩, hf.2.2.1, hf.2.2.2.1⟩
theorem pack_none {rn rd : Int} {u : Un} (hr : rateOk rn rd = true) (h : packP rn rd u = none) : validU u = false := by
  unfold packP at h
  rw [hr] at h
  cases hv : validU u with
  | false => rfl
  | true => rw [hv] at h; simp at h
theorem flag_a (N j : Nat) : (!((((flagsP N j % 2 : Nat) : Int) == 1) == (((j : Nat) : Int) == 0))) = false := by
  rw [flags_first]
  by_cases h : j = 0
  · subst h; rfl
  · rw [if_neg h]
    have : (((j : Nat) : Int) == 0) = false := by rw [beq_eq_false_iff_ne]; omega
    rw [this]; rfl
theorem flag_b {N : Nat} (hN : 1 ≤ N) (j : Nat) : (!((((flagsP N j / 2 : Nat) : Int) == 1) == (((j : Nat) : Int) == ((N : Nat) : Int) - 1))) = false := by
  rw [flags_last]
  by_cases h : j + 1 = N
  · rw [if_pos h]
    have : (((j : Nat) : Int) == ((N : Nat) : Int) - 1) = true := by rw [beq_iff_eq]; omega
    rw [this]; rfl
  · rw [if_neg h]
    have : (((j : Nat) : Int) == ((N : Nat) : Int) - 1) = false := by rw [beq_eq_false_iff_ne]; omega
    rw [this]; rfl
set_option maxRecDepth 100000 in
set_option maxHeartbeats 4000000 in
theorem pks_n (c : Int) (u U : Un) (w : World) (hU : shortU u = U) (hL : Laid w) (hc : -9223372036854775808 ≤ c ∧ c ≤ 9223372036854775807) (huu : IsAlts w u.A u.al.length u.al) (hcu : u.al.length ≤ u.c) (hAu : u.A = none → u.c = 0) (hZu : ∀ B c', packP (rateP c).1 (rateP c).2 ({ U with A := B, c := c' } : Un) = none) :
    Calls Tryd.prog 7 #[.int .i64 c, u.val] w fun e w' => e = .returned (.bool true) ∧ Below w.heap.size w w' := by
  have HP := Hp.start w
  have hvu : validU U = false := pack_none (rateP_ok c) (hZu none 0)
  refine w_enter 144 [(0, (.int .i64 c)), (1, (.agg #[(.int .i64 u.channel), (.int .i64 u.frame), (.int .i64 u.version), (.int .i64 u.item), (.int .i64 u.index), (.bool u.key), (.string (bstr u.data)), (.int .i64 u.regions), (.int .i64 u.gain), (.string (bstr u.caption)), (.int .i64 u.os), (.int .i64 u.of), (.slice u.A u.al.length u.c)]))] Tryd.func7 rfl Tryd.ntmps7 (by kernel_rfl) (by kernel_rfl) ?_
  intro a H
  refine wp_seq ?_
  refine w_region ?_
  refine H.alloc HP 3 (fun b => (.pointer (some ⟨b, 0, none⟩))) 28 [(.int .i64 u.channel), (.int .i64 u.frame), (.int .i64 u.version), (.int .i64 u.item), (.int .i64 u.index), (.bool u.key), (.string (bstr u.data)), (.int .i64 u.regions), (.int .i64 u.gain), (.string (bstr u.caption)), (.int .i64 u.os), (.int .i64 u.of), (.slice u.A u.al.length u.c)] (by kernel_rfl) (fun w => by kernel_rfl) ?_
  intro b_1 w_2 a H HP
  refine H.val 4 (.bool false) (by kernel_rfl) (by kernel_rfl) ?_
  intro a H
  refine wpList_nil ?_
  refine then_normal ?_
  refine wp_seq ?_
  refine w_region ?_
  refine H.call 13 (by kernel_rfl) (Eq.trans (by kernel_rfl : _ = (callFunc 13 #[]).run Tryd.prog w_2) (Tryd.call13 _ _)) (sane_any w_2 (hL.below (HP.below (by kernel_rfl)))) ?_
  rintro e w_3 ⟨rfl, hb⟩
  refine ⟨_, rfl, ?_⟩
  intro a H
  have HP := HP.next hb
  refine H.val 5 (.bool true) (by kernel_rfl) (by kernel_rfl) ?_
  intro a H
  refine wpList_nil ?_
  refine then_normal ?_
  refine wp_seq ?_
  refine w_region ?_
  refine H.val 14 (.agg #[(.int .i64 u.channel), (.int .i64 u.frame), (.int .i64 u.version), (.int .i64 u.item), (.int .i64 u.index), (.bool u.key), (.string (bstr u.data)), (.int .i64 u.regions), (.int .i64 u.gain), (.string (bstr u.caption)), (.int .i64 u.os), (.int .i64 u.of), (.slice u.A u.al.length u.c)]) (by kernel_rfl) (ex_loadN (vs := [(.int .i64 u.channel), (.int .i64 u.frame), (.int .i64 u.version), (.int .i64 u.item), (.int .i64 u.index), (.bool u.key), (.string (bstr u.data)), (.int .i64 u.regions), (.int .i64 u.gain), (.string (bstr u.caption)), (.int .i64 u.os), (.int .i64 u.of), (.slice u.A u.al.length u.c)]) (by kernel_rfl) (by kernel_rfl) (by kernel_rfl) rfl (HP.cells 0 rfl 0 13 (by kernel_rfl))) ?_
  intro a H
  refine H.call 15 (by kernel_rfl) (Eq.trans (by kernel_rfl : _ = (callFunc 15 #[(.agg #[(.int .i64 u.channel), (.int .i64 u.frame), (.int .i64 u.version), (.int .i64 u.item), (.int .i64 u.index), (.bool u.key), (.string (bstr u.data)), (.int .i64 u.regions), (.int .i64 u.gain), (.string (bstr u.caption)), (.int .i64 u.os), (.int .i64 u.of), (.slice u.A u.al.length u.c)])]).run Tryd.prog w_3) (Tryd.call15 _ _)) (short_anyU hU (short_any u w_3 (huu.below (HP.below (by kernel_rfl))) hcu hAu)) ?_
  rintro e w_4 ⟨Bu, cu, rfl, halu, hcau, hcbu, hccu, hfru, hb⟩
  refine ⟨_, rfl, ?_⟩
  intro a H
  have HP := (HP.next hb).keepF ⟨rowFp U.al.length Bu, fun w => IsAlts w Bu U.al.length U.al⟩ halu (fun _ _ h hk hs => ⟨h.1, h.2.keep hk hs⟩) (fun j hj => row_sep HP halu.2 hfru hj)
  refine H.store HP 0 b_1 0 13 28 [(.int .i64 u.channel), (.int .i64 u.frame), (.int .i64 u.version), (.int .i64 u.item), (.int .i64 u.index), (.bool u.key), (.string (bstr u.data)), (.int .i64 u.regions), (.int .i64 u.gain), (.string (bstr u.caption)), (.int .i64 u.os), (.int .i64 u.of), (.slice u.A u.al.length u.c)] true (.agg #[(.int .i64 U.channel), (.int .i64 U.frame), (.int .i64 U.version), (.int .i64 U.item), (.int .i64 U.index), (.bool U.key), (.string (bstr U.data)), (.int .i64 U.regions), (.int .i64 U.gain), (.string (bstr U.caption)), (.int .i64 U.os), (.int .i64 U.of), (.slice Bu U.al.length cu)]) [bx b_1 28 [(.int .i64 U.channel), (.int .i64 U.frame), (.int .i64 U.version), (.int .i64 U.item), (.int .i64 U.index), (.bool U.key), (.string (bstr U.data)), (.int .i64 U.regions), (.int .i64 U.gain), (.string (bstr U.caption)), (.int .i64 U.os), (.int .i64 U.of), (.slice Bu U.al.length cu)] true] (by kernel_rfl) (by kernel_rfl) (by kernel_rfl) rfl (by kernel_rfl) (by kernel_rfl) (by kernel_rfl) (by kernel_rfl) (by kernel_rfl) ?_
  intro w_5 a H HP
  refine wpList_nil ?_
  refine then_normal ?_
  refine w_cut (fun a wv => Sl 144 [(6, (.string (bstr ([])))), (7, (.int .i64 180)), (5, (.bool true)), (4, (.bool false)), (3, (.pointer (some ⟨b_1, 0, none⟩)))] a ∧ Hp w wv [bx b_1 28 [(.int .i64 U.channel), (.int .i64 U.frame), (.int .i64 U.version), (.int .i64 U.item), (.int .i64 U.index), (.bool U.key), (.string (bstr U.data)), (.int .i64 U.regions), (.int .i64 U.gain), (.string (bstr U.caption)), (.int .i64 U.os), (.int .i64 U.of), (.slice Bu U.al.length cu)] true] [⟨rowFp U.al.length Bu, fun w => IsAlts w Bu U.al.length U.al⟩]) ?_ ?_
  ·
    refine An.start (fun v => Hp w v [bx b_1 28 [(.int .i64 U.channel), (.int .i64 U.frame), (.int .i64 U.version), (.int .i64 U.item), (.int .i64 U.index), (.bool U.key), (.string (bstr U.data)), (.int .i64 U.regions), (.int .i64 U.gain), (.string (bstr U.caption)), (.int .i64 U.os), (.int .i64 U.of), (.slice Bu U.al.length cu)] true] [⟨rowFp U.al.length Bu, fun w => IsAlts w Bu U.al.length U.al⟩]) 9 9 HP wide_follows rfl ?_
    intro w_6 HP
    refine An.pure H (.inr (HP)) 0 17 (.int .i64 c) rfl (by kernel_rfl) (by kernel_rfl) (fun _ _ _ h => h) (fun _ => by kernel_rfl) ?_
    intro a H
    refine An.val H (HP) 2 19 (.agg #[(.int .i64 U.channel), (.int .i64 U.frame), (.int .i64 U.version), (.int .i64 U.item), (.int .i64 U.index), (.bool U.key), (.string (bstr U.data)), (.int .i64 U.regions), (.int .i64 U.gain), (.string (bstr U.caption)), (.int .i64 U.os), (.int .i64 U.of), (.slice Bu U.al.length cu)]) rfl (by kernel_rfl) (by kernel_rfl) (fun _ _ _ h => h) (fun _ hS => ex_loadN (vs := [(.int .i64 U.channel), (.int .i64 U.frame), (.int .i64 U.version), (.int .i64 U.item), (.int .i64 U.index), (.bool U.key), (.string (bstr U.data)), (.int .i64 U.regions), (.int .i64 U.gain), (.string (bstr U.caption)), (.int .i64 U.os), (.int .i64 U.of), (.slice Bu U.al.length cu)]) (by kernel_rfl) (by kernel_rfl) (by kernel_rfl) rfl (hS.cells 0 rfl 0 13 (by kernel_rfl))) ?_
    intro a H
    refine An.one 1 (by kernel_rfl) ?_
    refine Op.call H 18 rfl (by kernel_rfl) (Eq.trans (by kernel_rfl : _ = (callFunc 14 #[(.int .i64 c)]).run Tryd.prog w_6) (Tryd.call14 _ _)) (rate_any c w_6 hc) ?_
    rintro e w_7 ⟨rfl, hb⟩
    refine ⟨_, rfl, ?_⟩
    intro a H
    have HP := HP.next hb
    refine ⟨.inr (HP), ?_⟩
    refine An.one 3 (by kernel_rfl) ?_
    refine Op.call H 20 rfl (by kernel_rfl) (Eq.trans (by kernel_rfl : _ = (callFunc 16 #[(.agg #[(.int .i64 ((rateP c).1)), (.int .i64 ((rateP c).2))]), (.agg #[(.int .i64 U.channel), (.int .i64 U.frame), (.int .i64 U.version), (.int .i64 U.item), (.int .i64 U.index), (.bool U.key), (.string (bstr U.data)), (.int .i64 U.regions), (.int .i64 U.gain), (.string (bstr U.caption)), (.int .i64 U.os), (.int .i64 U.of), (.slice Bu U.al.length cu)])]).run Tryd.prog w_7) (Tryd.call16 _ _)) ((by have hh := pack_any ((rateP c).1) ((rateP c).2) (⟨U.channel, U.frame, U.version, U.item, U.index, U.key, U.data, U.regions, U.gain, U.caption, U.os, U.of, Bu, cu, U.al⟩ : Un) w_7 (hL.below (HP.below (by kernel_rfl))) (HP.fact 0 rfl) (Nat.le_trans hcau hcbu); rw [hZu Bu cu] at hh; exact hh)) ?_
    rintro e w_8 ⟨rfl, hb⟩
    refine ⟨_, rfl, ?_⟩
    intro a H
    have HP := HP.next hb
    refine ⟨.inr (HP), ?_⟩
    refine An.pure H (.inr (HP)) 4 16 (.tuple #[(.string (bstr ([]))), (.int .i64 180)]) rfl (by kernel_rfl) (by kernel_rfl) (fun _ _ _ h => h) (fun _ => by kernel_rfl) ?_
    intro a H
    refine An.pure H (.inr (HP)) 5 21 (.string (bstr ([]))) rfl (by kernel_rfl) (by kernel_rfl) (fun _ _ _ h => h) (fun _ => by kernel_rfl) ?_
    intro a H
    refine An.pure H (.inr (HP)) 6 22 (.int .i64 180) rfl (by kernel_rfl) (by kernel_rfl) (fun _ _ _ h => h) (fun _ => by kernel_rfl) ?_
    intro a H
    refine An.pure H (.inr (HP)) 7 6 (.string (bstr ([]))) rfl (by kernel_rfl) (by kernel_rfl) (fun _ _ _ h => h) (fun _ => by kernel_rfl) ?_
    intro a H
    refine An.pure H (.inr (HP)) 8 7 (.int .i64 180) rfl (by kernel_rfl) (by kernel_rfl) (fun _ _ _ h => h) (fun _ => by kernel_rfl) ?_
    intro a H
    refine An.done (by kernel_rfl) ?_
    have H := H.keep (L' := [(7, (.int .i64 180)), (6, (.string (bstr ([])))), (15, (.agg #[(.int .i64 U.channel), (.int .i64 U.frame), (.int .i64 U.version), (.int .i64 U.item), (.int .i64 U.index), (.bool U.key), (.string (bstr U.data)), (.int .i64 U.regions), (.int .i64 U.gain), (.string (bstr U.caption)), (.int .i64 U.os), (.int .i64 U.of), (.slice Bu U.al.length cu)])), (14, (.agg #[(.int .i64 u.channel), (.int .i64 u.frame), (.int .i64 u.version), (.int .i64 u.item), (.int .i64 u.index), (.bool u.key), (.string (bstr u.data)), (.int .i64 u.regions), (.int .i64 u.gain), (.string (bstr u.caption)), (.int .i64 u.os), (.int .i64 u.of), (.slice u.A u.al.length u.c)])), (5, (.bool true)), (13, (.bool true)), (4, (.bool false)), (3, (.pointer (some ⟨b_1, 0, none⟩))), (0, (.int .i64 c)), (1, (.agg #[(.int .i64 u.channel), (.int .i64 u.frame), (.int .i64 u.version), (.int .i64 u.item), (.int .i64 u.index), (.bool u.key), (.string (bstr u.data)), (.int .i64 u.regions), (.int .i64 u.gain), (.string (bstr u.caption)), (.int .i64 u.os), (.int .i64 u.of), (.slice u.A u.al.length u.c)]))]) (by kernel_rfl)
    refine then_normal ?_
    exact ⟨H.keep (by kernel_rfl), HP⟩
  ·
    rintro a w_9 ⟨H, HP⟩
    refine wp_seq ?_
    refine wp_seq ?_
    refine w_region ?_
    refine H.val 23 (.int .i64 180) (by kernel_rfl) (by kernel_rfl) ?_
    intro a H
    refine H.val 24 (.bool true) (by kernel_rfl) (by kernel_rfl) ?_
    intro a H
    refine wpList_nil ?_
    refine then_normal ?_
    refine w_ift H rfl ?_
    refine wp_seq ?_
    refine w_region ?_
    refine H.val 25 (.bool true) (by kernel_rfl) (by kernel_rfl) ?_
    intro a H
    refine H.val 26 (.bool true) (by kernel_rfl) (by kernel_rfl) ?_
    intro a H
    refine H.val 27 (.agg #[(.int .i64 U.channel), (.int .i64 U.frame), (.int .i64 U.version), (.int .i64 U.item), (.int .i64 U.index), (.bool U.key), (.string (bstr U.data)), (.int .i64 U.regions), (.int .i64 U.gain), (.string (bstr U.caption)), (.int .i64 U.os), (.int .i64 U.of), (.slice Bu U.al.length cu)]) (by kernel_rfl) (ex_loadN (vs := [(.int .i64 U.channel), (.int .i64 U.frame), (.int .i64 U.version), (.int .i64 U.item), (.int .i64 U.index), (.bool U.key), (.string (bstr U.data)), (.int .i64 U.regions), (.int .i64 U.gain), (.string (bstr U.caption)), (.int .i64 U.os), (.int .i64 U.of), (.slice Bu U.al.length cu)]) (by kernel_rfl) (by kernel_rfl) (by kernel_rfl) rfl (HP.cells 0 rfl 0 13 (by kernel_rfl))) ?_
    intro a H
    refine H.call 28 (by kernel_rfl) (Eq.trans (by kernel_rfl : _ = (callFunc 18 #[(.agg #[(.int .i64 U.channel), (.int .i64 U.frame), (.int .i64 U.version), (.int .i64 U.item), (.int .i64 U.index), (.bool U.key), (.string (bstr U.data)), (.int .i64 U.regions), (.int .i64 U.gain), (.string (bstr U.caption)), (.int .i64 U.os), (.int .i64 U.of), (.slice Bu U.al.length cu)])]).run Tryd.prog w_9) (Tryd.call18 _ _)) ((by have hh := uvalid_any ({ U with A := Bu, c := cu } : Un) w_9 (HP.fact 0 rfl) (Nat.le_trans hcau hcbu); rw [show validU ({ U with A := Bu, c := cu } : Un) = false from hvu] at hh; exact hh)) ?_
    rintro e w_10 ⟨rfl, hb⟩
    refine ⟨_, rfl, ?_⟩
    intro a H
    have HP := HP.next hb
    refine H.val 29 (.bool true) (by kernel_rfl) (by kernel_rfl) ?_
    intro a H
    refine H.val 30 (.bool true) (by kernel_rfl) (by kernel_rfl) ?_
    intro a H
    refine H.val 4 (.bool true) (by kernel_rfl) (by kernel_rfl) ?_
    intro a H
    refine wpList_nil ?_
    have H := H.keep (L' := [(4, (.bool true)), (24, (.bool true)), (23, (.int .i64 180)), (6, (.string (bstr ([])))), (7, (.int .i64 180)), (5, (.bool true)), (3, (.pointer (some ⟨b_1, 0, none⟩)))]) (by kernel_rfl)
    refine then_normal ?_
    refine wp_ret ?_
    refine then_ret ?_
    refine H.ret1 (fn := Tryd.f7) Tryd.results7 (RV.tmp_ (v := (.bool true)) (by kernel_rfl)) ?_
    exact ⟨rfl, (HP.below (by kernel_rfl))⟩
set_option maxRecDepth 100000 in
set_option maxHeartbeats 4000000 in
theorem pks_s (c : Int) (u U : Un) (w : World) (hU : shortU u = U) (hL : Laid w) (hc : -9223372036854775808 ≤ c ∧ c ≤ 9223372036854775807) (huu : IsAlts w u.A u.al.length u.al) (hcu : u.al.length ≤ u.c) (hAu : u.A = none → u.c = 0) (lu : List UInt8) (hZu : ∀ B c', packP (rateP c).1 (rateP c).2 ({ U with A := B, c := c' } : Un) = some lu) :
    Calls Tryd.prog 7 #[.int .i64 c, u.val] w fun e w' => e = .returned (.bool true) ∧ Below w.heap.size w w' := by
  have HP := Hp.start w
  obtain ⟨hlu, hn1, hn13⟩ := pack_len (hZu none 0)
  obtain ⟨_, hvu, hpkL⟩ := packP_some (hZu none 0)
  obtain ⟨⟨hch0, hch1⟩, hfr0, hfr1⟩ := valid_of_pack (hZu none 0)
  have hSp := streamU_pos (rateP c).1 (rateP c).2 ({ U with A := none, c := 0 } : Un)
  obtain ⟨S, hS⟩ : ∃ S, streamU (rateP c).1 (rateP c).2 ({ U with A := none, c := 0 } : Un) = S := ⟨_, rfl⟩
  rw [hS] at hlu hn1 hn13 hpkL hSp
  obtain ⟨N, hNe⟩ : ∃ N, pktN S = N := ⟨_, rfl⟩
  have hSN := pktN_bd S
  rw [hNe] at hlu hn1 hn13 hSN
  simp only at hpkL hch0 hch1 hfr0 hfr1
  refine w_enter 144 [(0, (.int .i64 c)), (1, (.agg #[(.int .i64 u.channel), (.int .i64 u.frame), (.int .i64 u.version), (.int .i64 u.item), (.int .i64 u.index), (.bool u.key), (.string (bstr u.data)), (.int .i64 u.regions), (.int .i64 u.gain), (.string (bstr u.caption)), (.int .i64 u.os), (.int .i64 u.of), (.slice u.A u.al.length u.c)]))] Tryd.func7 rfl Tryd.ntmps7 (by kernel_rfl) (by kernel_rfl) ?_
  intro a H
  refine wp_seq ?_
  refine w_region ?_
  refine H.alloc HP 3 (fun b => (.pointer (some ⟨b, 0, none⟩))) 28 [(.int .i64 u.channel), (.int .i64 u.frame), (.int .i64 u.version), (.int .i64 u.item), (.int .i64 u.index), (.bool u.key), (.string (bstr u.data)), (.int .i64 u.regions), (.int .i64 u.gain), (.string (bstr u.caption)), (.int .i64 u.os), (.int .i64 u.of), (.slice u.A u.al.length u.c)] (by kernel_rfl) (fun w => by kernel_rfl) ?_
  intro b_1 w_2 a H HP
  refine H.val 4 (.bool false) (by kernel_rfl) (by kernel_rfl) ?_
  intro a H
  refine wpList_nil ?_
  refine then_normal ?_
  refine wp_seq ?_
  refine w_region ?_
  refine H.call 13 (by kernel_rfl) (Eq.trans (by kernel_rfl : _ = (callFunc 13 #[]).run Tryd.prog w_2) (Tryd.call13 _ _)) (sane_any w_2 (hL.below (HP.below (by kernel_rfl)))) ?_
  rintro e w_3 ⟨rfl, hb⟩
  refine ⟨_, rfl, ?_⟩
  intro a H
  have HP := HP.next hb
  refine H.val 5 (.bool true) (by kernel_rfl) (by kernel_rfl) ?_
  intro a H
  refine wpList_nil ?_
  refine then_normal ?_
  refine wp_seq ?_
  refine w_region ?_
  refine H.val 14 (.agg #[(.int .i64 u.channel), (.int .i64 u.frame), (.int .i64 u.version), (.int .i64 u.item), (.int .i64 u.index), (.bool u.key), (.string (bstr u.data)), (.int .i64 u.regions), (.int .i64 u.gain), (.string (bstr u.caption)), (.int .i64 u.os), (.int .i64 u.of), (.slice u.A u.al.length u.c)]) (by kernel_rfl) (ex_loadN (vs := [(.int .i64 u.channel), (.int .i64 u.frame), (.int .i64 u.version), (.int .i64 u.item), (.int .i64 u.index), (.bool u.key), (.string (bstr u.data)), (.int .i64 u.regions), (.int .i64 u.gain), (.string (bstr u.caption)), (.int .i64 u.os), (.int .i64 u.of), (.slice u.A u.al.length u.c)]) (by kernel_rfl) (by kernel_rfl) (by kernel_rfl) rfl (HP.cells 0 rfl 0 13 (by kernel_rfl))) ?_
  intro a H
  refine H.call 15 (by kernel_rfl) (Eq.trans (by kernel_rfl : _ = (callFunc 15 #[(.agg #[(.int .i64 u.channel), (.int .i64 u.frame), (.int .i64 u.version), (.int .i64 u.item), (.int .i64 u.index), (.bool u.key), (.string (bstr u.data)), (.int .i64 u.regions), (.int .i64 u.gain), (.string (bstr u.caption)), (.int .i64 u.os), (.int .i64 u.of), (.slice u.A u.al.length u.c)])]).run Tryd.prog w_3) (Tryd.call15 _ _)) (short_anyU hU (short_any u w_3 (huu.below (HP.below (by kernel_rfl))) hcu hAu)) ?_
  rintro e w_4 ⟨Bu, cu, rfl, halu, hcau, hcbu, hccu, hfru, hb⟩
  refine ⟨_, rfl, ?_⟩
  intro a H
  have HP := (HP.next hb).keepF ⟨rowFp U.al.length Bu, fun w => IsAlts w Bu U.al.length U.al⟩ halu (fun _ _ h hk hs => ⟨h.1, h.2.keep hk hs⟩) (fun j hj => row_sep HP halu.2 hfru hj)
  refine H.store HP 0 b_1 0 13 28 [(.int .i64 u.channel), (.int .i64 u.frame), (.int .i64 u.version), (.int .i64 u.item), (.int .i64 u.index), (.bool u.key), (.string (bstr u.data)), (.int .i64 u.regions), (.int .i64 u.gain), (.string (bstr u.caption)), (.int .i64 u.os), (.int .i64 u.of), (.slice u.A u.al.length u.c)] true (.agg #[(.int .i64 U.channel), (.int .i64 U.frame), (.int .i64 U.version), (.int .i64 U.item), (.int .i64 U.index), (.bool U.key), (.string (bstr U.data)), (.int .i64 U.regions), (.int .i64 U.gain), (.string (bstr U.caption)), (.int .i64 U.os), (.int .i64 U.of), (.slice Bu U.al.length cu)]) [bx b_1 28 [(.int .i64 U.channel), (.int .i64 U.frame), (.int .i64 U.version), (.int .i64 U.item), (.int .i64 U.index), (.bool U.key), (.string (bstr U.data)), (.int .i64 U.regions), (.int .i64 U.gain), (.string (bstr U.caption)), (.int .i64 U.os), (.int .i64 U.of), (.slice Bu U.al.length cu)] true] (by kernel_rfl) (by kernel_rfl) (by kernel_rfl) rfl (by kernel_rfl) (by kernel_rfl) (by kernel_rfl) (by kernel_rfl) (by kernel_rfl) ?_
  intro w_5 a H HP
  refine wpList_nil ?_
  refine then_normal ?_
  refine w_cut (fun a wv => Sl 144 [(6, (.string (bstr lu))), (7, (.int .i64 0)), (5, (.bool true)), (4, (.bool false)), (3, (.pointer (some ⟨b_1, 0, none⟩)))] a ∧ Hp w wv [bx b_1 28 [(.int .i64 U.channel), (.int .i64 U.frame), (.int .i64 U.version), (.int .i64 U.item), (.int .i64 U.index), (.bool U.key), (.string (bstr U.data)), (.int .i64 U.regions), (.int .i64 U.gain), (.string (bstr U.caption)), (.int .i64 U.os), (.int .i64 U.of), (.slice Bu U.al.length cu)] true] [⟨rowFp U.al.length Bu, fun w => IsAlts w Bu U.al.length U.al⟩]) ?_ ?_
  ·
    refine An.start (fun v => Hp w v [bx b_1 28 [(.int .i64 U.channel), (.int .i64 U.frame), (.int .i64 U.version), (.int .i64 U.item), (.int .i64 U.index), (.bool U.key), (.string (bstr U.data)), (.int .i64 U.regions), (.int .i64 U.gain), (.string (bstr U.caption)), (.int .i64 U.os), (.int .i64 U.of), (.slice Bu U.al.length cu)] true] [⟨rowFp U.al.length Bu, fun w => IsAlts w Bu U.al.length U.al⟩]) 9 9 HP wide_follows rfl ?_
    intro w_6 HP
    refine An.pure H (.inr (HP)) 0 17 (.int .i64 c) rfl (by kernel_rfl) (by kernel_rfl) (fun _ _ _ h => h) (fun _ => by kernel_rfl) ?_
    intro a H
    refine An.val H (HP) 2 19 (.agg #[(.int .i64 U.channel), (.int .i64 U.frame), (.int .i64 U.version), (.int .i64 U.item), (.int .i64 U.index), (.bool U.key), (.string (bstr U.data)), (.int .i64 U.regions), (.int .i64 U.gain), (.string (bstr U.caption)), (.int .i64 U.os), (.int .i64 U.of), (.slice Bu U.al.length cu)]) rfl (by kernel_rfl) (by kernel_rfl) (fun _ _ _ h => h) (fun _ hS => ex_loadN (vs := [(.int .i64 U.channel), (.int .i64 U.frame), (.int .i64 U.version), (.int .i64 U.item), (.int .i64 U.index), (.bool U.key), (.string (bstr U.data)), (.int .i64 U.regions), (.int .i64 U.gain), (.string (bstr U.caption)), (.int .i64 U.os), (.int .i64 U.of), (.slice Bu U.al.length cu)]) (by kernel_rfl) (by kernel_rfl) (by kernel_rfl) rfl (hS.cells 0 rfl 0 13 (by kernel_rfl))) ?_
    intro a H
    refine An.one 1 (by kernel_rfl) ?_
    refine Op.call H 18 rfl (by kernel_rfl) (Eq.trans (by kernel_rfl : _ = (callFunc 14 #[(.int .i64 c)]).run Tryd.prog w_6) (Tryd.call14 _ _)) (rate_any c w_6 hc) ?_
    rintro e w_7 ⟨rfl, hb⟩
    refine ⟨_, rfl, ?_⟩
    intro a H
    have HP := HP.next hb
    refine ⟨.inr (HP), ?_⟩
    refine An.one 3 (by kernel_rfl) ?_
    refine Op.call H 20 rfl (by kernel_rfl) (Eq.trans (by kernel_rfl : _ = (callFunc 16 #[(.agg #[(.int .i64 ((rateP c).1)), (.int .i64 ((rateP c).2))]), (.agg #[(.int .i64 U.channel), (.int .i64 U.frame), (.int .i64 U.version), (.int .i64 U.item), (.int .i64 U.index), (.bool U.key), (.string (bstr U.data)), (.int .i64 U.regions), (.int .i64 U.gain), (.string (bstr U.caption)), (.int .i64 U.os), (.int .i64 U.of), (.slice Bu U.al.length cu)])]).run Tryd.prog w_7) (Tryd.call16 _ _)) ((by have hh := pack_any ((rateP c).1) ((rateP c).2) (⟨U.channel, U.frame, U.version, U.item, U.index, U.key, U.data, U.regions, U.gain, U.caption, U.os, U.of, Bu, cu, U.al⟩ : Un) w_7 (hL.below (HP.below (by kernel_rfl))) (HP.fact 0 rfl) (Nat.le_trans hcau hcbu); rw [hZu Bu cu] at hh; exact hh)) ?_
    rintro e w_8 ⟨rfl, hb⟩
    refine ⟨_, rfl, ?_⟩
    intro a H
    have HP := HP.next hb
    refine ⟨.inr (HP), ?_⟩
    refine An.pure H (.inr (HP)) 4 16 (.tuple #[(.string (bstr lu)), (.int .i64 0)]) rfl (by kernel_rfl) (by kernel_rfl) (fun _ _ _ h => h) (fun _ => by kernel_rfl) ?_
    intro a H
    refine An.pure H (.inr (HP)) 5 21 (.string (bstr lu)) rfl (by kernel_rfl) (by kernel_rfl) (fun _ _ _ h => h) (fun _ => by kernel_rfl) ?_
    intro a H
    refine An.pure H (.inr (HP)) 6 22 (.int .i64 0) rfl (by kernel_rfl) (by kernel_rfl) (fun _ _ _ h => h) (fun _ => by kernel_rfl) ?_
    intro a H
    refine An.pure H (.inr (HP)) 7 6 (.string (bstr lu)) rfl (by kernel_rfl) (by kernel_rfl) (fun _ _ _ h => h) (fun _ => by kernel_rfl) ?_
    intro a H
    refine An.pure H (.inr (HP)) 8 7 (.int .i64 0) rfl (by kernel_rfl) (by kernel_rfl) (fun _ _ _ h => h) (fun _ => by kernel_rfl) ?_
    intro a H
    refine An.done (by kernel_rfl) ?_
    have H := H.keep (L' := [(7, (.int .i64 0)), (6, (.string (bstr lu))), (15, (.agg #[(.int .i64 U.channel), (.int .i64 U.frame), (.int .i64 U.version), (.int .i64 U.item), (.int .i64 U.index), (.bool U.key), (.string (bstr U.data)), (.int .i64 U.regions), (.int .i64 U.gain), (.string (bstr U.caption)), (.int .i64 U.os), (.int .i64 U.of), (.slice Bu U.al.length cu)])), (14, (.agg #[(.int .i64 u.channel), (.int .i64 u.frame), (.int .i64 u.version), (.int .i64 u.item), (.int .i64 u.index), (.bool u.key), (.string (bstr u.data)), (.int .i64 u.regions), (.int .i64 u.gain), (.string (bstr u.caption)), (.int .i64 u.os), (.int .i64 u.of), (.slice u.A u.al.length u.c)])), (5, (.bool true)), (13, (.bool true)), (4, (.bool false)), (3, (.pointer (some ⟨b_1, 0, none⟩))), (0, (.int .i64 c)), (1, (.agg #[(.int .i64 u.channel), (.int .i64 u.frame), (.int .i64 u.version), (.int .i64 u.item), (.int .i64 u.index), (.bool u.key), (.string (bstr u.data)), (.int .i64 u.regions), (.int .i64 u.gain), (.string (bstr u.caption)), (.int .i64 u.os), (.int .i64 u.of), (.slice u.A u.al.length u.c)]))]) (by kernel_rfl)
    refine then_normal ?_
    exact ⟨H.keep (by kernel_rfl), HP⟩
  ·
    rintro a w_9 ⟨H, HP⟩
    refine wp_seq ?_
    refine wp_seq ?_
    refine w_region ?_
    refine H.val 23 (.int .i64 0) (by kernel_rfl) (by kernel_rfl) ?_
    intro a H
    refine H.val 24 (.bool false) (by kernel_rfl) (by kernel_rfl) ?_
    intro a H
    refine wpList_nil ?_
    refine then_normal ?_
    refine w_iff H rfl ?_
    refine wp_skip ?_
    refine then_normal ?_
    refine wp_seq ?_
    refine w_region ?_
    refine H.val 31 (.string (bstr lu)) (by kernel_rfl) (by kernel_rfl) ?_
    intro a H
    refine H.val 32 (.int .i64 ((lu.length : Nat) : Int)) (by kernel_rfl) (by kernel_rfl) ?_
    intro a H
    refine H.valE 33 (.int .i64 (IntKind.i64.wrap (((lu.length : Nat) : Int).tdiv 64))) (.int .i64 ((N : Nat) : Int)) (by kernel_rfl) (by kernel_rfl) ((by rw [tdiv_nn _ _ (by omega), wrap_ini64 _ (by omega)]; exact congrArg (Value.int .i64) (by omega))) ?_
    intro a H
    refine H.val 8 (.int .i64 ((N : Nat) : Int)) (by kernel_rfl) (by kernel_rfl) ?_
    intro a H
    refine wpList_nil ?_
    refine then_normal ?_
    refine wp_seq ?_
    refine wp_seq ?_
    refine w_region ?_
    refine H.val 34 (.string (bstr lu)) (by kernel_rfl) (by kernel_rfl) ?_
    intro a H
    refine H.val 35 (.int .i64 ((lu.length : Nat) : Int)) (by kernel_rfl) (by kernel_rfl) ?_
    intro a H
    refine H.valE 36 (.int .i64 (((lu.length : Nat) : Int).tmod 64)) (.int .i64 0) (by kernel_rfl) (by kernel_rfl) ((by rw [tmod_nn _ _ (by omega)]; exact congrArg (Value.int .i64) (by omega))) ?_
    intro a H
    refine H.val 37 (.bool false) (by kernel_rfl) (by kernel_rfl) ?_
    intro a H
    refine H.val 38 (.bool false) (by kernel_rfl) (by kernel_rfl) ?_
    intro a H
    refine H.val 39 (.int .i64 ((N : Nat) : Int)) (by kernel_rfl) (by kernel_rfl) ?_
    intro a H
    refine H.valE 40 (.bool (decide (((N : Nat) : Int) < 1))) (.bool false) (by kernel_rfl) (by kernel_rfl) ((congrArg Value.bool (decide_eq_false (by omega)))) ?_
    intro a H
    refine H.val 41 (.bool false) (by kernel_rfl) (by kernel_rfl) ?_
    intro a H
    refine H.val 42 (.bool false) (by kernel_rfl) (by kernel_rfl) ?_
    intro a H
    refine H.val 43 (.int .i64 ((N : Nat) : Int)) (by kernel_rfl) (by kernel_rfl) ?_
    intro a H
    refine H.valE 44 (.bool (decide (((N : Nat) : Int) > 15))) (.bool false) (by kernel_rfl) (by kernel_rfl) ((congrArg Value.bool (decide_eq_false (by omega)))) ?_
    intro a H
    refine H.val 45 (.bool false) (by kernel_rfl) (by kernel_rfl) ?_
    intro a H
    refine wpList_nil ?_
    have H := H.keep (L' := [(45, (.bool false)), (8, (.int .i64 ((N : Nat) : Int))), (33, (.int .i64 ((N : Nat) : Int))), (32, (.int .i64 ((lu.length : Nat) : Int))), (31, (.string (bstr lu))), (24, (.bool false)), (23, (.int .i64 0)), (6, (.string (bstr lu))), (7, (.int .i64 0)), (5, (.bool true)), (4, (.bool false)), (3, (.pointer (some ⟨b_1, 0, none⟩)))]) (by kernel_rfl)
    refine then_normal ?_
    refine w_iff H rfl ?_
    refine wp_skip ?_
    refine then_normal ?_
    refine wp_seq ?_
    refine wp_seq ?_
    refine w_region ?_
    refine H.val 9 (.int .i64 0) (by kernel_rfl) (by kernel_rfl) ?_
    intro a H
    refine wpList_nil ?_
    refine then_normal ?_
    refine wp_block ?_
    refine w_loop (fun mm a wv => ∃ (j : Nat), N - j = mm ∧ Sl 144 [(9, (.int .i64 ((j : Nat) : Int))), (8, (.int .i64 ((N : Nat) : Int))), (3, (.pointer (some ⟨b_1, 0, none⟩))), (5, (.bool true)), (6, (.string (bstr lu)))] a ∧ Hp w wv [bx b_1 28 [(.int .i64 U.channel), (.int .i64 U.frame), (.int .i64 U.version), (.int .i64 U.item), (.int .i64 U.index), (.bool U.key), (.string (bstr U.data)), (.int .i64 U.regions), (.int .i64 U.gain), (.string (bstr U.caption)), (.int .i64 U.os), (.int .i64 U.of), (.slice Bu U.al.length cu)] true] [⟨rowFp U.al.length Bu, fun w => IsAlts w Bu U.al.length U.al⟩] ∧ (j ≤ N)) (N - 0) ?_ ?_
    · exact ⟨0, (by omega), H.keep (by kernel_rfl), HP, by omega⟩
    rintro mm a w_10 ⟨j, hmeas, H, HP, hj⟩
    refine wp_seq ?_
    refine wp_seq ?_
    refine w_region ?_
    refine H.val 46 (.int .i64 ((j : Nat) : Int)) (by kernel_rfl) (by kernel_rfl) ?_
    intro a H
    refine H.val 47 (.int .i64 ((N : Nat) : Int)) (by kernel_rfl) (by kernel_rfl) ?_
    intro a H
    refine H.val 48 (.bool (decide (((j : Nat) : Int) < ((N : Nat) : Int)))) (by kernel_rfl) (by kernel_rfl) ?_
    intro a H
    refine wpList_nil ?_
    refine then_normal ?_
    refine w_if H rfl (fun g48 => ?_) (fun g48 => ?_)
    · have g48p := of_decide_eq_true g48
      refine wp_skip ?_
      refine then_normal ?_
      refine wp_seq ?_
      refine wp_block ?_
      refine wp_seq ?_
      refine w_region ?_
      refine H.val 51 (.string (bstr lu)) (by kernel_rfl) (by kernel_rfl) ?_
      intro a H
      refine H.val 52 (.int .i64 ((j : Nat) : Int)) (by kernel_rfl) (by kernel_rfl) ?_
      intro a H
      refine H.valE 53 (.int .i64 (IntKind.i64.wrap (64 * ((j : Nat) : Int)))) (.int .i64 ((64 * j : Nat) : Int)) (by kernel_rfl) (by kernel_rfl) ((by rw [wrap_ini64 _ (by omega)]; exact congrArg (Value.int .i64) (by omega))) ?_
      intro a H
      refine H.val 54 (.int .i64 ((j : Nat) : Int)) (by kernel_rfl) (by kernel_rfl) ?_
      intro a H
      refine H.valE 55 (.int .i64 (IntKind.i64.wrap (64 * ((j : Nat) : Int)))) (.int .i64 ((64 * j : Nat) : Int)) (by kernel_rfl) (by kernel_rfl) ((by rw [wrap_ini64 _ (by omega)]; exact congrArg (Value.int .i64) (by omega))) ?_
      intro a H
      refine H.valE 56 (.int .i64 (IntKind.i64.wrap (((64 * j : Nat) : Int) + 64))) (.int .i64 ((64 * j + 64 : Nat) : Int)) (by kernel_rfl) (by kernel_rfl) ((by rw [wrap_ini64 _ (by omega)]; exact congrArg (Value.int .i64) (by omega))) ?_
      intro a H
      refine H.val 57 (.string (bstr ((lu.drop (64 * j)).take ((64 * j + 64) - (64 * j))))) (by kernel_rfl) (ex_sslice (k := .i64) (kk := .i64) (l := lu) (i := ((64 * j : Nat) : Int)) (j := ((64 * j + 64 : Nat) : Int)) (a := (64 * j)) (b := (64 * j + 64)) (by kernel_rfl) (by kernel_rfl) (by kernel_rfl) (by kernel_rfl) (by omega) (by omega) (by omega) (by omega)) ?_
      intro a H
      refine H.val 10 (.string (bstr ((lu.drop (64 * j)).take ((64 * j + 64) - (64 * j))))) (by kernel_rfl) (by kernel_rfl) ?_
      intro a H
      refine wpList_nil ?_
      have H := H.keep (L' := [(10, (.string (bstr ((lu.drop (64 * j)).take ((64 * j + 64) - (64 * j)))))), (48, (.bool (decide (((j : Nat) : Int) < ((N : Nat) : Int))))), (47, (.int .i64 ((N : Nat) : Int))), (46, (.int .i64 ((j : Nat) : Int))), (9, (.int .i64 ((j : Nat) : Int))), (8, (.int .i64 ((N : Nat) : Int))), (3, (.pointer (some ⟨b_1, 0, none⟩))), (5, (.bool true)), (6, (.string (bstr lu)))]) (by kernel_rfl)
      obtain ⟨p, hp⟩ : ∃ p, (lu.drop (64 * j)).take (64 * j + 64 - 64 * j) = p := ⟨_, rfl⟩
      have hjN : j < N := by omega
      have hpl : p.length = 64 := by rw [← hp, List.length_take, List.length_drop]; omega
      have hpg : ∀ k, k < 64 → p.getD k 0 = (pkL S U.channel.toNat U.frame.toNat).flatten.getD (64 * j + k) 0 := fun k hk => by rw [← hp, takeGetD (by omega), dropGetD, hpkL]
      have hfl := flagsP_lt N j
      obtain ⟨m, hm⟩ : ∃ m, min 59 (S.length - 59 * j) = m := ⟨_, rfl⟩
      have hp0 : ((p.getD 0 0).toNat : Nat) = 71 := by rw [hpg 0 (by omega), pk_0 (by omega)]; rfl
      have hp1 : ((p.getD 1 0).toNat : Nat) = U.channel.toNat := by rw [hpg 1 (by omega), pk_1 (by omega), toNat_of (by omega)]
      have hp2 : ((p.getD 2 0).toNat : Nat) = 16 * (U.frame.toNat % 16) + j % 16 := by rw [hpg 2 (by omega), pk_2 (by omega), toNat_of (by omega)]
      have hp3 : ((p.getD 3 0).toNat : Nat) = flagsP N j := by rw [hpg 3 (by omega), pk_3 (by omega), hNe, toNat_of (by omega)]
      have hp4 : ((p.getD 4 0).toNat : Nat) = m := by rw [hpg 4 (by omega), pk_4 (by omega), hm, toNat_of (by omega)]
      have hpad : ∀ k, 5 + m ≤ k → k < 64 → ((p.getD k 0).toNat : Nat) = 255 := fun k h1 h2 => by rw [hpg k h2, show 64 * j + k = 64 * j + (5 + (k - 5)) by omega, pk_pad (by omega) (by omega) (by omega)]; rfl
      clear hpg
      rw [hp] at H
      have H := H.keep (L' := [(10, (.string (bstr p))), (9, (.int .i64 ((j : Nat) : Int))), (8, (.int .i64 ((N : Nat) : Int))), (3, (.pointer (some ⟨b_1, 0, none⟩))), (5, (.bool true)), (6, (.string (bstr lu)))]) (by kernel_rfl)
      refine then_normal ?_
      refine wp_seq ?_
      refine w_region ?_
      refine H.val 58 (.string (bstr p)) (by kernel_rfl) (by kernel_rfl) ?_
      intro a H
      refine H.valE 59 (.int .u8 (((p.getD 4 0).toNat : Nat) : Int)) (.int .u8 ((m : Nat) : Int)) (by kernel_rfl) (ex_sindex (k := .i64) (l := p) (i := 4) (m := 4) (by kernel_rfl) (by kernel_rfl) (by kernel_rfl) (by omega) (by omega)) ((congrArg (Value.int .u8) (by rw [hp4]))) ?_
      intro a H
      refine H.valE 60 (.int .i64 (IntKind.i64.wrap ((m : Nat) : Int))) (.int .i64 ((m : Nat) : Int)) (by kernel_rfl) (by kernel_rfl) ((by rw [wrap_ini64 _ (by omega)])) ?_
      intro a H
      refine H.val 11 (.int .i64 ((m : Nat) : Int)) (by kernel_rfl) (by kernel_rfl) ?_
      intro a H
      refine wpList_nil ?_
      refine then_normal ?_
      refine wp_seq ?_
      refine w_cut (fun a wv => Sl 144 [(132, (.bool false)), (11, (.int .i64 ((m : Nat) : Int))), (10, (.string (bstr p))), (9, (.int .i64 ((j : Nat) : Int))), (8, (.int .i64 ((N : Nat) : Int))), (3, (.pointer (some ⟨b_1, 0, none⟩))), (5, (.bool true)), (6, (.string (bstr lu)))] a ∧ Hp w wv [bx b_1 28 [(.int .i64 U.channel), (.int .i64 U.frame), (.int .i64 U.version), (.int .i64 U.item), (.int .i64 U.index), (.bool U.key), (.string (bstr U.data)), (.int .i64 U.regions), (.int .i64 U.gain), (.string (bstr U.caption)), (.int .i64 U.os), (.int .i64 U.of), (.slice Bu U.al.length cu)] true] [⟨rowFp U.al.length Bu, fun w => IsAlts w Bu U.al.length U.al⟩]) ?_ ?_
      ·
        refine An.start (fun v => Hp w v [bx b_1 28 [(.int .i64 U.channel), (.int .i64 U.frame), (.int .i64 U.version), (.int .i64 U.item), (.int .i64 U.index), (.bool U.key), (.string (bstr U.data)), (.int .i64 U.regions), (.int .i64 U.gain), (.string (bstr U.caption)), (.int .i64 U.os), (.int .i64 U.of), (.slice Bu U.al.length cu)] true] [⟨rowFp U.al.length Bu, fun w => IsAlts w Bu U.al.length U.al⟩]) 72 72 HP wide_follows rfl ?_
        intro w_11 HP
        refine An.pure H (.inr (HP)) 0 61 (.string (bstr p)) rfl (by kernel_rfl) (by kernel_rfl) (fun _ _ _ h => h) (fun _ => by kernel_rfl) ?_
        intro a H
        refine An.pureE H (.inr (HP)) 1 62 (.int .u8 (((p.getD 0 0).toNat : Nat) : Int)) (.int .u8 71) rfl (by kernel_rfl) (by kernel_rfl) (fun _ _ _ h => h) (fun _ => ex_sindex (k := .i64) (l := p) (i := 0) (m := 0) (by kernel_rfl) (by kernel_rfl) (by kernel_rfl) (by omega) (by omega)) ((congrArg (Value.int .u8) (by rw [hp0]; rfl))) ?_
        intro a H
        refine An.pure H (.inr (HP)) 2 63 (.bool false) rfl (by kernel_rfl) (by kernel_rfl) (fun _ _ _ h => h) (fun _ => by kernel_rfl) ?_
        intro a H
        refine An.pure H (.inr (HP)) 3 64 (.bool false) rfl (by kernel_rfl) (by kernel_rfl) (fun _ _ _ h => h) (fun _ => by kernel_rfl) ?_
        intro a H
        refine An.pure H (.inr (HP)) 4 65 (.string (bstr p)) rfl (by kernel_rfl) (by kernel_rfl) (fun _ _ _ h => h) (fun _ => by kernel_rfl) ?_
        intro a H
        refine An.pureE H (.inr (HP)) 5 66 (.int .u8 (((p.getD 1 0).toNat : Nat) : Int)) (.int .u8 U.channel) rfl (by kernel_rfl) (by kernel_rfl) (fun _ _ _ h => h) (fun _ => ex_sindex (k := .i64) (l := p) (i := 1) (m := 1) (by kernel_rfl) (by kernel_rfl) (by kernel_rfl) (by omega) (by omega)) ((congrArg (Value.int .u8) (by rw [hp1]; omega))) ?_
        intro a H
        refine An.pureE H (.inr (HP)) 6 67 (.int .i64 (IntKind.i64.wrap U.channel)) (.int .i64 U.channel) rfl (by kernel_rfl) (by kernel_rfl) (fun _ _ _ h => h) (fun _ => by kernel_rfl) ((by rw [wrap_ini64 _ (by omega)])) ?_
        intro a H
        refine An.pure H (.inr (HP)) 7 68 (.pointer (some ⟨b_1, 0, none⟩)) rfl (by kernel_rfl) (by kernel_rfl) (fun _ _ _ h => h) (fun _ => by kernel_rfl) ?_
        intro a H
        refine An.val H (HP) 8 69 (.int .i64 U.channel) rfl (by kernel_rfl) (by kernel_rfl) (fun _ _ _ h => h) (fun _ hS => ex_load1 (by kernel_rfl) (by kernel_rfl) (hS.cell 0 rfl 0 rfl)) ?_
        intro a H
        refine An.pureE H (.inr (HP)) 9 70 (.bool (U.channel != U.channel)) (.bool false) rfl (by kernel_rfl) (by kernel_rfl) (fun _ _ _ h => h) (fun _ => by kernel_rfl) ((congrArg Value.bool (by simp))) ?_
        intro a H
        refine An.pure H (.inr (HP)) 10 71 (.bool false) rfl (by kernel_rfl) (by kernel_rfl) (fun _ _ _ h => h) (fun _ => by kernel_rfl) ?_
        intro a H
        refine An.pure H (.inr (HP)) 11 72 (.bool false) rfl (by kernel_rfl) (by kernel_rfl) (fun _ _ _ h => h) (fun _ => by kernel_rfl) ?_
        intro a H
        refine An.pure H (.inr (HP)) 12 73 (.string (bstr p)) rfl (by kernel_rfl) (by kernel_rfl) (fun _ _ _ h => h) (fun _ => by kernel_rfl) ?_
        intro a H
        refine An.pureE H (.inr (HP)) 13 74 (.int .u8 (((p.getD 2 0).toNat : Nat) : Int)) (.int .u8 ((16 * (U.frame.toNat % 16) + j % 16 : Nat) : Int)) rfl (by kernel_rfl) (by kernel_rfl) (fun _ _ _ h => h) (fun _ => ex_sindex (k := .i64) (l := p) (i := 2) (m := 2) (by kernel_rfl) (by kernel_rfl) (by kernel_rfl) (by omega) (by omega)) ((congrArg (Value.int .u8) (by rw [hp2]))) ?_
        intro a H
        refine An.pureE H (.inr (HP)) 14 75 (.int .i64 (IntKind.i64.wrap ((16 * (U.frame.toNat % 16) + j % 16 : Nat) : Int))) (.int .i64 ((16 * (U.frame.toNat % 16) + j % 16 : Nat) : Int)) rfl (by kernel_rfl) (by kernel_rfl) (fun _ _ _ h => h) (fun _ => by kernel_rfl) ((by rw [wrap_ini64 _ (by omega)])) ?_
        intro a H
        refine An.pureE H (.inr (HP)) 15 76 (.int .i64 (IntKind.i64.wrap (((16 * (U.frame.toNat % 16) + j % 16 : Nat) : Int).tdiv 16))) (.int .i64 ((U.frame.toNat % 16 : Nat) : Int)) rfl (by kernel_rfl) (by kernel_rfl) (fun _ _ _ h => h) (fun _ => by kernel_rfl) ((by rw [tdiv_nn _ _ (by omega), wrap_ini64 _ (by omega)]; exact congrArg (Value.int .i64) (by omega))) ?_
        intro a H
        refine An.pure H (.inr (HP)) 16 77 (.pointer (some ⟨b_1, 1, none⟩)) rfl (by kernel_rfl) (by kernel_rfl) (fun _ _ _ h => h) (fun _ => by kernel_rfl) ?_
        intro a H
        refine An.val H (HP) 17 78 (.int .i64 U.frame) rfl (by kernel_rfl) (by kernel_rfl) (fun _ _ _ h => h) (fun _ hS => ex_load1 (by kernel_rfl) (by kernel_rfl) (hS.cell 0 rfl 1 rfl)) ?_
        intro a H
        refine An.pureE H (.inr (HP)) 18 79 (.int .i64 (U.frame.tmod 16)) (.int .i64 (U.frame % 16)) rfl (by kernel_rfl) (by kernel_rfl) (fun _ _ _ h => h) (fun _ => by kernel_rfl) ((by rw [tmod_nn _ _ (by omega)])) ?_
        intro a H
        refine An.pureE H (.inr (HP)) 19 80 (.bool (((U.frame.toNat % 16 : Nat) : Int) != U.frame % 16)) (.bool false) rfl (by kernel_rfl) (by kernel_rfl) (fun _ _ _ h => h) (fun _ => by kernel_rfl) ((congrArg Value.bool (by rw [bne_eq_false_iff_eq]; omega))) ?_
        intro a H
        refine An.pure H (.inr (HP)) 20 81 (.bool false) rfl (by kernel_rfl) (by kernel_rfl) (fun _ _ _ h => h) (fun _ => by kernel_rfl) ?_
        intro a H
        refine An.pure H (.inr (HP)) 21 82 (.bool false) rfl (by kernel_rfl) (by kernel_rfl) (fun _ _ _ h => h) (fun _ => by kernel_rfl) ?_
        intro a H
        refine An.pure H (.inr (HP)) 22 83 (.string (bstr p)) rfl (by kernel_rfl) (by kernel_rfl) (fun _ _ _ h => h) (fun _ => by kernel_rfl) ?_
        intro a H
        refine An.pureE H (.inr (HP)) 23 84 (.int .u8 (((p.getD 2 0).toNat : Nat) : Int)) (.int .u8 ((16 * (U.frame.toNat % 16) + j % 16 : Nat) : Int)) rfl (by kernel_rfl) (by kernel_rfl) (fun _ _ _ h => h) (fun _ => ex_sindex (k := .i64) (l := p) (i := 2) (m := 2) (by kernel_rfl) (by kernel_rfl) (by kernel_rfl) (by omega) (by omega)) ((congrArg (Value.int .u8) (by rw [hp2]))) ?_
        intro a H
        refine An.pureE H (.inr (HP)) 24 85 (.int .i64 (IntKind.i64.wrap ((16 * (U.frame.toNat % 16) + j % 16 : Nat) : Int))) (.int .i64 ((16 * (U.frame.toNat % 16) + j % 16 : Nat) : Int)) rfl (by kernel_rfl) (by kernel_rfl) (fun _ _ _ h => h) (fun _ => by kernel_rfl) ((by rw [wrap_ini64 _ (by omega)])) ?_
        intro a H
        refine An.pureE H (.inr (HP)) 25 86 (.int .i64 (((16 * (U.frame.toNat % 16) + j % 16 : Nat) : Int).tmod 16)) (.int .i64 ((j % 16 : Nat) : Int)) rfl (by kernel_rfl) (by kernel_rfl) (fun _ _ _ h => h) (fun _ => by kernel_rfl) ((by rw [tmod_nn _ _ (by omega)]; exact congrArg (Value.int .i64) (by omega))) ?_
        intro a H
        refine An.pure H (.inr (HP)) 26 87 (.int .i64 ((j : Nat) : Int)) rfl (by kernel_rfl) (by kernel_rfl) (fun _ _ _ h => h) (fun _ => by kernel_rfl) ?_
        intro a H
        refine An.pureE H (.inr (HP)) 27 88 (.bool (((j % 16 : Nat) : Int) != ((j : Nat) : Int))) (.bool false) rfl (by kernel_rfl) (by kernel_rfl) (fun _ _ _ h => h) (fun _ => by kernel_rfl) ((congrArg Value.bool (by rw [bne_eq_false_iff_eq]; omega))) ?_
        intro a H
        refine An.pure H (.inr (HP)) 28 89 (.bool false) rfl (by kernel_rfl) (by kernel_rfl) (fun _ _ _ h => h) (fun _ => by kernel_rfl) ?_
        intro a H
        refine An.pure H (.inr (HP)) 29 90 (.bool false) rfl (by kernel_rfl) (by kernel_rfl) (fun _ _ _ h => h) (fun _ => by kernel_rfl) ?_
        intro a H
        refine An.pure H (.inr (HP)) 30 91 (.string (bstr p)) rfl (by kernel_rfl) (by kernel_rfl) (fun _ _ _ h => h) (fun _ => by kernel_rfl) ?_
        intro a H
        refine An.pureE H (.inr (HP)) 31 92 (.int .u8 (((p.getD 3 0).toNat : Nat) : Int)) (.int .u8 ((flagsP N j : Nat) : Int)) rfl (by kernel_rfl) (by kernel_rfl) (fun _ _ _ h => h) (fun _ => ex_sindex (k := .i64) (l := p) (i := 3) (m := 3) (by kernel_rfl) (by kernel_rfl) (by kernel_rfl) (by omega) (by omega)) ((congrArg (Value.int .u8) (by rw [hp3]))) ?_
        intro a H
        refine An.pureE H (.inr (HP)) 32 93 (.int .u8 (((flagsP N j : Nat) : Int).tmod 2)) (.int .u8 ((flagsP N j % 2 : Nat) : Int)) rfl (by kernel_rfl) (by kernel_rfl) (fun _ _ _ h => h) (fun _ => by kernel_rfl) ((by rw [tmod_nn _ _ (by omega)]; exact congrArg (Value.int .u8) (by omega))) ?_
        intro a H
        refine An.pure H (.inr (HP)) 33 94 (.bool (((flagsP N j % 2 : Nat) : Int) == 1)) rfl (by kernel_rfl) (by kernel_rfl) (fun _ _ _ h => h) (fun _ => by kernel_rfl) ?_
        intro a H
        refine An.pure H (.inr (HP)) 34 95 (.int .i64 ((j : Nat) : Int)) rfl (by kernel_rfl) (by kernel_rfl) (fun _ _ _ h => h) (fun _ => by kernel_rfl) ?_
        intro a H
        refine An.pure H (.inr (HP)) 35 96 (.bool (((j : Nat) : Int) == 0)) rfl (by kernel_rfl) (by kernel_rfl) (fun _ _ _ h => h) (fun _ => by kernel_rfl) ?_
        intro a H
        refine An.pureE H (.inr (HP)) 36 97 (.bool (!((((flagsP N j % 2 : Nat) : Int) == 1) == (((j : Nat) : Int) == 0)))) (.bool false) rfl (by kernel_rfl) (by kernel_rfl) (fun _ _ _ h => h) (fun _ => by kernel_rfl) ((congrArg Value.bool (flag_a N j))) ?_
        intro a H
        refine An.pure H (.inr (HP)) 37 98 (.bool false) rfl (by kernel_rfl) (by kernel_rfl) (fun _ _ _ h => h) (fun _ => by kernel_rfl) ?_
        intro a H
        refine An.pure H (.inr (HP)) 38 99 (.bool false) rfl (by kernel_rfl) (by kernel_rfl) (fun _ _ _ h => h) (fun _ => by kernel_rfl) ?_
        intro a H
        refine An.pure H (.inr (HP)) 39 100 (.string (bstr p)) rfl (by kernel_rfl) (by kernel_rfl) (fun _ _ _ h => h) (fun _ => by kernel_rfl) ?_
        intro a H
        refine An.pureE H (.inr (HP)) 40 101 (.int .u8 (((p.getD 3 0).toNat : Nat) : Int)) (.int .u8 ((flagsP N j : Nat) : Int)) rfl (by kernel_rfl) (by kernel_rfl) (fun _ _ _ h => h) (fun _ => ex_sindex (k := .i64) (l := p) (i := 3) (m := 3) (by kernel_rfl) (by kernel_rfl) (by kernel_rfl) (by omega) (by omega)) ((congrArg (Value.int .u8) (by rw [hp3]))) ?_
        intro a H
        refine An.pureE H (.inr (HP)) 41 102 (.int .u8 (IntKind.u8.wrap (((flagsP N j : Nat) : Int).tdiv 2))) (.int .u8 ((flagsP N j / 2 : Nat) : Int)) rfl (by kernel_rfl) (by kernel_rfl) (fun _ _ _ h => h) (fun _ => by kernel_rfl) ((by rw [tdiv_nn _ _ (by omega), wrap_inu8 _ (by omega)]; exact congrArg (Value.int .u8) (by omega))) ?_
        intro a H
        refine An.pure H (.inr (HP)) 42 103 (.bool (((flagsP N j / 2 : Nat) : Int) == 1)) rfl (by kernel_rfl) (by kernel_rfl) (fun _ _ _ h => h) (fun _ => by kernel_rfl) ?_
        intro a H
        refine An.pure H (.inr (HP)) 43 104 (.int .i64 ((j : Nat) : Int)) rfl (by kernel_rfl) (by kernel_rfl) (fun _ _ _ h => h) (fun _ => by kernel_rfl) ?_
        intro a H
        refine An.pure H (.inr (HP)) 44 105 (.int .i64 ((N : Nat) : Int)) rfl (by kernel_rfl) (by kernel_rfl) (fun _ _ _ h => h) (fun _ => by kernel_rfl) ?_
        intro a H
        refine An.pureE H (.inr (HP)) 45 106 (.int .i64 (IntKind.i64.wrap (((N : Nat) : Int) - 1))) (.int .i64 (((N : Nat) : Int) - 1)) rfl (by kernel_rfl) (by kernel_rfl) (fun _ _ _ h => h) (fun _ => by kernel_rfl) ((by rw [wrap_ini64 _ (by omega)])) ?_
        intro a H
        refine An.pure H (.inr (HP)) 46 107 (.bool (((j : Nat) : Int) == (((N : Nat) : Int) - 1))) rfl (by kernel_rfl) (by kernel_rfl) (fun _ _ _ h => h) (fun _ => by kernel_rfl) ?_
        intro a H
        refine An.pureE H (.inr (HP)) 47 108 (.bool (!((((flagsP N j / 2 : Nat) : Int) == 1) == (((j : Nat) : Int) == ((N : Nat) : Int) - 1)))) (.bool false) rfl (by kernel_rfl) (by kernel_rfl) (fun _ _ _ h => h) (fun _ => by kernel_rfl) ((congrArg Value.bool (flag_b hn1 j))) ?_
        intro a H
        refine An.pure H (.inr (HP)) 48 109 (.bool false) rfl (by kernel_rfl) (by kernel_rfl) (fun _ _ _ h => h) (fun _ => by kernel_rfl) ?_
        intro a H
        refine An.pure H (.inr (HP)) 49 110 (.bool false) rfl (by kernel_rfl) (by kernel_rfl) (fun _ _ _ h => h) (fun _ => by kernel_rfl) ?_
        intro a H
        refine An.pure H (.inr (HP)) 50 111 (.string (bstr p)) rfl (by kernel_rfl) (by kernel_rfl) (fun _ _ _ h => h) (fun _ => by kernel_rfl) ?_
        intro a H
        refine An.pureE H (.inr (HP)) 51 112 (.int .u8 (((p.getD 3 0).toNat : Nat) : Int)) (.int .u8 ((flagsP N j : Nat) : Int)) rfl (by kernel_rfl) (by kernel_rfl) (fun _ _ _ h => h) (fun _ => ex_sindex (k := .i64) (l := p) (i := 3) (m := 3) (by kernel_rfl) (by kernel_rfl) (by kernel_rfl) (by omega) (by omega)) ((congrArg (Value.int .u8) (by rw [hp3]))) ?_
        intro a H
        refine An.pureE H (.inr (HP)) 52 113 (.bool (decide (((flagsP N j : Nat) : Int) > 3))) (.bool false) rfl (by kernel_rfl) (by kernel_rfl) (fun _ _ _ h => h) (fun _ => by kernel_rfl) ((congrArg Value.bool (decide_eq_false (by omega)))) ?_
        intro a H
        refine An.pure H (.inr (HP)) 53 114 (.bool false) rfl (by kernel_rfl) (by kernel_rfl) (fun _ _ _ h => h) (fun _ => by kernel_rfl) ?_
        intro a H
        refine An.pure H (.inr (HP)) 54 115 (.bool false) rfl (by kernel_rfl) (by kernel_rfl) (fun _ _ _ h => h) (fun _ => by kernel_rfl) ?_
        intro a H
        refine An.pure H (.inr (HP)) 55 116 (.int .i64 ((m : Nat) : Int)) rfl (by kernel_rfl) (by kernel_rfl) (fun _ _ _ h => h) (fun _ => by kernel_rfl) ?_
        intro a H
        refine An.pureE H (.inr (HP)) 56 117 (.bool (decide (((m : Nat) : Int) < 1))) (.bool false) rfl (by kernel_rfl) (by kernel_rfl) (fun _ _ _ h => h) (fun _ => by kernel_rfl) ((congrArg Value.bool (decide_eq_false (by omega)))) ?_
        intro a H
        refine An.pure H (.inr (HP)) 57 118 (.bool false) rfl (by kernel_rfl) (by kernel_rfl) (fun _ _ _ h => h) (fun _ => by kernel_rfl) ?_
        intro a H
        refine An.pure H (.inr (HP)) 58 119 (.bool false) rfl (by kernel_rfl) (by kernel_rfl) (fun _ _ _ h => h) (fun _ => by kernel_rfl) ?_
        intro a H
        refine An.pure H (.inr (HP)) 59 120 (.int .i64 ((m : Nat) : Int)) rfl (by kernel_rfl) (by kernel_rfl) (fun _ _ _ h => h) (fun _ => by kernel_rfl) ?_
        intro a H
        refine An.pureE H (.inr (HP)) 60 121 (.bool (decide (((m : Nat) : Int) > 59))) (.bool false) rfl (by kernel_rfl) (by kernel_rfl) (fun _ _ _ h => h) (fun _ => by kernel_rfl) ((congrArg Value.bool (decide_eq_false (by omega)))) ?_
        intro a H
        refine An.pure H (.inr (HP)) 61 122 (.bool false) rfl (by kernel_rfl) (by kernel_rfl) (fun _ _ _ h => h) (fun _ => by kernel_rfl) ?_
        intro a H
        refine An.pure H (.inr (HP)) 62 123 (.bool false) rfl (by kernel_rfl) (by kernel_rfl) (fun _ _ _ h => h) (fun _ => by kernel_rfl) ?_
        intro a H
        refine An.pure H (.inr (HP)) 63 124 (.int .i64 ((j : Nat) : Int)) rfl (by kernel_rfl) (by kernel_rfl) (fun _ _ _ h => h) (fun _ => by kernel_rfl) ?_
        intro a H
        refine An.pure H (.inr (HP)) 64 125 (.int .i64 ((N : Nat) : Int)) rfl (by kernel_rfl) (by kernel_rfl) (fun _ _ _ h => h) (fun _ => by kernel_rfl) ?_
        intro a H
        refine An.pureE H (.inr (HP)) 65 126 (.int .i64 (IntKind.i64.wrap (((N : Nat) : Int) - 1))) (.int .i64 (((N : Nat) : Int) - 1)) rfl (by kernel_rfl) (by kernel_rfl) (fun _ _ _ h => h) (fun _ => by kernel_rfl) ((by rw [wrap_ini64 _ (by omega)])) ?_
        intro a H
        refine An.pure H (.inr (HP)) 66 127 (.bool (decide (((j : Nat) : Int) < (((N : Nat) : Int) - 1)))) rfl (by kernel_rfl) (by kernel_rfl) (fun _ _ _ h => h) (fun _ => by kernel_rfl) ?_
        intro a H
        refine An.pure H (.inr (HP)) 67 128 (.bool (decide (((j : Nat) : Int) < (((N : Nat) : Int) - 1)))) rfl (by kernel_rfl) (by kernel_rfl) (fun _ _ _ h => h) (fun _ => by kernel_rfl) ?_
        intro a H
        refine H.split 128 rfl (fun g128 H => ?_) (fun g128 H => ?_)
        · have g128p := of_decide_eq_true g128
          refine An.pure H (.inr (HP)) 68 129 (.int .i64 ((m : Nat) : Int)) rfl (by kernel_rfl) (by kernel_rfl) (fun _ _ _ h => h) (fun _ => by kernel_rfl) ?_
          intro a H
          refine An.pureE H (.inr (HP)) 69 130 (.bool (((m : Nat) : Int) != 59)) (.bool false) rfl (by kernel_rfl) (by kernel_rfl) (fun _ _ _ h => h) (fun _ => by kernel_rfl) ((congrArg Value.bool (by rw [bne_eq_false_iff_eq]; omega))) ?_
          intro a H
          refine An.pure H (.inr (HP)) 70 131 (.bool false) rfl (by kernel_rfl) (by kernel_rfl) (fun _ _ _ h => h) (fun _ => by kernel_rfl) ?_
          intro a H
          refine An.pure H (.inr (HP)) 71 132 (.bool false) rfl (by kernel_rfl) (by kernel_rfl) (fun _ _ _ h => h) (fun _ => by kernel_rfl) ?_
          intro a H
          refine An.done (by kernel_rfl) ?_
          have H := H.keep (L' := [(132, (.bool false)), (11, (.int .i64 ((m : Nat) : Int))), (60, (.int .i64 ((m : Nat) : Int))), (59, (.int .u8 ((m : Nat) : Int))), (58, (.string (bstr p))), (10, (.string (bstr p))), (9, (.int .i64 ((j : Nat) : Int))), (8, (.int .i64 ((N : Nat) : Int))), (3, (.pointer (some ⟨b_1, 0, none⟩))), (5, (.bool true)), (6, (.string (bstr lu)))]) (by kernel_rfl)
          refine then_normal ?_
          exact ⟨H.keep (by kernel_rfl), HP⟩
        · have g128p := of_decide_eq_false g128
          refine An.skip H (.inr (HP)) 68 129 rfl (by kernel_rfl) (by kernel_rfl) (fun _ _ _ h => h) ?_
          intro a H
          refine An.skip H (.inr (HP)) 69 130 rfl (by kernel_rfl) (by kernel_rfl) (fun _ _ _ h => h) ?_
          intro a H
          refine An.pure H (.inr (HP)) 70 131 (.bool false) rfl (by kernel_rfl) (by kernel_rfl) (fun _ _ _ h => h) (fun _ => by kernel_rfl) ?_
          intro a H
          refine An.pure H (.inr (HP)) 71 132 (.bool false) rfl (by kernel_rfl) (by kernel_rfl) (fun _ _ _ h => h) (fun _ => by kernel_rfl) ?_
          intro a H
          refine An.done (by kernel_rfl) ?_
          have H := H.keep (L' := [(132, (.bool false)), (11, (.int .i64 ((m : Nat) : Int))), (60, (.int .i64 ((m : Nat) : Int))), (59, (.int .u8 ((m : Nat) : Int))), (58, (.string (bstr p))), (10, (.string (bstr p))), (9, (.int .i64 ((j : Nat) : Int))), (8, (.int .i64 ((N : Nat) : Int))), (3, (.pointer (some ⟨b_1, 0, none⟩))), (5, (.bool true)), (6, (.string (bstr lu)))]) (by kernel_rfl)
          refine then_normal ?_
          exact ⟨H.keep (by kernel_rfl), HP⟩
      ·
        rintro a w_12 ⟨H, HP⟩
        refine w_iff H rfl ?_
        refine wp_skip ?_
        refine then_normal ?_
        refine wp_seq ?_
        refine w_region ?_
        refine H.val 133 (.int .i64 ((m : Nat) : Int)) (by kernel_rfl) (by kernel_rfl) ?_
        intro a H
        refine H.valE 134 (.int .i64 (IntKind.i64.wrap (5 + ((m : Nat) : Int)))) (.int .i64 ((5 + m : Nat) : Int)) (by kernel_rfl) (by kernel_rfl) ((by rw [wrap_ini64 _ (by omega)]; exact congrArg (Value.int .i64) (by omega))) ?_
        intro a H
        refine H.val 12 (.int .i64 ((5 + m : Nat) : Int)) (by kernel_rfl) (by kernel_rfl) ?_
        intro a H
        refine wpList_nil ?_
        refine then_normal ?_
        refine wp_block ?_
        refine w_loop (fun mm a wv => ∃ (q : Nat), 64 - q = mm ∧ Sl 144 [(12, (.int .i64 ((q : Nat) : Int))), (10, (.string (bstr p))), (9, (.int .i64 ((j : Nat) : Int))), (8, (.int .i64 ((N : Nat) : Int))), (3, (.pointer (some ⟨b_1, 0, none⟩))), (5, (.bool true)), (6, (.string (bstr lu)))] a ∧ Hp w wv [bx b_1 28 [(.int .i64 U.channel), (.int .i64 U.frame), (.int .i64 U.version), (.int .i64 U.item), (.int .i64 U.index), (.bool U.key), (.string (bstr U.data)), (.int .i64 U.regions), (.int .i64 U.gain), (.string (bstr U.caption)), (.int .i64 U.os), (.int .i64 U.of), (.slice Bu U.al.length cu)] true] [⟨rowFp U.al.length Bu, fun w => IsAlts w Bu U.al.length U.al⟩] ∧ (5 + m ≤ q ∧ q ≤ 64)) (64 - (5 + m)) ?_ ?_
        · exact ⟨5 + m, (by omega), H.keep (by kernel_rfl), HP, by omega⟩
        rintro mm a w_13 ⟨q, hmeas, H, HP, hq⟩
        refine wp_seq ?_
        refine wp_seq ?_
        refine w_region ?_
        refine H.val 135 (.int .i64 ((q : Nat) : Int)) (by kernel_rfl) (by kernel_rfl) ?_
        intro a H
        refine H.val 136 (.bool (decide (((q : Nat) : Int) < 64))) (by kernel_rfl) (by kernel_rfl) ?_
        intro a H
        refine wpList_nil ?_
        refine then_normal ?_
        refine w_if H rfl (fun g136 => ?_) (fun g136 => ?_)
        · have g136p := of_decide_eq_true g136
          refine wp_skip ?_
          refine then_normal ?_
          refine wp_seq ?_
          refine wp_block ?_
          refine wp_seq ?_
          refine w_region ?_
          refine H.val 139 (.string (bstr p)) (by kernel_rfl) (by kernel_rfl) ?_
          intro a H
          refine H.val 140 (.int .i64 ((q : Nat) : Int)) (by kernel_rfl) (by kernel_rfl) ?_
          intro a H
          refine H.valE 141 (.int .u8 (((p.getD q 0).toNat : Nat) : Int)) (.int .u8 255) (by kernel_rfl) (ex_sindex (k := .i64) (l := p) (i := ((q : Nat) : Int)) (m := q) (by kernel_rfl) (by kernel_rfl) (by kernel_rfl) (by omega) (by omega)) ((congrArg (Value.int .u8) (by rw [hpad q (by omega) (by omega)]; rfl))) ?_
          intro a H
          refine H.val 142 (.bool false) (by kernel_rfl) (by kernel_rfl) ?_
          intro a H
          refine wpList_nil ?_
          refine then_normal ?_
          refine w_iff H rfl ?_
          refine wp_skip ?_
          refine inb_normal ?_
          refine then_normal ?_
          refine w_region ?_
          refine H.val 137 (.int .i64 ((q : Nat) : Int)) (by kernel_rfl) (by kernel_rfl) ?_
          intro a H
          refine H.valE 138 (.int .i64 (IntKind.i64.wrap (((q : Nat) : Int) + 1))) (.int .i64 (((q : Nat) : Int) + 1)) (by kernel_rfl) (by kernel_rfl) ((by rw [wrap_ini64 _ (by omega)])) ?_
          intro a H
          refine H.val 12 (.int .i64 (((q : Nat) : Int) + 1)) (by kernel_rfl) (by kernel_rfl) ?_
          intro a H
          refine wpList_nil ?_
          refine then_normal ?_
          have H := H.as 12 (.int .i64 ((q + 1 : Nat) : Int)) rfl rfl
          refine ⟨_, ?_, q + 1, rfl, H.keep (by kernel_rfl), HP, by omega⟩
          omega
        · have g136p := of_decide_eq_false g136
          refine wp_exit ?_
          refine then_exit ?_
          refine then_exit ?_
          refine w_exit_here ?_
          refine inb_normal ?_
          refine then_normal ?_
          refine w_region ?_
          refine H.val 49 (.int .i64 ((j : Nat) : Int)) (by kernel_rfl) (by kernel_rfl) ?_
          intro a H
          refine H.valE 50 (.int .i64 (IntKind.i64.wrap (((j : Nat) : Int) + 1))) (.int .i64 (((j : Nat) : Int) + 1)) (by kernel_rfl) (by kernel_rfl) ((by rw [wrap_ini64 _ (by omega)])) ?_
          intro a H
          refine H.val 9 (.int .i64 (((j : Nat) : Int) + 1)) (by kernel_rfl) (by kernel_rfl) ?_
          intro a H
          refine wpList_nil ?_
          refine then_normal ?_
          have H := H.as 9 (.int .i64 ((j + 1 : Nat) : Int)) rfl rfl
          refine ⟨_, ?_, j + 1, rfl, H.keep (by kernel_rfl), HP, by omega⟩
          omega
    · have g48p := of_decide_eq_false g48
      refine wp_exit ?_
      refine then_exit ?_
      refine then_exit ?_
      refine w_exit_here ?_
      refine then_normal ?_
      refine wp_seq ?_
      refine w_region ?_
      refine H.val 143 (.bool true) (by kernel_rfl) (by kernel_rfl) ?_
      intro a H
      refine H.val 4 (.bool true) (by kernel_rfl) (by kernel_rfl) ?_
      intro a H
      refine wpList_nil ?_
      refine then_normal ?_
      refine wp_ret ?_
      refine H.ret1 (fn := Tryd.f7) Tryd.results7 (RV.tmp_ (v := (.bool true)) (by kernel_rfl)) ?_
      exact ⟨rfl, (HP.below (by kernel_rfl))⟩
theorem packets_all (c : Int) (u : Un) (w : World) (hL : Laid w) (hc : -9223372036854775808 ≤ c ∧ c ≤ 9223372036854775807) (huu : IsAlts w u.A u.al.length u.al) (hcu : u.al.length ≤ u.c) (hAu : u.A = none → u.c = 0) :
    Calls Tryd.prog 7 #[.int .i64 c, u.val] w fun e w' => e = .returned (.bool true) ∧ Below w.heap.size w w' := by
  cases hu' : packP (rateP c).1 (rateP c).2 (shortU u) with
  | none => exact pks_n c u _ w rfl hL hc huu hcu hAu (fun _ _ => hu')
  | some lu => exact pks_s c u _ w rfl hL hc huu hcu hAu lu (fun _ _ => hu')
end Go.Proofs.YtgdjpaeclicdfaaDoor
