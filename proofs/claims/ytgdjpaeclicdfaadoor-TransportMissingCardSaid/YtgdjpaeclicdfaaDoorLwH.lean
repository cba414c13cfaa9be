/- TransportMissing: the walk. -/
import Derived.Test.YtgdjpaeclicdfaaDoorLwA
import Derived.Test.YtgdjpaeclicdfaaDoorTrM
import Derived.Test.YtgdjpaeclicdfaaDoorSymG
namespace Go.Proofs.YtgdjpaeclicdfaaDoor
open Go.ChangeShapes Go.WideShapes Go.ChangeAt Go.RowKit
set_option linter.unusedVariables false
set_option linter.unusedSimpArgs false

theorem unpSome {P : Program} {f : Nat} {args : Array Value} {w : World} {u : Un} (h : Calls P f args w (RetUn (some u) w)) : Calls P f args w fun e w' => ∃ B c, e = .returned (.tuple #[({ u with A := B, c := c } : Un).val, .int .i64 0]) ∧ Below w.heap.size w w' :=
  h.mono fun e w' hh => by obtain ⟨B, c, he, _, _, _, _, _, hb⟩ := hh; exact ⟨B, c, he, hb⟩
theorem over_put {m l : List UInt8} {n i k : Nat} (hm : m.length = 64 * n) (hl : l.length = 64 * n) (hi : i < n) (hk : k < n) : over m (0 + 64 * i) ((l.drop (64 * k)).take (64 * k + 64 - 64 * k)) = putPk m l i k := by
  unfold over putPk
  have e : ((l.drop (64 * k)).take (64 * k + 64 - 64 * k)).length = 64 := by rw [List.length_take, List.length_drop]; omega
  rw [e, Nat.zero_add, Nat.add_sub_cancel_left]
set_option maxRecDepth 100000 in
set_option maxHeartbeats 4000000 in
theorem mis_n (c : Int) (u U : Un) (i0 k0 : Int) (w : World) (hU : shortU u = U) (hL : Laid w) (hc : -9223372036854775808 ≤ c ∧ c ≤ 9223372036854775807) (hi0 : -9223372036854775808 ≤ i0 ∧ i0 ≤ 9223372036854775807) (hk0 : -9223372036854775808 ≤ k0 ∧ k0 ≤ 9223372036854775807) (huu : IsAlts w u.A u.al.length u.al) (hcu : u.al.length ≤ u.c) (hAu : u.A = none → u.c = 0) (hZu : ∀ B c', packP (rateP c).1 (rateP c).2 ({ U with A := B, c := c' } : Un) = none) :
    Calls Tryd.prog 10 #[.int .i64 c, u.val, .int .i64 i0, .int .i64 k0] w fun e w' => e = .returned (.bool true) ∧ Below w.heap.size w w' := by
  have HP := Hp.start w
  refine w_enter 136 [(0, (.int .i64 c)), (1, (.agg #[(.int .i64 u.channel), (.int .i64 u.frame), (.int .i64 u.version), (.int .i64 u.item), (.int .i64 u.index), (.bool u.key), (.string (bstr u.data)), (.int .i64 u.regions), (.int .i64 u.gain), (.string (bstr u.caption)), (.int .i64 u.os), (.int .i64 u.of), (.slice u.A u.al.length u.c)])), (2, (.int .i64 i0)), (3, (.int .i64 k0))] Tryd.func10 rfl Tryd.ntmps10 (by kernel_rfl) (by kernel_rfl) ?_
  intro a H
  refine wp_seq ?_
  refine w_region ?_
  refine H.alloc HP 5 (fun b => (.pointer (some ⟨b, 0, none⟩))) 28 [(.int .i64 u.channel), (.int .i64 u.frame), (.int .i64 u.version), (.int .i64 u.item), (.int .i64 u.index), (.bool u.key), (.string (bstr u.data)), (.int .i64 u.regions), (.int .i64 u.gain), (.string (bstr u.caption)), (.int .i64 u.os), (.int .i64 u.of), (.slice u.A u.al.length u.c)] (by kernel_rfl) (fun w => by kernel_rfl) ?_
  intro b_1 w_2 a H HP
  refine H.val 8 (.bool false) (by kernel_rfl) (by kernel_rfl) ?_
  intro a H
  refine wpList_nil ?_
  refine then_normal ?_
  refine wp_seq ?_
  refine w_region ?_
  refine H.call 20 (by kernel_rfl) (Eq.trans (by kernel_rfl : _ = (callFunc 13 #[]).run Tryd.prog w_2) (Tryd.call13 _ _)) (sane_any w_2 (hL.below (HP.below (by kernel_rfl)))) ?_
  rintro e w_3 ⟨rfl, hb⟩
  refine ⟨_, rfl, ?_⟩
  intro a H
  have HP := HP.next hb
  refine H.val 9 (.bool true) (by kernel_rfl) (by kernel_rfl) ?_
  intro a H
  refine wpList_nil ?_
  refine then_normal ?_
  refine w_cut (fun a wv => Sl 136 [(10, (.string (bstr ([])))), (11, (.int .i64 180)), (9, (.bool true)), (8, (.bool false)), (0, (.int .i64 c)), (2, (.int .i64 i0)), (3, (.int .i64 k0))] a ∧ Hp w wv [bx b_1 28 [(.int .i64 u.channel), (.int .i64 u.frame), (.int .i64 u.version), (.int .i64 u.item), (.int .i64 u.index), (.bool u.key), (.string (bstr u.data)), (.int .i64 u.regions), (.int .i64 u.gain), (.string (bstr u.caption)), (.int .i64 u.os), (.int .i64 u.of), (.slice u.A u.al.length u.c)] true] []) ?_ ?_
  ·
    refine An.start (fun v => Hp w v [bx b_1 28 [(.int .i64 u.channel), (.int .i64 u.frame), (.int .i64 u.version), (.int .i64 u.item), (.int .i64 u.index), (.bool u.key), (.string (bstr u.data)), (.int .i64 u.regions), (.int .i64 u.gain), (.string (bstr u.caption)), (.int .i64 u.os), (.int .i64 u.of), (.slice u.A u.al.length u.c)] true] []) 10 10 HP wide_follows rfl ?_
    intro w_4 HP
    refine An.pure H (.inr (HP)) 0 22 (.int .i64 c) rfl (by kernel_rfl) (by kernel_rfl) (fun _ _ _ h => h) (fun _ => by kernel_rfl) ?_
    intro a H
    refine An.val H (HP) 2 24 (.agg #[(.int .i64 u.channel), (.int .i64 u.frame), (.int .i64 u.version), (.int .i64 u.item), (.int .i64 u.index), (.bool u.key), (.string (bstr u.data)), (.int .i64 u.regions), (.int .i64 u.gain), (.string (bstr u.caption)), (.int .i64 u.os), (.int .i64 u.of), (.slice u.A u.al.length u.c)]) rfl (by kernel_rfl) (by kernel_rfl) (fun _ _ _ h => h) (fun _ hS => ex_loadN (vs := [(.int .i64 u.channel), (.int .i64 u.frame), (.int .i64 u.version), (.int .i64 u.item), (.int .i64 u.index), (.bool u.key), (.string (bstr u.data)), (.int .i64 u.regions), (.int .i64 u.gain), (.string (bstr u.caption)), (.int .i64 u.os), (.int .i64 u.of), (.slice u.A u.al.length u.c)]) (by kernel_rfl) (by kernel_rfl) (by kernel_rfl) rfl (hS.cells 0 rfl 0 13 (by kernel_rfl))) ?_
    intro a H
    refine An.one 1 (by kernel_rfl) ?_
    refine Op.call H 23 rfl (by kernel_rfl) (Eq.trans (by kernel_rfl : _ = (callFunc 14 #[(.int .i64 c)]).run Tryd.prog w_4) (Tryd.call14 _ _)) (rate_any c w_4 hc) ?_
    rintro e w_5 ⟨rfl, hb⟩
    refine ⟨_, rfl, ?_⟩
    intro a H
    have HP := HP.next hb
    refine ⟨.inr (HP), ?_⟩
    refine An.one 3 (by kernel_rfl) ?_
    refine Op.call H 25 rfl (by kernel_rfl) (Eq.trans (by kernel_rfl : _ = (callFunc 15 #[(.agg #[(.int .i64 u.channel), (.int .i64 u.frame), (.int .i64 u.version), (.int .i64 u.item), (.int .i64 u.index), (.bool u.key), (.string (bstr u.data)), (.int .i64 u.regions), (.int .i64 u.gain), (.string (bstr u.caption)), (.int .i64 u.os), (.int .i64 u.of), (.slice u.A u.al.length u.c)])]).run Tryd.prog w_5) (Tryd.call15 _ _)) (short_anyU hU (short_any u w_5 (huu.below (HP.below (by kernel_rfl))) hcu hAu)) ?_
    rintro e w_6 ⟨Bu, cu, rfl, halu, hcau, hcbu, hccu, hfru, hb⟩
    refine ⟨_, rfl, ?_⟩
    intro a H
    have HP := (HP.next hb).keepF ⟨rowFp U.al.length Bu, fun w => IsAlts w Bu U.al.length U.al⟩ halu (fun _ _ h hk hs => ⟨h.1, h.2.keep hk hs⟩) (fun j hj => row_sep HP halu.2 hfru hj)
    refine ⟨.inr (HP.untop), ?_⟩
    refine An.one 4 (by kernel_rfl) ?_
    refine Op.call H 26 rfl (by kernel_rfl) (Eq.trans (by kernel_rfl : _ = (callFunc 16 #[(.agg #[(.int .i64 ((rateP c).1)), (.int .i64 ((rateP c).2))]), (.agg #[(.int .i64 U.channel), (.int .i64 U.frame), (.int .i64 U.version), (.int .i64 U.item), (.int .i64 U.index), (.bool U.key), (.string (bstr U.data)), (.int .i64 U.regions), (.int .i64 U.gain), (.string (bstr U.caption)), (.int .i64 U.os), (.int .i64 U.of), (.slice Bu U.al.length cu)])]).run Tryd.prog w_6) (Tryd.call16 _ _)) ((by have hh := pack_any ((rateP c).1) ((rateP c).2) (⟨U.channel, U.frame, U.version, U.item, U.index, U.key, U.data, U.regions, U.gain, U.caption, U.os, U.of, Bu, cu, U.al⟩ : Un) w_6 (hL.below (HP.below (by kernel_rfl))) (HP.fact 0 rfl) (Nat.le_trans hcau hcbu); rw [hZu Bu cu] at hh; exact hh)) ?_
    rintro e w_7 ⟨rfl, hb⟩
    refine ⟨_, rfl, ?_⟩
    intro a H
    have HP := HP.next hb
    refine ⟨.inr (HP.untop), ?_⟩
    refine An.pure H (.inr (HP.untop)) 5 21 (.tuple #[(.string (bstr ([]))), (.int .i64 180)]) rfl (by kernel_rfl) (by kernel_rfl) (fun _ _ _ h => h) (fun _ => by kernel_rfl) ?_
    intro a H
    refine An.pure H (.inr (HP.untop)) 6 27 (.string (bstr ([]))) rfl (by kernel_rfl) (by kernel_rfl) (fun _ _ _ h => h) (fun _ => by kernel_rfl) ?_
    intro a H
    refine An.pure H (.inr (HP.untop)) 7 28 (.int .i64 180) rfl (by kernel_rfl) (by kernel_rfl) (fun _ _ _ h => h) (fun _ => by kernel_rfl) ?_
    intro a H
    refine An.pure H (.inr (HP.untop)) 8 10 (.string (bstr ([]))) rfl (by kernel_rfl) (by kernel_rfl) (fun _ _ _ h => h) (fun _ => by kernel_rfl) ?_
    intro a H
    refine An.pure H (.inr (HP.untop)) 9 11 (.int .i64 180) rfl (by kernel_rfl) (by kernel_rfl) (fun _ _ _ h => h) (fun _ => by kernel_rfl) ?_
    intro a H
    refine An.done (by kernel_rfl) ?_
    have H := H.keep (L' := [(11, (.int .i64 180)), (10, (.string (bstr ([])))), (9, (.bool true)), (20, (.bool true)), (8, (.bool false)), (5, (.pointer (some ⟨b_1, 0, none⟩))), (0, (.int .i64 c)), (1, (.agg #[(.int .i64 u.channel), (.int .i64 u.frame), (.int .i64 u.version), (.int .i64 u.item), (.int .i64 u.index), (.bool u.key), (.string (bstr u.data)), (.int .i64 u.regions), (.int .i64 u.gain), (.string (bstr u.caption)), (.int .i64 u.os), (.int .i64 u.of), (.slice u.A u.al.length u.c)])), (2, (.int .i64 i0)), (3, (.int .i64 k0))]) (by kernel_rfl)
    refine then_normal ?_
    exact ⟨H.keep (by kernel_rfl), HP.untop⟩
  ·
    rintro a w_8 ⟨H, HP⟩
    refine wp_seq ?_
    refine wp_seq ?_
    refine w_region ?_
    refine H.val 29 (.int .i64 180) (by kernel_rfl) (by kernel_rfl) ?_
    intro a H
    refine H.val 30 (.bool true) (by kernel_rfl) (by kernel_rfl) ?_
    intro a H
    refine H.val 31 (.bool true) (by kernel_rfl) (by kernel_rfl) ?_
    intro a H
    refine H.skip 32 (by kernel_rfl) ?_
    intro a H
    refine H.skip 33 (by kernel_rfl) ?_
    intro a H
    refine H.val 34 (.bool true) (by kernel_rfl) (by kernel_rfl) ?_
    intro a H
    refine wpList_nil ?_
    refine then_normal ?_
    refine w_ift H rfl ?_
    refine wp_seq ?_
    refine w_region ?_
    refine H.val 35 (.bool true) (by kernel_rfl) (by kernel_rfl) ?_
    intro a H
    refine H.val 36 (.bool true) (by kernel_rfl) (by kernel_rfl) ?_
    intro a H
    refine H.val 37 (.int .i64 180) (by kernel_rfl) (by kernel_rfl) ?_
    intro a H
    refine H.val 38 (.bool true) (by kernel_rfl) (by kernel_rfl) ?_
    intro a H
    refine H.val 39 (.bool true) (by kernel_rfl) (by kernel_rfl) ?_
    intro a H
    refine H.val 8 (.bool true) (by kernel_rfl) (by kernel_rfl) ?_
    intro a H
    refine wpList_nil ?_
    have H := H.keep (L' := [(8, (.bool true)), (34, (.bool true)), (33, undef), (32, undef), (31, (.bool true)), (30, (.bool true)), (29, (.int .i64 180)), (10, (.string (bstr ([])))), (11, (.int .i64 180)), (9, (.bool true)), (0, (.int .i64 c)), (2, (.int .i64 i0)), (3, (.int .i64 k0))]) (by kernel_rfl)
    refine then_normal ?_
    refine wp_ret ?_
    refine then_ret ?_
    refine H.ret1 (fn := Tryd.f10) Tryd.results10 (RV.tmp_ (v := (.bool true)) (by kernel_rfl)) ?_
    exact ⟨rfl, (HP.below (by kernel_rfl))⟩
set_option maxRecDepth 100000 in
set_option maxHeartbeats 4000000 in
theorem mis_t (c : Int) (u U : Un) (i0 k0 : Int) (w : World) (hU : shortU u = U) (hL : Laid w) (hc : -9223372036854775808 ≤ c ∧ c ≤ 9223372036854775807) (hi0 : -9223372036854775808 ≤ i0 ∧ i0 ≤ 9223372036854775807) (hk0 : -9223372036854775808 ≤ k0 ∧ k0 ≤ 9223372036854775807) (huu : IsAlts w u.A u.al.length u.al) (hcu : u.al.length ≤ u.c) (hAu : u.A = none → u.c = 0) (lu : List UInt8) (hZu : ∀ B c', packP (rateP c).1 (rateP c).2 ({ U with A := B, c := c' } : Un) = some lu) (N i k : Nat) (hN : lu.length = 64 * N) (hn1 : 1 ≤ N) (hn13 : N ≤ 13) (hpi : pickI i0 ((N : Nat) : Int) = ((i : Nat) : Int)) (hpk : pickI k0 ((N : Nat) : Int) = ((k : Nat) : Int)) (hiN : i < N) (hkN : k < N) (hik : ((((i : Nat) : Int)) == ((k : Nat) : Int)) = true) (hun : unpackP (rateP c).1 (rateP c).2 (putPk (putPk lu lu i k) lu k i) = some (bareU U)) :
    Calls Tryd.prog 10 #[.int .i64 c, u.val, .int .i64 i0, .int .i64 k0] w fun e w' => e = .returned (.bool true) ∧ Below w.heap.size w w' := by
  have HP := Hp.start w
  have hne : lu ≠ [] := fun e => by subst e; simp at hN; omega
  have hpl1 := putPk_len hN hN hiN hkN
  have hpl2 := putPk_len hpl1 hN hkN hiN
  refine w_enter 136 [(0, (.int .i64 c)), (1, (.agg #[(.int .i64 u.channel), (.int .i64 u.frame), (.int .i64 u.version), (.int .i64 u.item), (.int .i64 u.index), (.bool u.key), (.string (bstr u.data)), (.int .i64 u.regions), (.int .i64 u.gain), (.string (bstr u.caption)), (.int .i64 u.os), (.int .i64 u.of), (.slice u.A u.al.length u.c)])), (2, (.int .i64 i0)), (3, (.int .i64 k0))] Tryd.func10 rfl Tryd.ntmps10 (by kernel_rfl) (by kernel_rfl) ?_
  intro a H
  refine wp_seq ?_
  refine w_region ?_
  refine H.alloc HP 5 (fun b => (.pointer (some ⟨b, 0, none⟩))) 28 [(.int .i64 u.channel), (.int .i64 u.frame), (.int .i64 u.version), (.int .i64 u.item), (.int .i64 u.index), (.bool u.key), (.string (bstr u.data)), (.int .i64 u.regions), (.int .i64 u.gain), (.string (bstr u.caption)), (.int .i64 u.os), (.int .i64 u.of), (.slice u.A u.al.length u.c)] (by kernel_rfl) (fun w => by kernel_rfl) ?_
  intro b_1 w_2 a H HP
  refine H.val 8 (.bool false) (by kernel_rfl) (by kernel_rfl) ?_
  intro a H
  refine wpList_nil ?_
  refine then_normal ?_
  refine wp_seq ?_
  refine w_region ?_
  refine H.call 20 (by kernel_rfl) (Eq.trans (by kernel_rfl : _ = (callFunc 13 #[]).run Tryd.prog w_2) (Tryd.call13 _ _)) (sane_any w_2 (hL.below (HP.below (by kernel_rfl)))) ?_
  rintro e w_3 ⟨rfl, hb⟩
  refine ⟨_, rfl, ?_⟩
  intro a H
  have HP := HP.next hb
  refine H.val 9 (.bool true) (by kernel_rfl) (by kernel_rfl) ?_
  intro a H
  refine wpList_nil ?_
  refine then_normal ?_
  refine w_cut (fun a wv => Sl 136 [(10, (.string (bstr lu))), (11, (.int .i64 0)), (9, (.bool true)), (8, (.bool false)), (0, (.int .i64 c)), (2, (.int .i64 i0)), (3, (.int .i64 k0))] a ∧ Hp w wv [bx b_1 28 [(.int .i64 u.channel), (.int .i64 u.frame), (.int .i64 u.version), (.int .i64 u.item), (.int .i64 u.index), (.bool u.key), (.string (bstr u.data)), (.int .i64 u.regions), (.int .i64 u.gain), (.string (bstr u.caption)), (.int .i64 u.os), (.int .i64 u.of), (.slice u.A u.al.length u.c)] true] []) ?_ ?_
  ·
    refine An.start (fun v => Hp w v [bx b_1 28 [(.int .i64 u.channel), (.int .i64 u.frame), (.int .i64 u.version), (.int .i64 u.item), (.int .i64 u.index), (.bool u.key), (.string (bstr u.data)), (.int .i64 u.regions), (.int .i64 u.gain), (.string (bstr u.caption)), (.int .i64 u.os), (.int .i64 u.of), (.slice u.A u.al.length u.c)] true] []) 10 10 HP wide_follows rfl ?_
    intro w_4 HP
    refine An.pure H (.inr (HP)) 0 22 (.int .i64 c) rfl (by kernel_rfl) (by kernel_rfl) (fun _ _ _ h => h) (fun _ => by kernel_rfl) ?_
    intro a H
    refine An.val H (HP) 2 24 (.agg #[(.int .i64 u.channel), (.int .i64 u.frame), (.int .i64 u.version), (.int .i64 u.item), (.int .i64 u.index), (.bool u.key), (.string (bstr u.data)), (.int .i64 u.regions), (.int .i64 u.gain), (.string (bstr u.caption)), (.int .i64 u.os), (.int .i64 u.of), (.slice u.A u.al.length u.c)]) rfl (by kernel_rfl) (by kernel_rfl) (fun _ _ _ h => h) (fun _ hS => ex_loadN (vs := [(.int .i64 u.channel), (.int .i64 u.frame), (.int .i64 u.version), (.int .i64 u.item), (.int .i64 u.index), (.bool u.key), (.string (bstr u.data)), (.int .i64 u.regions), (.int .i64 u.gain), (.string (bstr u.caption)), (.int .i64 u.os), (.int .i64 u.of), (.slice u.A u.al.length u.c)]) (by kernel_rfl) (by kernel_rfl) (by kernel_rfl) rfl (hS.cells 0 rfl 0 13 (by kernel_rfl))) ?_
    intro a H
    refine An.one 1 (by kernel_rfl) ?_
    refine Op.call H 23 rfl (by kernel_rfl) (Eq.trans (by kernel_rfl : _ = (callFunc 14 #[(.int .i64 c)]).run Tryd.prog w_4) (Tryd.call14 _ _)) (rate_any c w_4 hc) ?_
    rintro e w_5 ⟨rfl, hb⟩
    refine ⟨_, rfl, ?_⟩
    intro a H
    have HP := HP.next hb
    refine ⟨.inr (HP), ?_⟩
    refine An.one 3 (by kernel_rfl) ?_
    refine Op.call H 25 rfl (by kernel_rfl) (Eq.trans (by kernel_rfl : _ = (callFunc 15 #[(.agg #[(.int .i64 u.channel), (.int .i64 u.frame), (.int .i64 u.version), (.int .i64 u.item), (.int .i64 u.index), (.bool u.key), (.string (bstr u.data)), (.int .i64 u.regions), (.int .i64 u.gain), (.string (bstr u.caption)), (.int .i64 u.os), (.int .i64 u.of), (.slice u.A u.al.length u.c)])]).run Tryd.prog w_5) (Tryd.call15 _ _)) (short_anyU hU (short_any u w_5 (huu.below (HP.below (by kernel_rfl))) hcu hAu)) ?_
    rintro e w_6 ⟨Bu, cu, rfl, halu, hcau, hcbu, hccu, hfru, hb⟩
    refine ⟨_, rfl, ?_⟩
    intro a H
    have HP := (HP.next hb).keepF ⟨rowFp U.al.length Bu, fun w => IsAlts w Bu U.al.length U.al⟩ halu (fun _ _ h hk hs => ⟨h.1, h.2.keep hk hs⟩) (fun j hj => row_sep HP halu.2 hfru hj)
    refine ⟨.inr (HP.untop), ?_⟩
    refine An.one 4 (by kernel_rfl) ?_
    refine Op.call H 26 rfl (by kernel_rfl) (Eq.trans (by kernel_rfl : _ = (callFunc 16 #[(.agg #[(.int .i64 ((rateP c).1)), (.int .i64 ((rateP c).2))]), (.agg #[(.int .i64 U.channel), (.int .i64 U.frame), (.int .i64 U.version), (.int .i64 U.item), (.int .i64 U.index), (.bool U.key), (.string (bstr U.data)), (.int .i64 U.regions), (.int .i64 U.gain), (.string (bstr U.caption)), (.int .i64 U.os), (.int .i64 U.of), (.slice Bu U.al.length cu)])]).run Tryd.prog w_6) (Tryd.call16 _ _)) ((by have hh := pack_any ((rateP c).1) ((rateP c).2) (⟨U.channel, U.frame, U.version, U.item, U.index, U.key, U.data, U.regions, U.gain, U.caption, U.os, U.of, Bu, cu, U.al⟩ : Un) w_6 (hL.below (HP.below (by kernel_rfl))) (HP.fact 0 rfl) (Nat.le_trans hcau hcbu); rw [hZu Bu cu] at hh; exact hh)) ?_
    rintro e w_7 ⟨rfl, hb⟩
    refine ⟨_, rfl, ?_⟩
    intro a H
    have HP := HP.next hb
    refine ⟨.inr (HP.untop), ?_⟩
    refine An.pure H (.inr (HP.untop)) 5 21 (.tuple #[(.string (bstr lu)), (.int .i64 0)]) rfl (by kernel_rfl) (by kernel_rfl) (fun _ _ _ h => h) (fun _ => by kernel_rfl) ?_
    intro a H
    refine An.pure H (.inr (HP.untop)) 6 27 (.string (bstr lu)) rfl (by kernel_rfl) (by kernel_rfl) (fun _ _ _ h => h) (fun _ => by kernel_rfl) ?_
    intro a H
    refine An.pure H (.inr (HP.untop)) 7 28 (.int .i64 0) rfl (by kernel_rfl) (by kernel_rfl) (fun _ _ _ h => h) (fun _ => by kernel_rfl) ?_
    intro a H
    refine An.pure H (.inr (HP.untop)) 8 10 (.string (bstr lu)) rfl (by kernel_rfl) (by kernel_rfl) (fun _ _ _ h => h) (fun _ => by kernel_rfl) ?_
    intro a H
    refine An.pure H (.inr (HP.untop)) 9 11 (.int .i64 0) rfl (by kernel_rfl) (by kernel_rfl) (fun _ _ _ h => h) (fun _ => by kernel_rfl) ?_
    intro a H
    refine An.done (by kernel_rfl) ?_
    have H := H.keep (L' := [(11, (.int .i64 0)), (10, (.string (bstr lu))), (9, (.bool true)), (20, (.bool true)), (8, (.bool false)), (5, (.pointer (some ⟨b_1, 0, none⟩))), (0, (.int .i64 c)), (1, (.agg #[(.int .i64 u.channel), (.int .i64 u.frame), (.int .i64 u.version), (.int .i64 u.item), (.int .i64 u.index), (.bool u.key), (.string (bstr u.data)), (.int .i64 u.regions), (.int .i64 u.gain), (.string (bstr u.caption)), (.int .i64 u.os), (.int .i64 u.of), (.slice u.A u.al.length u.c)])), (2, (.int .i64 i0)), (3, (.int .i64 k0))]) (by kernel_rfl)
    refine then_normal ?_
    exact ⟨H.keep (by kernel_rfl), HP.untop⟩
  ·
    rintro a w_8 ⟨H, HP⟩
    refine wp_seq ?_
    refine wp_seq ?_
    refine w_region ?_
    refine H.val 29 (.int .i64 0) (by kernel_rfl) (by kernel_rfl) ?_
    intro a H
    refine H.val 30 (.bool false) (by kernel_rfl) (by kernel_rfl) ?_
    intro a H
    refine H.val 31 (.bool false) (by kernel_rfl) (by kernel_rfl) ?_
    intro a H
    refine H.val 32 (.string (bstr lu)) (by kernel_rfl) (by kernel_rfl) ?_
    intro a H
    refine H.valE 33 (.bool ((bstr lu).toList == (bstr []).toList)) (.bool false) (by kernel_rfl) (by kernel_rfl) ((congrArg Value.bool ((bstr_eq _ _).trans (beq_eq_false_iff_ne.2 hne)))) ?_
    intro a H
    refine H.val 34 (.bool false) (by kernel_rfl) (by kernel_rfl) ?_
    intro a H
    refine wpList_nil ?_
    refine then_normal ?_
    refine w_iff H rfl ?_
    refine wp_skip ?_
    refine then_normal ?_
    refine wp_seq ?_
    refine w_region ?_
    refine H.val 40 (.string (bstr lu)) (by kernel_rfl) (by kernel_rfl) ?_
    intro a H
    refine H.val 41 (.int .i64 ((lu.length : Nat) : Int)) (by kernel_rfl) (by kernel_rfl) ?_
    intro a H
    refine H.valE 42 (.int .i64 (IntKind.i64.wrap (((lu.length : Nat) : Int).tdiv 64))) (.int .i64 ((N : Nat) : Int)) (by kernel_rfl) (by kernel_rfl) ((by rw [tdiv_nn _ _ (by omega), wrap_ini64 _ (by omega)]; exact congrArg (Value.int .i64) (by omega))) ?_
    intro a H
    refine H.val 12 (.int .i64 ((N : Nat) : Int)) (by kernel_rfl) (by kernel_rfl) ?_
    intro a H
    refine wpList_nil ?_
    refine then_normal ?_
    refine wp_seq ?_
    refine w_region ?_
    refine H.val 43 (.int .i64 i0) (by kernel_rfl) (by kernel_rfl) ?_
    intro a H
    refine H.val 44 (.int .i64 ((N : Nat) : Int)) (by kernel_rfl) (by kernel_rfl) ?_
    intro a H
    refine H.call 45 (by kernel_rfl) (Eq.trans (by kernel_rfl : _ = (callFunc 27 #[(.int .i64 i0), (.int .i64 ((N : Nat) : Int))]).run Tryd.prog w_8) (Tryd.call27 _ _)) ((by have hh := pick_any i0 ((N : Nat) : Int) w_8 hi0 (by omega); rw [hpi] at hh; exact hh)) ?_
    rintro e w_9 ⟨rfl, rfl⟩
    refine ⟨_, rfl, ?_⟩
    intro a H
    refine H.val 2 (.int .i64 ((i : Nat) : Int)) (by kernel_rfl) (by kernel_rfl) ?_
    intro a H
    refine wpList_nil ?_
    refine then_normal ?_
    refine wp_seq ?_
    refine w_region ?_
    refine H.val 46 (.int .i64 k0) (by kernel_rfl) (by kernel_rfl) ?_
    intro a H
    refine H.val 47 (.int .i64 ((N : Nat) : Int)) (by kernel_rfl) (by kernel_rfl) ?_
    intro a H
    refine H.call 48 (by kernel_rfl) (Eq.trans (by kernel_rfl : _ = (callFunc 27 #[(.int .i64 k0), (.int .i64 ((N : Nat) : Int))]).run Tryd.prog w_8) (Tryd.call27 _ _)) ((by have hh := pick_any k0 ((N : Nat) : Int) w_8 hk0 (by omega); rw [hpk] at hh; exact hh)) ?_
    rintro e w_10 ⟨rfl, rfl⟩
    refine ⟨_, rfl, ?_⟩
    intro a H
    refine H.val 3 (.int .i64 ((k : Nat) : Int)) (by kernel_rfl) (by kernel_rfl) ?_
    intro a H
    refine wpList_nil ?_
    refine then_normal ?_
    refine w_cut (fun a wv => Sl 136 [(14, (.int .i64 180)), (3, (.int .i64 ((k : Nat) : Int))), (2, (.int .i64 ((i : Nat) : Int))), (34, (.bool false)), (10, (.string (bstr lu))), (9, (.bool true)), (8, (.bool false)), (0, (.int .i64 c))] a ∧ Hp w wv [bx b_1 28 [(.int .i64 u.channel), (.int .i64 u.frame), (.int .i64 u.version), (.int .i64 u.item), (.int .i64 u.index), (.bool u.key), (.string (bstr u.data)), (.int .i64 u.regions), (.int .i64 u.gain), (.string (bstr u.caption)), (.int .i64 u.os), (.int .i64 u.of), (.slice u.A u.al.length u.c)] true] []) ?_ ?_
    ·
      refine An.start (fun v => Hp w v [bx b_1 28 [(.int .i64 u.channel), (.int .i64 u.frame), (.int .i64 u.version), (.int .i64 u.item), (.int .i64 u.index), (.bool u.key), (.string (bstr u.data)), (.int .i64 u.regions), (.int .i64 u.gain), (.string (bstr u.caption)), (.int .i64 u.os), (.int .i64 u.of), (.slice u.A u.al.length u.c)] true] []) 19 19 HP wide_follows rfl ?_
      intro w_11 HP
      refine An.pure H (.inr (HP)) 0 50 (.int .i64 c) rfl (by kernel_rfl) (by kernel_rfl) (fun _ _ _ h => h) (fun _ => by kernel_rfl) ?_
      intro a H
      refine An.pure H (.inr (HP)) 2 52 (.string (bstr lu)) rfl (by kernel_rfl) (by kernel_rfl) (fun _ _ _ h => h) (fun _ => by kernel_rfl) ?_
      intro a H
      refine An.pure H (.inr (HP)) 3 53 (.int .i64 ((i : Nat) : Int)) rfl (by kernel_rfl) (by kernel_rfl) (fun _ _ _ h => h) (fun _ => by kernel_rfl) ?_
      intro a H
      refine An.pureE H (.inr (HP)) 4 54 (.int .i64 (IntKind.i64.wrap (64 * ((i : Nat) : Int)))) (.int .i64 ((64 * i : Nat) : Int)) rfl (by kernel_rfl) (by kernel_rfl) (fun _ _ _ h => h) (fun _ => by kernel_rfl) ((by rw [wrap_ini64 _ (by omega)]; exact congrArg (Value.int .i64) (by omega))) ?_
      intro a H
      refine An.pure H (.inr (HP)) 5 55 (.string (bstr (lu.take (64 * i)))) rfl (by kernel_rfl) (by kernel_rfl) (fun _ _ _ h => h) (fun _ => ex_ssliceH (kk := .i64) (l := lu) (j := ((64 * i : Nat) : Int)) (b := (64 * i)) (by kernel_rfl) (by kernel_rfl) (by kernel_rfl) (by omega) (by omega)) ?_
      intro a H
      refine An.pure H (.inr (HP)) 6 56 (.string (bstr lu)) rfl (by kernel_rfl) (by kernel_rfl) (fun _ _ _ h => h) (fun _ => by kernel_rfl) ?_
      intro a H
      refine An.pure H (.inr (HP)) 7 57 (.int .i64 ((i : Nat) : Int)) rfl (by kernel_rfl) (by kernel_rfl) (fun _ _ _ h => h) (fun _ => by kernel_rfl) ?_
      intro a H
      refine An.pureE H (.inr (HP)) 8 58 (.int .i64 (IntKind.i64.wrap (64 * ((i : Nat) : Int)))) (.int .i64 ((64 * i : Nat) : Int)) rfl (by kernel_rfl) (by kernel_rfl) (fun _ _ _ h => h) (fun _ => by kernel_rfl) ((by rw [wrap_ini64 _ (by omega)]; exact congrArg (Value.int .i64) (by omega))) ?_
      intro a H
      refine An.pureE H (.inr (HP)) 9 59 (.int .i64 (IntKind.i64.wrap (((64 * i : Nat) : Int) + 64))) (.int .i64 ((64 * i + 64 : Nat) : Int)) rfl (by kernel_rfl) (by kernel_rfl) (fun _ _ _ h => h) (fun _ => by kernel_rfl) ((by rw [wrap_ini64 _ (by omega)]; exact congrArg (Value.int .i64) (by omega))) ?_
      intro a H
      refine An.pure H (.inr (HP)) 10 60 (.string (bstr (lu.drop (64 * i + 64)))) rfl (by kernel_rfl) (by kernel_rfl) (fun _ _ _ h => h) (fun _ => ex_ssliceL (k := .i64) (l := lu) (i := ((64 * i + 64 : Nat) : Int)) (a := (64 * i + 64)) (by kernel_rfl) (by kernel_rfl) (by kernel_rfl) (by omega) (by omega)) ?_
      intro a H
      refine An.pure H (.inr (HP)) 11 61 (.string (bstr ((lu.take (64 * i)) ++ (lu.drop (64 * i + 64))))) rfl (by kernel_rfl) (by kernel_rfl) (fun _ _ _ h => h) (fun _ => ex_sadd (by kernel_rfl) (by kernel_rfl) (by first | omega | (simp only [List.length_take, List.length_drop]; omega))) ?_
      intro a H
      refine An.two 1 16 (by kernel_rfl) ?_ ?_
      · refine Op.call H 51 rfl (by kernel_rfl) (Eq.trans (by kernel_rfl : _ = (callFunc 14 #[(.int .i64 c)]).run Tryd.prog w_11) (Tryd.call14 _ _)) (rate_any c w_11 hc) ?_
        rintro e w_12 ⟨rfl, hb⟩
        refine ⟨_, rfl, ?_⟩
        intro a H
        have HP := HP.next hb
        refine ⟨.inr (HP), ?_⟩
        refine An.two 12 16 (by kernel_rfl) ?_ ?_
        · refine Op.call H 62 rfl (by kernel_rfl) (Eq.trans (by kernel_rfl : _ = (callFunc 22 #[(.agg #[(.int .i64 ((rateP c).1)), (.int .i64 ((rateP c).2))]), (.string (bstr ((lu.take (64 * i)) ++ (lu.drop (64 * i + 64)))))]).run Tryd.prog w_12) (Tryd.call22 _ _)) ((by have hh := unpack_any (rateP c).1 (rateP c).2 (lu.take (64 * i) ++ lu.drop (64 * i + 64)) w_12 (hL.below (HP.below (by kernel_rfl))) (by simp only [List.length_append, List.length_take, List.length_drop]; omega); rw [missing_law (hZu none 0) hN (by omega) hiN] at hh; exact hh)) ?_
          rintro e w_13 ⟨rfl, hb⟩
          refine ⟨_, rfl, ?_⟩
          intro a H
          have HP := HP.next hb
          refine ⟨.inr (HP), ?_⟩
          refine An.pure H (.inr (HP)) 13 49 (.tuple #[(.agg #[(.int .i64 0), (.int .i64 0), (.int .i64 0), (.int .i64 0), (.int .i64 0), (.bool false), (.string (bstr ([]))), (.int .i64 0), (.int .i64 0), (.string (bstr ([]))), (.int .i64 0), (.int .i64 0), (.slice none 0 0)]), (.int .i64 180)]) rfl (by kernel_rfl) (by kernel_rfl) (fun _ _ _ h => h) (fun _ => by kernel_rfl) ?_
          intro a H
          refine An.pure H (.inr (HP)) 14 63 (.agg #[(.int .i64 0), (.int .i64 0), (.int .i64 0), (.int .i64 0), (.int .i64 0), (.bool false), (.string (bstr ([]))), (.int .i64 0), (.int .i64 0), (.string (bstr ([]))), (.int .i64 0), (.int .i64 0), (.slice none 0 0)]) rfl (by kernel_rfl) (by kernel_rfl) (fun _ _ _ h => h) (fun _ => by kernel_rfl) ?_
          intro a H
          refine An.pure H (.inr (HP)) 15 64 (.int .i64 180) rfl (by kernel_rfl) (by kernel_rfl) (fun _ _ _ h => h) (fun _ => by kernel_rfl) ?_
          intro a H
          refine An.one 16 (by kernel_rfl) ?_
          refine Op.alloc H HP 13 (fun b => (.pointer (some ⟨b, 0, none⟩))) 28 [(.int .i64 0), (.int .i64 0), (.int .i64 0), (.int .i64 0), (.int .i64 0), (.bool false), (.string (bstr ([]))), (.int .i64 0), (.int .i64 0), (.string (bstr ([]))), (.int .i64 0), (.int .i64 0), (.slice none 0 0)] rfl (by kernel_rfl) (fun w => by kernel_rfl) ?_
          intro b_14 w_15 a H HP
          refine ⟨.inr ((HP.tail rfl)), ?_⟩
          refine An.one 17 (by kernel_rfl) ?_
          refine Op.store H HP 0 b_14 0 13 28 [(.int .i64 0), (.int .i64 0), (.int .i64 0), (.int .i64 0), (.int .i64 0), (.bool false), (.string (bstr ([]))), (.int .i64 0), (.int .i64 0), (.string (bstr ([]))), (.int .i64 0), (.int .i64 0), (.slice none 0 0)] true (.agg #[(.int .i64 0), (.int .i64 0), (.int .i64 0), (.int .i64 0), (.int .i64 0), (.bool false), (.string (bstr ([]))), (.int .i64 0), (.int .i64 0), (.string (bstr ([]))), (.int .i64 0), (.int .i64 0), (.slice none 0 0)]) [bx b_14 28 [(.int .i64 0), (.int .i64 0), (.int .i64 0), (.int .i64 0), (.int .i64 0), (.bool false), (.string (bstr ([]))), (.int .i64 0), (.int .i64 0), (.string (bstr ([]))), (.int .i64 0), (.int .i64 0), (.slice none 0 0)] true, bx b_1 28 [(.int .i64 u.channel), (.int .i64 u.frame), (.int .i64 u.version), (.int .i64 u.item), (.int .i64 u.index), (.bool u.key), (.string (bstr u.data)), (.int .i64 u.regions), (.int .i64 u.gain), (.string (bstr u.caption)), (.int .i64 u.os), (.int .i64 u.of), (.slice u.A u.al.length u.c)] true] rfl (by kernel_rfl) (by kernel_rfl) (by kernel_rfl) rfl (by kernel_rfl) (by kernel_rfl) (by kernel_rfl) (by kernel_rfl) (by kernel_rfl) ?_
          intro w_16 a H HP
          refine ⟨.inr ((HP.tail rfl)), ?_⟩
          refine An.pure H (.inr ((HP.tail rfl))) 18 14 (.int .i64 180) rfl (by kernel_rfl) (by kernel_rfl) (fun _ _ _ h => h) (fun _ => by kernel_rfl) ?_
          intro a H
          refine An.done (by kernel_rfl) ?_
          have H := H.keep (L' := [(14, (.int .i64 180)), (3, (.int .i64 ((k : Nat) : Int))), (48, (.int .i64 ((k : Nat) : Int))), (47, (.int .i64 ((N : Nat) : Int))), (46, (.int .i64 k0)), (2, (.int .i64 ((i : Nat) : Int))), (45, (.int .i64 ((i : Nat) : Int))), (44, (.int .i64 ((N : Nat) : Int))), (43, (.int .i64 i0)), (12, (.int .i64 ((N : Nat) : Int))), (42, (.int .i64 ((N : Nat) : Int))), (41, (.int .i64 ((lu.length : Nat) : Int))), (40, (.string (bstr lu))), (34, (.bool false)), (33, (.bool false)), (32, (.string (bstr lu))), (31, (.bool false)), (30, (.bool false)), (29, (.int .i64 0)), (10, (.string (bstr lu))), (11, (.int .i64 0)), (9, (.bool true)), (8, (.bool false)), (0, (.int .i64 c))]) (by kernel_rfl)
          refine then_normal ?_
          exact ⟨H.keep (by kernel_rfl), HP.tail rfl⟩
        · refine Op.alloc H HP 13 (fun b => (.pointer (some ⟨b, 0, none⟩))) 28 [(.int .i64 0), (.int .i64 0), (.int .i64 0), (.int .i64 0), (.int .i64 0), (.bool false), (.string (bstr ([]))), (.int .i64 0), (.int .i64 0), (.string (bstr ([]))), (.int .i64 0), (.int .i64 0), (.slice none 0 0)] rfl (by kernel_rfl) (fun w => by kernel_rfl) ?_
          intro b_17 w_18 a H HP
          refine ⟨.inr ((HP.tail rfl)), ?_⟩
          refine An.one 12 (by kernel_rfl) ?_
          refine Op.call H 62 rfl (by kernel_rfl) (Eq.trans (by kernel_rfl : _ = (callFunc 22 #[(.agg #[(.int .i64 ((rateP c).1)), (.int .i64 ((rateP c).2))]), (.string (bstr ((lu.take (64 * i)) ++ (lu.drop (64 * i + 64)))))]).run Tryd.prog w_18) (Tryd.call22 _ _)) ((by have hh := unpack_any (rateP c).1 (rateP c).2 (lu.take (64 * i) ++ lu.drop (64 * i + 64)) w_18 (hL.below (HP.below (by kernel_rfl))) (by simp only [List.length_append, List.length_take, List.length_drop]; omega); rw [missing_law (hZu none 0) hN (by omega) hiN] at hh; exact hh)) ?_
          rintro e w_19 ⟨rfl, hb⟩
          refine ⟨_, rfl, ?_⟩
          intro a H
          have HP := HP.next hb
          refine ⟨.inr ((HP.tail rfl)), ?_⟩
          refine An.pure H (.inr ((HP.tail rfl))) 13 49 (.tuple #[(.agg #[(.int .i64 0), (.int .i64 0), (.int .i64 0), (.int .i64 0), (.int .i64 0), (.bool false), (.string (bstr ([]))), (.int .i64 0), (.int .i64 0), (.string (bstr ([]))), (.int .i64 0), (.int .i64 0), (.slice none 0 0)]), (.int .i64 180)]) rfl (by kernel_rfl) (by kernel_rfl) (fun _ _ _ h => h) (fun _ => by kernel_rfl) ?_
          intro a H
          refine An.pure H (.inr ((HP.tail rfl))) 14 63 (.agg #[(.int .i64 0), (.int .i64 0), (.int .i64 0), (.int .i64 0), (.int .i64 0), (.bool false), (.string (bstr ([]))), (.int .i64 0), (.int .i64 0), (.string (bstr ([]))), (.int .i64 0), (.int .i64 0), (.slice none 0 0)]) rfl (by kernel_rfl) (by kernel_rfl) (fun _ _ _ h => h) (fun _ => by kernel_rfl) ?_
          intro a H
          refine An.pure H (.inr ((HP.tail rfl))) 15 64 (.int .i64 180) rfl (by kernel_rfl) (by kernel_rfl) (fun _ _ _ h => h) (fun _ => by kernel_rfl) ?_
          intro a H
          refine An.one 17 (by kernel_rfl) ?_
          refine Op.store H HP 0 b_17 0 13 28 [(.int .i64 0), (.int .i64 0), (.int .i64 0), (.int .i64 0), (.int .i64 0), (.bool false), (.string (bstr ([]))), (.int .i64 0), (.int .i64 0), (.string (bstr ([]))), (.int .i64 0), (.int .i64 0), (.slice none 0 0)] true (.agg #[(.int .i64 0), (.int .i64 0), (.int .i64 0), (.int .i64 0), (.int .i64 0), (.bool false), (.string (bstr ([]))), (.int .i64 0), (.int .i64 0), (.string (bstr ([]))), (.int .i64 0), (.int .i64 0), (.slice none 0 0)]) [bx b_17 28 [(.int .i64 0), (.int .i64 0), (.int .i64 0), (.int .i64 0), (.int .i64 0), (.bool false), (.string (bstr ([]))), (.int .i64 0), (.int .i64 0), (.string (bstr ([]))), (.int .i64 0), (.int .i64 0), (.slice none 0 0)] true, bx b_1 28 [(.int .i64 u.channel), (.int .i64 u.frame), (.int .i64 u.version), (.int .i64 u.item), (.int .i64 u.index), (.bool u.key), (.string (bstr u.data)), (.int .i64 u.regions), (.int .i64 u.gain), (.string (bstr u.caption)), (.int .i64 u.os), (.int .i64 u.of), (.slice u.A u.al.length u.c)] true] rfl (by kernel_rfl) (by kernel_rfl) (by kernel_rfl) rfl (by kernel_rfl) (by kernel_rfl) (by kernel_rfl) (by kernel_rfl) (by kernel_rfl) ?_
          intro w_20 a H HP
          refine ⟨.inr ((HP.tail rfl)), ?_⟩
          refine An.pure H (.inr ((HP.tail rfl))) 18 14 (.int .i64 180) rfl (by kernel_rfl) (by kernel_rfl) (fun _ _ _ h => h) (fun _ => by kernel_rfl) ?_
          intro a H
          refine An.done (by kernel_rfl) ?_
          have H := H.keep (L' := [(14, (.int .i64 180)), (3, (.int .i64 ((k : Nat) : Int))), (48, (.int .i64 ((k : Nat) : Int))), (47, (.int .i64 ((N : Nat) : Int))), (46, (.int .i64 k0)), (2, (.int .i64 ((i : Nat) : Int))), (45, (.int .i64 ((i : Nat) : Int))), (44, (.int .i64 ((N : Nat) : Int))), (43, (.int .i64 i0)), (12, (.int .i64 ((N : Nat) : Int))), (42, (.int .i64 ((N : Nat) : Int))), (41, (.int .i64 ((lu.length : Nat) : Int))), (40, (.string (bstr lu))), (34, (.bool false)), (33, (.bool false)), (32, (.string (bstr lu))), (31, (.bool false)), (30, (.bool false)), (29, (.int .i64 0)), (10, (.string (bstr lu))), (11, (.int .i64 0)), (9, (.bool true)), (8, (.bool false)), (0, (.int .i64 c))]) (by kernel_rfl)
          refine then_normal ?_
          exact ⟨H.keep (by kernel_rfl), HP.tail rfl⟩
      · refine Op.alloc H HP 13 (fun b => (.pointer (some ⟨b, 0, none⟩))) 28 [(.int .i64 0), (.int .i64 0), (.int .i64 0), (.int .i64 0), (.int .i64 0), (.bool false), (.string (bstr ([]))), (.int .i64 0), (.int .i64 0), (.string (bstr ([]))), (.int .i64 0), (.int .i64 0), (.slice none 0 0)] rfl (by kernel_rfl) (fun w => by kernel_rfl) ?_
        intro b_21 w_22 a H HP
        refine ⟨.inr ((HP.tail rfl)), ?_⟩
        refine An.one 1 (by kernel_rfl) ?_
        refine Op.call H 51 rfl (by kernel_rfl) (Eq.trans (by kernel_rfl : _ = (callFunc 14 #[(.int .i64 c)]).run Tryd.prog w_22) (Tryd.call14 _ _)) (rate_any c w_22 hc) ?_
        rintro e w_23 ⟨rfl, hb⟩
        refine ⟨_, rfl, ?_⟩
        intro a H
        have HP := HP.next hb
        refine ⟨.inr ((HP.tail rfl)), ?_⟩
        refine An.one 12 (by kernel_rfl) ?_
        refine Op.call H 62 rfl (by kernel_rfl) (Eq.trans (by kernel_rfl : _ = (callFunc 22 #[(.agg #[(.int .i64 ((rateP c).1)), (.int .i64 ((rateP c).2))]), (.string (bstr ((lu.take (64 * i)) ++ (lu.drop (64 * i + 64)))))]).run Tryd.prog w_23) (Tryd.call22 _ _)) ((by have hh := unpack_any (rateP c).1 (rateP c).2 (lu.take (64 * i) ++ lu.drop (64 * i + 64)) w_23 (hL.below (HP.below (by kernel_rfl))) (by simp only [List.length_append, List.length_take, List.length_drop]; omega); rw [missing_law (hZu none 0) hN (by omega) hiN] at hh; exact hh)) ?_
        rintro e w_24 ⟨rfl, hb⟩
        refine ⟨_, rfl, ?_⟩
        intro a H
        have HP := HP.next hb
        refine ⟨.inr ((HP.tail rfl)), ?_⟩
        refine An.pure H (.inr ((HP.tail rfl))) 13 49 (.tuple #[(.agg #[(.int .i64 0), (.int .i64 0), (.int .i64 0), (.int .i64 0), (.int .i64 0), (.bool false), (.string (bstr ([]))), (.int .i64 0), (.int .i64 0), (.string (bstr ([]))), (.int .i64 0), (.int .i64 0), (.slice none 0 0)]), (.int .i64 180)]) rfl (by kernel_rfl) (by kernel_rfl) (fun _ _ _ h => h) (fun _ => by kernel_rfl) ?_
        intro a H
        refine An.pure H (.inr ((HP.tail rfl))) 14 63 (.agg #[(.int .i64 0), (.int .i64 0), (.int .i64 0), (.int .i64 0), (.int .i64 0), (.bool false), (.string (bstr ([]))), (.int .i64 0), (.int .i64 0), (.string (bstr ([]))), (.int .i64 0), (.int .i64 0), (.slice none 0 0)]) rfl (by kernel_rfl) (by kernel_rfl) (fun _ _ _ h => h) (fun _ => by kernel_rfl) ?_
        intro a H
        refine An.pure H (.inr ((HP.tail rfl))) 15 64 (.int .i64 180) rfl (by kernel_rfl) (by kernel_rfl) (fun _ _ _ h => h) (fun _ => by kernel_rfl) ?_
        intro a H
        refine An.one 17 (by kernel_rfl) ?_
        refine Op.store H HP 0 b_21 0 13 28 [(.int .i64 0), (.int .i64 0), (.int .i64 0), (.int .i64 0), (.int .i64 0), (.bool false), (.string (bstr ([]))), (.int .i64 0), (.int .i64 0), (.string (bstr ([]))), (.int .i64 0), (.int .i64 0), (.slice none 0 0)] true (.agg #[(.int .i64 0), (.int .i64 0), (.int .i64 0), (.int .i64 0), (.int .i64 0), (.bool false), (.string (bstr ([]))), (.int .i64 0), (.int .i64 0), (.string (bstr ([]))), (.int .i64 0), (.int .i64 0), (.slice none 0 0)]) [bx b_21 28 [(.int .i64 0), (.int .i64 0), (.int .i64 0), (.int .i64 0), (.int .i64 0), (.bool false), (.string (bstr ([]))), (.int .i64 0), (.int .i64 0), (.string (bstr ([]))), (.int .i64 0), (.int .i64 0), (.slice none 0 0)] true, bx b_1 28 [(.int .i64 u.channel), (.int .i64 u.frame), (.int .i64 u.version), (.int .i64 u.item), (.int .i64 u.index), (.bool u.key), (.string (bstr u.data)), (.int .i64 u.regions), (.int .i64 u.gain), (.string (bstr u.caption)), (.int .i64 u.os), (.int .i64 u.of), (.slice u.A u.al.length u.c)] true] rfl (by kernel_rfl) (by kernel_rfl) (by kernel_rfl) rfl (by kernel_rfl) (by kernel_rfl) (by kernel_rfl) (by kernel_rfl) (by kernel_rfl) ?_
        intro w_25 a H HP
        refine ⟨.inr ((HP.tail rfl)), ?_⟩
        refine An.pure H (.inr ((HP.tail rfl))) 18 14 (.int .i64 180) rfl (by kernel_rfl) (by kernel_rfl) (fun _ _ _ h => h) (fun _ => by kernel_rfl) ?_
        intro a H
        refine An.done (by kernel_rfl) ?_
        have H := H.keep (L' := [(14, (.int .i64 180)), (3, (.int .i64 ((k : Nat) : Int))), (48, (.int .i64 ((k : Nat) : Int))), (47, (.int .i64 ((N : Nat) : Int))), (46, (.int .i64 k0)), (2, (.int .i64 ((i : Nat) : Int))), (45, (.int .i64 ((i : Nat) : Int))), (44, (.int .i64 ((N : Nat) : Int))), (43, (.int .i64 i0)), (12, (.int .i64 ((N : Nat) : Int))), (42, (.int .i64 ((N : Nat) : Int))), (41, (.int .i64 ((lu.length : Nat) : Int))), (40, (.string (bstr lu))), (34, (.bool false)), (33, (.bool false)), (32, (.string (bstr lu))), (31, (.bool false)), (30, (.bool false)), (29, (.int .i64 0)), (10, (.string (bstr lu))), (11, (.int .i64 0)), (9, (.bool true)), (8, (.bool false)), (0, (.int .i64 c))]) (by kernel_rfl)
        refine then_normal ?_
        exact ⟨H.keep (by kernel_rfl), HP.tail rfl⟩
    ·
      rintro a w_26 ⟨H, HP⟩
      refine w_cut (fun a wv => Sl 136 [(16, (.int .i64 180)), (14, (.int .i64 180)), (3, (.int .i64 ((k : Nat) : Int))), (2, (.int .i64 ((i : Nat) : Int))), (34, (.bool false)), (10, (.string (bstr lu))), (9, (.bool true)), (8, (.bool false)), (0, (.int .i64 c))] a ∧ Hp w wv [bx b_1 28 [(.int .i64 u.channel), (.int .i64 u.frame), (.int .i64 u.version), (.int .i64 u.item), (.int .i64 u.index), (.bool u.key), (.string (bstr u.data)), (.int .i64 u.regions), (.int .i64 u.gain), (.string (bstr u.caption)), (.int .i64 u.os), (.int .i64 u.of), (.slice u.A u.al.length u.c)] true] []) ?_ ?_
      ·
        refine An.start (fun v => Hp w v [bx b_1 28 [(.int .i64 u.channel), (.int .i64 u.frame), (.int .i64 u.version), (.int .i64 u.item), (.int .i64 u.index), (.bool u.key), (.string (bstr u.data)), (.int .i64 u.regions), (.int .i64 u.gain), (.string (bstr u.caption)), (.int .i64 u.os), (.int .i64 u.of), (.slice u.A u.al.length u.c)] true] []) 19 19 HP wide_follows rfl ?_
        intro w_27 HP
        refine An.pure H (.inr (HP)) 0 66 (.int .i64 c) rfl (by kernel_rfl) (by kernel_rfl) (fun _ _ _ h => h) (fun _ => by kernel_rfl) ?_
        intro a H
        refine An.pure H (.inr (HP)) 2 68 (.string (bstr lu)) rfl (by kernel_rfl) (by kernel_rfl) (fun _ _ _ h => h) (fun _ => by kernel_rfl) ?_
        intro a H
        refine An.pure H (.inr (HP)) 3 69 (.int .i64 ((i : Nat) : Int)) rfl (by kernel_rfl) (by kernel_rfl) (fun _ _ _ h => h) (fun _ => by kernel_rfl) ?_
        intro a H
        refine An.pureE H (.inr (HP)) 4 70 (.int .i64 (IntKind.i64.wrap (64 * ((i : Nat) : Int)))) (.int .i64 ((64 * i : Nat) : Int)) rfl (by kernel_rfl) (by kernel_rfl) (fun _ _ _ h => h) (fun _ => by kernel_rfl) ((by rw [wrap_ini64 _ (by omega)]; exact congrArg (Value.int .i64) (by omega))) ?_
        intro a H
        refine An.pureE H (.inr (HP)) 5 71 (.int .i64 (IntKind.i64.wrap (((64 * i : Nat) : Int) + 64))) (.int .i64 ((64 * i + 64 : Nat) : Int)) rfl (by kernel_rfl) (by kernel_rfl) (fun _ _ _ h => h) (fun _ => by kernel_rfl) ((by rw [wrap_ini64 _ (by omega)]; exact congrArg (Value.int .i64) (by omega))) ?_
        intro a H
        refine An.pure H (.inr (HP)) 6 72 (.string (bstr (lu.take (64 * i + 64)))) rfl (by kernel_rfl) (by kernel_rfl) (fun _ _ _ h => h) (fun _ => ex_ssliceH (kk := .i64) (l := lu) (j := ((64 * i + 64 : Nat) : Int)) (b := (64 * i + 64)) (by kernel_rfl) (by kernel_rfl) (by kernel_rfl) (by omega) (by omega)) ?_
        intro a H
        refine An.pure H (.inr (HP)) 7 73 (.string (bstr lu)) rfl (by kernel_rfl) (by kernel_rfl) (fun _ _ _ h => h) (fun _ => by kernel_rfl) ?_
        intro a H
        refine An.pure H (.inr (HP)) 8 74 (.int .i64 ((i : Nat) : Int)) rfl (by kernel_rfl) (by kernel_rfl) (fun _ _ _ h => h) (fun _ => by kernel_rfl) ?_
        intro a H
        refine An.pureE H (.inr (HP)) 9 75 (.int .i64 (IntKind.i64.wrap (64 * ((i : Nat) : Int)))) (.int .i64 ((64 * i : Nat) : Int)) rfl (by kernel_rfl) (by kernel_rfl) (fun _ _ _ h => h) (fun _ => by kernel_rfl) ((by rw [wrap_ini64 _ (by omega)]; exact congrArg (Value.int .i64) (by omega))) ?_
        intro a H
        refine An.pure H (.inr (HP)) 10 76 (.string (bstr (lu.drop (64 * i)))) rfl (by kernel_rfl) (by kernel_rfl) (fun _ _ _ h => h) (fun _ => ex_ssliceL (k := .i64) (l := lu) (i := ((64 * i : Nat) : Int)) (a := (64 * i)) (by kernel_rfl) (by kernel_rfl) (by kernel_rfl) (by omega) (by omega)) ?_
        intro a H
        refine An.pure H (.inr (HP)) 11 77 (.string (bstr ((lu.take (64 * i + 64)) ++ (lu.drop (64 * i))))) rfl (by kernel_rfl) (by kernel_rfl) (fun _ _ _ h => h) (fun _ => ex_sadd (by kernel_rfl) (by kernel_rfl) (by first | omega | (simp only [List.length_take, List.length_drop]; omega))) ?_
        intro a H
        refine An.two 1 16 (by kernel_rfl) ?_ ?_
        · refine Op.call H 67 rfl (by kernel_rfl) (Eq.trans (by kernel_rfl : _ = (callFunc 14 #[(.int .i64 c)]).run Tryd.prog w_27) (Tryd.call14 _ _)) (rate_any c w_27 hc) ?_
          rintro e w_28 ⟨rfl, hb⟩
          refine ⟨_, rfl, ?_⟩
          intro a H
          have HP := HP.next hb
          refine ⟨.inr (HP), ?_⟩
          refine An.two 12 16 (by kernel_rfl) ?_ ?_
          · refine Op.call H 78 rfl (by kernel_rfl) (Eq.trans (by kernel_rfl : _ = (callFunc 22 #[(.agg #[(.int .i64 ((rateP c).1)), (.int .i64 ((rateP c).2))]), (.string (bstr ((lu.take (64 * i + 64)) ++ (lu.drop (64 * i)))))]).run Tryd.prog w_28) (Tryd.call22 _ _)) ((by have hh := unpack_any (rateP c).1 (rateP c).2 (lu.take (64 * i + 64) ++ lu.drop (64 * i)) w_28 (hL.below (HP.below (by kernel_rfl))) (by simp only [List.length_append, List.length_take, List.length_drop]; omega); rw [repeated_law (hZu none 0) hN (by omega) hiN] at hh; exact hh)) ?_
            rintro e w_29 ⟨rfl, hb⟩
            refine ⟨_, rfl, ?_⟩
            intro a H
            have HP := HP.next hb
            refine ⟨.inr (HP), ?_⟩
            refine An.pure H (.inr (HP)) 13 65 (.tuple #[(.agg #[(.int .i64 0), (.int .i64 0), (.int .i64 0), (.int .i64 0), (.int .i64 0), (.bool false), (.string (bstr ([]))), (.int .i64 0), (.int .i64 0), (.string (bstr ([]))), (.int .i64 0), (.int .i64 0), (.slice none 0 0)]), (.int .i64 180)]) rfl (by kernel_rfl) (by kernel_rfl) (fun _ _ _ h => h) (fun _ => by kernel_rfl) ?_
            intro a H
            refine An.pure H (.inr (HP)) 14 79 (.agg #[(.int .i64 0), (.int .i64 0), (.int .i64 0), (.int .i64 0), (.int .i64 0), (.bool false), (.string (bstr ([]))), (.int .i64 0), (.int .i64 0), (.string (bstr ([]))), (.int .i64 0), (.int .i64 0), (.slice none 0 0)]) rfl (by kernel_rfl) (by kernel_rfl) (fun _ _ _ h => h) (fun _ => by kernel_rfl) ?_
            intro a H
            refine An.pure H (.inr (HP)) 15 80 (.int .i64 180) rfl (by kernel_rfl) (by kernel_rfl) (fun _ _ _ h => h) (fun _ => by kernel_rfl) ?_
            intro a H
            refine An.one 16 (by kernel_rfl) ?_
            refine Op.alloc H HP 15 (fun b => (.pointer (some ⟨b, 0, none⟩))) 28 [(.int .i64 0), (.int .i64 0), (.int .i64 0), (.int .i64 0), (.int .i64 0), (.bool false), (.string (bstr ([]))), (.int .i64 0), (.int .i64 0), (.string (bstr ([]))), (.int .i64 0), (.int .i64 0), (.slice none 0 0)] rfl (by kernel_rfl) (fun w => by kernel_rfl) ?_
            intro b_30 w_31 a H HP
            refine ⟨.inr ((HP.tail rfl)), ?_⟩
            refine An.one 17 (by kernel_rfl) ?_
            refine Op.store H HP 0 b_30 0 13 28 [(.int .i64 0), (.int .i64 0), (.int .i64 0), (.int .i64 0), (.int .i64 0), (.bool false), (.string (bstr ([]))), (.int .i64 0), (.int .i64 0), (.string (bstr ([]))), (.int .i64 0), (.int .i64 0), (.slice none 0 0)] true (.agg #[(.int .i64 0), (.int .i64 0), (.int .i64 0), (.int .i64 0), (.int .i64 0), (.bool false), (.string (bstr ([]))), (.int .i64 0), (.int .i64 0), (.string (bstr ([]))), (.int .i64 0), (.int .i64 0), (.slice none 0 0)]) [bx b_30 28 [(.int .i64 0), (.int .i64 0), (.int .i64 0), (.int .i64 0), (.int .i64 0), (.bool false), (.string (bstr ([]))), (.int .i64 0), (.int .i64 0), (.string (bstr ([]))), (.int .i64 0), (.int .i64 0), (.slice none 0 0)] true, bx b_1 28 [(.int .i64 u.channel), (.int .i64 u.frame), (.int .i64 u.version), (.int .i64 u.item), (.int .i64 u.index), (.bool u.key), (.string (bstr u.data)), (.int .i64 u.regions), (.int .i64 u.gain), (.string (bstr u.caption)), (.int .i64 u.os), (.int .i64 u.of), (.slice u.A u.al.length u.c)] true] rfl (by kernel_rfl) (by kernel_rfl) (by kernel_rfl) rfl (by kernel_rfl) (by kernel_rfl) (by kernel_rfl) (by kernel_rfl) (by kernel_rfl) ?_
            intro w_32 a H HP
            refine ⟨.inr ((HP.tail rfl)), ?_⟩
            refine An.pure H (.inr ((HP.tail rfl))) 18 16 (.int .i64 180) rfl (by kernel_rfl) (by kernel_rfl) (fun _ _ _ h => h) (fun _ => by kernel_rfl) ?_
            intro a H
            refine An.done (by kernel_rfl) ?_
            have H := H.keep (L' := [(16, (.int .i64 180)), (14, (.int .i64 180)), (3, (.int .i64 ((k : Nat) : Int))), (2, (.int .i64 ((i : Nat) : Int))), (34, (.bool false)), (10, (.string (bstr lu))), (9, (.bool true)), (8, (.bool false)), (0, (.int .i64 c))]) (by kernel_rfl)
            refine then_normal ?_
            exact ⟨H.keep (by kernel_rfl), HP.tail rfl⟩
          · refine Op.alloc H HP 15 (fun b => (.pointer (some ⟨b, 0, none⟩))) 28 [(.int .i64 0), (.int .i64 0), (.int .i64 0), (.int .i64 0), (.int .i64 0), (.bool false), (.string (bstr ([]))), (.int .i64 0), (.int .i64 0), (.string (bstr ([]))), (.int .i64 0), (.int .i64 0), (.slice none 0 0)] rfl (by kernel_rfl) (fun w => by kernel_rfl) ?_
            intro b_33 w_34 a H HP
            refine ⟨.inr ((HP.tail rfl)), ?_⟩
            refine An.one 12 (by kernel_rfl) ?_
            refine Op.call H 78 rfl (by kernel_rfl) (Eq.trans (by kernel_rfl : _ = (callFunc 22 #[(.agg #[(.int .i64 ((rateP c).1)), (.int .i64 ((rateP c).2))]), (.string (bstr ((lu.take (64 * i + 64)) ++ (lu.drop (64 * i)))))]).run Tryd.prog w_34) (Tryd.call22 _ _)) ((by have hh := unpack_any (rateP c).1 (rateP c).2 (lu.take (64 * i + 64) ++ lu.drop (64 * i)) w_34 (hL.below (HP.below (by kernel_rfl))) (by simp only [List.length_append, List.length_take, List.length_drop]; omega); rw [repeated_law (hZu none 0) hN (by omega) hiN] at hh; exact hh)) ?_
            rintro e w_35 ⟨rfl, hb⟩
            refine ⟨_, rfl, ?_⟩
            intro a H
            have HP := HP.next hb
            refine ⟨.inr ((HP.tail rfl)), ?_⟩
            refine An.pure H (.inr ((HP.tail rfl))) 13 65 (.tuple #[(.agg #[(.int .i64 0), (.int .i64 0), (.int .i64 0), (.int .i64 0), (.int .i64 0), (.bool false), (.string (bstr ([]))), (.int .i64 0), (.int .i64 0), (.string (bstr ([]))), (.int .i64 0), (.int .i64 0), (.slice none 0 0)]), (.int .i64 180)]) rfl (by kernel_rfl) (by kernel_rfl) (fun _ _ _ h => h) (fun _ => by kernel_rfl) ?_
            intro a H
            refine An.pure H (.inr ((HP.tail rfl))) 14 79 (.agg #[(.int .i64 0), (.int .i64 0), (.int .i64 0), (.int .i64 0), (.int .i64 0), (.bool false), (.string (bstr ([]))), (.int .i64 0), (.int .i64 0), (.string (bstr ([]))), (.int .i64 0), (.int .i64 0), (.slice none 0 0)]) rfl (by kernel_rfl) (by kernel_rfl) (fun _ _ _ h => h) (fun _ => by kernel_rfl) ?_
            intro a H
            refine An.pure H (.inr ((HP.tail rfl))) 15 80 (.int .i64 180) rfl (by kernel_rfl) (by kernel_rfl) (fun _ _ _ h => h) (fun _ => by kernel_rfl) ?_
            intro a H
            refine An.one 17 (by kernel_rfl) ?_
            refine Op.store H HP 0 b_33 0 13 28 [(.int .i64 0), (.int .i64 0), (.int .i64 0), (.int .i64 0), (.int .i64 0), (.bool false), (.string (bstr ([]))), (.int .i64 0), (.int .i64 0), (.string (bstr ([]))), (.int .i64 0), (.int .i64 0), (.slice none 0 0)] true (.agg #[(.int .i64 0), (.int .i64 0), (.int .i64 0), (.int .i64 0), (.int .i64 0), (.bool false), (.string (bstr ([]))), (.int .i64 0), (.int .i64 0), (.string (bstr ([]))), (.int .i64 0), (.int .i64 0), (.slice none 0 0)]) [bx b_33 28 [(.int .i64 0), (.int .i64 0), (.int .i64 0), (.int .i64 0), (.int .i64 0), (.bool false), (.string (bstr ([]))), (.int .i64 0), (.int .i64 0), (.string (bstr ([]))), (.int .i64 0), (.int .i64 0), (.slice none 0 0)] true, bx b_1 28 [(.int .i64 u.channel), (.int .i64 u.frame), (.int .i64 u.version), (.int .i64 u.item), (.int .i64 u.index), (.bool u.key), (.string (bstr u.data)), (.int .i64 u.regions), (.int .i64 u.gain), (.string (bstr u.caption)), (.int .i64 u.os), (.int .i64 u.of), (.slice u.A u.al.length u.c)] true] rfl (by kernel_rfl) (by kernel_rfl) (by kernel_rfl) rfl (by kernel_rfl) (by kernel_rfl) (by kernel_rfl) (by kernel_rfl) (by kernel_rfl) ?_
            intro w_36 a H HP
            refine ⟨.inr ((HP.tail rfl)), ?_⟩
            refine An.pure H (.inr ((HP.tail rfl))) 18 16 (.int .i64 180) rfl (by kernel_rfl) (by kernel_rfl) (fun _ _ _ h => h) (fun _ => by kernel_rfl) ?_
            intro a H
            refine An.done (by kernel_rfl) ?_
            have H := H.keep (L' := [(16, (.int .i64 180)), (14, (.int .i64 180)), (3, (.int .i64 ((k : Nat) : Int))), (2, (.int .i64 ((i : Nat) : Int))), (34, (.bool false)), (10, (.string (bstr lu))), (9, (.bool true)), (8, (.bool false)), (0, (.int .i64 c))]) (by kernel_rfl)
            refine then_normal ?_
            exact ⟨H.keep (by kernel_rfl), HP.tail rfl⟩
        · refine Op.alloc H HP 15 (fun b => (.pointer (some ⟨b, 0, none⟩))) 28 [(.int .i64 0), (.int .i64 0), (.int .i64 0), (.int .i64 0), (.int .i64 0), (.bool false), (.string (bstr ([]))), (.int .i64 0), (.int .i64 0), (.string (bstr ([]))), (.int .i64 0), (.int .i64 0), (.slice none 0 0)] rfl (by kernel_rfl) (fun w => by kernel_rfl) ?_
          intro b_37 w_38 a H HP
          refine ⟨.inr ((HP.tail rfl)), ?_⟩
          refine An.one 1 (by kernel_rfl) ?_
          refine Op.call H 67 rfl (by kernel_rfl) (Eq.trans (by kernel_rfl : _ = (callFunc 14 #[(.int .i64 c)]).run Tryd.prog w_38) (Tryd.call14 _ _)) (rate_any c w_38 hc) ?_
          rintro e w_39 ⟨rfl, hb⟩
          refine ⟨_, rfl, ?_⟩
          intro a H
          have HP := HP.next hb
          refine ⟨.inr ((HP.tail rfl)), ?_⟩
          refine An.one 12 (by kernel_rfl) ?_
          refine Op.call H 78 rfl (by kernel_rfl) (Eq.trans (by kernel_rfl : _ = (callFunc 22 #[(.agg #[(.int .i64 ((rateP c).1)), (.int .i64 ((rateP c).2))]), (.string (bstr ((lu.take (64 * i + 64)) ++ (lu.drop (64 * i)))))]).run Tryd.prog w_39) (Tryd.call22 _ _)) ((by have hh := unpack_any (rateP c).1 (rateP c).2 (lu.take (64 * i + 64) ++ lu.drop (64 * i)) w_39 (hL.below (HP.below (by kernel_rfl))) (by simp only [List.length_append, List.length_take, List.length_drop]; omega); rw [repeated_law (hZu none 0) hN (by omega) hiN] at hh; exact hh)) ?_
          rintro e w_40 ⟨rfl, hb⟩
          refine ⟨_, rfl, ?_⟩
          intro a H
          have HP := HP.next hb
          refine ⟨.inr ((HP.tail rfl)), ?_⟩
          refine An.pure H (.inr ((HP.tail rfl))) 13 65 (.tuple #[(.agg #[(.int .i64 0), (.int .i64 0), (.int .i64 0), (.int .i64 0), (.int .i64 0), (.bool false), (.string (bstr ([]))), (.int .i64 0), (.int .i64 0), (.string (bstr ([]))), (.int .i64 0), (.int .i64 0), (.slice none 0 0)]), (.int .i64 180)]) rfl (by kernel_rfl) (by kernel_rfl) (fun _ _ _ h => h) (fun _ => by kernel_rfl) ?_
          intro a H
          refine An.pure H (.inr ((HP.tail rfl))) 14 79 (.agg #[(.int .i64 0), (.int .i64 0), (.int .i64 0), (.int .i64 0), (.int .i64 0), (.bool false), (.string (bstr ([]))), (.int .i64 0), (.int .i64 0), (.string (bstr ([]))), (.int .i64 0), (.int .i64 0), (.slice none 0 0)]) rfl (by kernel_rfl) (by kernel_rfl) (fun _ _ _ h => h) (fun _ => by kernel_rfl) ?_
          intro a H
          refine An.pure H (.inr ((HP.tail rfl))) 15 80 (.int .i64 180) rfl (by kernel_rfl) (by kernel_rfl) (fun _ _ _ h => h) (fun _ => by kernel_rfl) ?_
          intro a H
          refine An.one 17 (by kernel_rfl) ?_
          refine Op.store H HP 0 b_37 0 13 28 [(.int .i64 0), (.int .i64 0), (.int .i64 0), (.int .i64 0), (.int .i64 0), (.bool false), (.string (bstr ([]))), (.int .i64 0), (.int .i64 0), (.string (bstr ([]))), (.int .i64 0), (.int .i64 0), (.slice none 0 0)] true (.agg #[(.int .i64 0), (.int .i64 0), (.int .i64 0), (.int .i64 0), (.int .i64 0), (.bool false), (.string (bstr ([]))), (.int .i64 0), (.int .i64 0), (.string (bstr ([]))), (.int .i64 0), (.int .i64 0), (.slice none 0 0)]) [bx b_37 28 [(.int .i64 0), (.int .i64 0), (.int .i64 0), (.int .i64 0), (.int .i64 0), (.bool false), (.string (bstr ([]))), (.int .i64 0), (.int .i64 0), (.string (bstr ([]))), (.int .i64 0), (.int .i64 0), (.slice none 0 0)] true, bx b_1 28 [(.int .i64 u.channel), (.int .i64 u.frame), (.int .i64 u.version), (.int .i64 u.item), (.int .i64 u.index), (.bool u.key), (.string (bstr u.data)), (.int .i64 u.regions), (.int .i64 u.gain), (.string (bstr u.caption)), (.int .i64 u.os), (.int .i64 u.of), (.slice u.A u.al.length u.c)] true] rfl (by kernel_rfl) (by kernel_rfl) (by kernel_rfl) rfl (by kernel_rfl) (by kernel_rfl) (by kernel_rfl) (by kernel_rfl) (by kernel_rfl) ?_
          intro w_41 a H HP
          refine ⟨.inr ((HP.tail rfl)), ?_⟩
          refine An.pure H (.inr ((HP.tail rfl))) 18 16 (.int .i64 180) rfl (by kernel_rfl) (by kernel_rfl) (fun _ _ _ h => h) (fun _ => by kernel_rfl) ?_
          intro a H
          refine An.done (by kernel_rfl) ?_
          have H := H.keep (L' := [(16, (.int .i64 180)), (14, (.int .i64 180)), (3, (.int .i64 ((k : Nat) : Int))), (2, (.int .i64 ((i : Nat) : Int))), (34, (.bool false)), (10, (.string (bstr lu))), (9, (.bool true)), (8, (.bool false)), (0, (.int .i64 c))]) (by kernel_rfl)
          refine then_normal ?_
          exact ⟨H.keep (by kernel_rfl), HP.tail rfl⟩
      ·
        rintro a w_42 ⟨H, HP⟩
        refine wp_seq ?_
        refine wp_seq ?_
        refine w_region ?_
        refine H.val 81 (.int .i64 180) (by kernel_rfl) (by kernel_rfl) ?_
        intro a H
        refine H.val 82 (.bool false) (by kernel_rfl) (by kernel_rfl) ?_
        intro a H
        refine H.val 83 (.bool false) (by kernel_rfl) (by kernel_rfl) ?_
        intro a H
        refine H.val 84 (.int .i64 180) (by kernel_rfl) (by kernel_rfl) ?_
        intro a H
        refine H.val 85 (.bool false) (by kernel_rfl) (by kernel_rfl) ?_
        intro a H
        refine H.val 86 (.bool false) (by kernel_rfl) (by kernel_rfl) ?_
        intro a H
        refine wpList_nil ?_
        refine then_normal ?_
        refine w_iff H rfl ?_
        refine wp_skip ?_
        refine then_normal ?_
        refine wp_seq ?_
        refine w_region ?_
        refine H.val 87 (.string (bstr lu)) (by kernel_rfl) (by kernel_rfl) ?_
        intro a H
        refine H.s2b HP 88 lu (e := 5) (by kernel_rfl) (by kernel_rfl) (by kernel_rfl) (by kernel_rfl) (by kernel_rfl) ?_
        intro bb_43 cap_44 w_45 a hcap H HP
        refine H.val 17 (.slice (some ⟨bb_43, 0, none⟩) lu.length cap_44) (by kernel_rfl) (by kernel_rfl) ?_
        intro a H
        refine wpList_nil ?_
        refine then_normal ?_
        refine w_cut (fun a wv => Sl 136 [(17, (.slice (some ⟨bb_43, 0, none⟩) lu.length cap_44)), (86, (.bool false)), (3, (.int .i64 ((k : Nat) : Int))), (2, (.int .i64 ((i : Nat) : Int))), (34, (.bool false)), (10, (.string (bstr lu))), (9, (.bool true)), (8, (.bool false)), (0, (.int .i64 c))] a ∧ Hp w wv [(bytesB bb_43 5 (putPk lu lu i k) cap_44), bx b_1 28 [(.int .i64 u.channel), (.int .i64 u.frame), (.int .i64 u.version), (.int .i64 u.item), (.int .i64 u.index), (.bool u.key), (.string (bstr u.data)), (.int .i64 u.regions), (.int .i64 u.gain), (.string (bstr u.caption)), (.int .i64 u.os), (.int .i64 u.of), (.slice u.A u.al.length u.c)] true] []) ?_ ?_
        ·
          refine An.start (fun v => Hp w v [(bytesB bb_43 5 lu cap_44), bx b_1 28 [(.int .i64 u.channel), (.int .i64 u.frame), (.int .i64 u.version), (.int .i64 u.item), (.int .i64 u.index), (.bool u.key), (.string (bstr u.data)), (.int .i64 u.regions), (.int .i64 u.gain), (.string (bstr u.caption)), (.int .i64 u.os), (.int .i64 u.of), (.slice u.A u.al.length u.c)] true] []) 14 15 HP wide_follows rfl ?_
          intro w_46 HP
          refine An.pure H (.inr (HP)) 0 89 (.slice (some ⟨bb_43, 0, none⟩) lu.length cap_44) rfl (by kernel_rfl) (by kernel_rfl) (fun _ _ _ h => h) (fun _ => by kernel_rfl) ?_
          intro a H
          refine An.pure H (.inr (HP)) 1 90 (.int .i64 ((i : Nat) : Int)) rfl (by kernel_rfl) (by kernel_rfl) (fun _ _ _ h => h) (fun _ => by kernel_rfl) ?_
          intro a H
          refine An.pureE H (.inr (HP)) 2 91 (.int .i64 (IntKind.i64.wrap (64 * ((i : Nat) : Int)))) (.int .i64 ((64 * i : Nat) : Int)) rfl (by kernel_rfl) (by kernel_rfl) (fun _ _ _ h => h) (fun _ => by kernel_rfl) ((by rw [wrap_ini64 _ (by omega)]; exact congrArg (Value.int .i64) (by omega))) ?_
          intro a H
          refine An.pure H (.inr (HP)) 3 92 (.int .i64 ((i : Nat) : Int)) rfl (by kernel_rfl) (by kernel_rfl) (fun _ _ _ h => h) (fun _ => by kernel_rfl) ?_
          intro a H
          refine An.pureE H (.inr (HP)) 4 93 (.int .i64 (IntKind.i64.wrap (64 * ((i : Nat) : Int)))) (.int .i64 ((64 * i : Nat) : Int)) rfl (by kernel_rfl) (by kernel_rfl) (fun _ _ _ h => h) (fun _ => by kernel_rfl) ((by rw [wrap_ini64 _ (by omega)]; exact congrArg (Value.int .i64) (by omega))) ?_
          intro a H
          refine An.pureE H (.inr (HP)) 5 94 (.int .i64 (IntKind.i64.wrap (((64 * i : Nat) : Int) + 64))) (.int .i64 ((64 * i + 64 : Nat) : Int)) rfl (by kernel_rfl) (by kernel_rfl) (fun _ _ _ h => h) (fun _ => by kernel_rfl) ((by rw [wrap_ini64 _ (by omega)]; exact congrArg (Value.int .i64) (by omega))) ?_
          intro a H
          refine An.pure H (.inr (HP)) 6 95 (.slice (some ⟨bb_43, 0 + 64 * i, none⟩) (64 * i + 64 - 64 * i) (cap_44 - 64 * i)) rfl (by kernel_rfl) (by kernel_rfl) (fun _ _ _ h => h) (fun _ => ex_sliceLH (b := bb_43) (off := 0) (len := lu.length) (cap := cap_44) (i := 64 * i) (j := 64 * i + 64) (lo := ((64 * i : Nat) : Int)) (hi := ((64 * i + 64 : Nat) : Int)) (by kernel_rfl) (by kernel_rfl) (by kernel_rfl) (by kernel_rfl) (by kernel_rfl) rfl rfl (by omega) (by omega) (by omega)) ?_
          intro a H
          refine An.pure H (.inr (HP)) 7 96 (.string (bstr lu)) rfl (by kernel_rfl) (by kernel_rfl) (fun _ _ _ h => h) (fun _ => by kernel_rfl) ?_
          intro a H
          refine An.pure H (.inr (HP)) 8 97 (.int .i64 ((k : Nat) : Int)) rfl (by kernel_rfl) (by kernel_rfl) (fun _ _ _ h => h) (fun _ => by kernel_rfl) ?_
          intro a H
          refine An.pureE H (.inr (HP)) 9 98 (.int .i64 (IntKind.i64.wrap (64 * ((k : Nat) : Int)))) (.int .i64 ((64 * k : Nat) : Int)) rfl (by kernel_rfl) (by kernel_rfl) (fun _ _ _ h => h) (fun _ => by kernel_rfl) ((by rw [wrap_ini64 _ (by omega)]; exact congrArg (Value.int .i64) (by omega))) ?_
          intro a H
          refine An.pure H (.inr (HP)) 10 99 (.int .i64 ((k : Nat) : Int)) rfl (by kernel_rfl) (by kernel_rfl) (fun _ _ _ h => h) (fun _ => by kernel_rfl) ?_
          intro a H
          refine An.pureE H (.inr (HP)) 11 100 (.int .i64 (IntKind.i64.wrap (64 * ((k : Nat) : Int)))) (.int .i64 ((64 * k : Nat) : Int)) rfl (by kernel_rfl) (by kernel_rfl) (fun _ _ _ h => h) (fun _ => by kernel_rfl) ((by rw [wrap_ini64 _ (by omega)]; exact congrArg (Value.int .i64) (by omega))) ?_
          intro a H
          refine An.pureE H (.inr (HP)) 12 101 (.int .i64 (IntKind.i64.wrap (((64 * k : Nat) : Int) + 64))) (.int .i64 ((64 * k + 64 : Nat) : Int)) rfl (by kernel_rfl) (by kernel_rfl) (fun _ _ _ h => h) (fun _ => by kernel_rfl) ((by rw [wrap_ini64 _ (by omega)]; exact congrArg (Value.int .i64) (by omega))) ?_
          intro a H
          refine An.pure H (.inr (HP)) 13 102 (.string (bstr ((lu.drop (64 * k)).take ((64 * k + 64) - (64 * k))))) rfl (by kernel_rfl) (by kernel_rfl) (fun _ _ _ h => h) (fun _ => ex_sslice (k := .i64) (kk := .i64) (l := lu) (i := ((64 * k : Nat) : Int)) (j := ((64 * k + 64 : Nat) : Int)) (a := (64 * k)) (b := (64 * k + 64)) (by kernel_rfl) (by kernel_rfl) (by kernel_rfl) (by kernel_rfl) (by omega) (by omega) (by omega) (by omega)) ?_
          intro a H
          refine An.one 14 (by kernel_rfl) ?_
          refine Op.copyB (e := 5) H HP 0 103 bb_43 (0 + 64 * i) (64 * i + 64 - 64 * i) (cap_44 - 64 * i) cap_44 lu ((lu.drop (64 * k)).take (64 * k + 64 - 64 * k)) rfl (by kernel_rfl) (by kernel_rfl) (by kernel_rfl) (by kernel_rfl) (by kernel_rfl) (by simp only [List.length_take, List.length_drop]; omega) (by simp only [List.length_take, List.length_drop, hN]; omega) (dT := 46) (sT := 9) (ty' := 3) ?_
          intro w_47 a H HP
          have HP : Hp w w_47 [bytesB bb_43 5 (over lu (0 + 64 * i) ((lu.drop (64 * k)).take (64 * k + 64 - 64 * k))) cap_44, bx b_1 28 [(.int .i64 u.channel), (.int .i64 u.frame), (.int .i64 u.version), (.int .i64 u.item), (.int .i64 u.index), (.bool u.key), (.string (bstr u.data)), (.int .i64 u.regions), (.int .i64 u.gain), (.string (bstr u.caption)), (.int .i64 u.os), (.int .i64 u.of), (.slice u.A u.al.length u.c)] true] [] := HP
          rw [over_put hN hN hiN hkN] at HP
          refine ⟨.inl (by kernel_rfl), ?_⟩
          refine An.done (by kernel_rfl) ?_
          have H := H.keep (L' := [(17, (.slice (some ⟨bb_43, 0, none⟩) lu.length cap_44)), (88, (.slice (some ⟨bb_43, 0, none⟩) lu.length cap_44)), (87, (.string (bstr lu))), (86, (.bool false)), (85, (.bool false)), (84, (.int .i64 180)), (83, (.bool false)), (82, (.bool false)), (81, (.int .i64 180)), (16, (.int .i64 180)), (14, (.int .i64 180)), (3, (.int .i64 ((k : Nat) : Int))), (2, (.int .i64 ((i : Nat) : Int))), (34, (.bool false)), (10, (.string (bstr lu))), (9, (.bool true)), (8, (.bool false)), (0, (.int .i64 c))]) (by kernel_rfl)
          refine then_normal ?_
          exact ⟨H.keep (by kernel_rfl), HP⟩
        ·
          rintro a w_48 ⟨H, HP⟩
          refine w_cut (fun a wv => Sl 136 [(17, (.slice (some ⟨bb_43, 0, none⟩) lu.length cap_44)), (86, (.bool false)), (3, (.int .i64 ((k : Nat) : Int))), (2, (.int .i64 ((i : Nat) : Int))), (34, (.bool false)), (9, (.bool true)), (8, (.bool false)), (0, (.int .i64 c))] a ∧ Hp w wv [(bytesB bb_43 5 (putPk (putPk lu lu i k) lu k i) cap_44), bx b_1 28 [(.int .i64 u.channel), (.int .i64 u.frame), (.int .i64 u.version), (.int .i64 u.item), (.int .i64 u.index), (.bool u.key), (.string (bstr u.data)), (.int .i64 u.regions), (.int .i64 u.gain), (.string (bstr u.caption)), (.int .i64 u.os), (.int .i64 u.of), (.slice u.A u.al.length u.c)] true] []) ?_ ?_
          ·
            refine An.start (fun v => Hp w v [(bytesB bb_43 5 (putPk lu lu i k) cap_44), bx b_1 28 [(.int .i64 u.channel), (.int .i64 u.frame), (.int .i64 u.version), (.int .i64 u.item), (.int .i64 u.index), (.bool u.key), (.string (bstr u.data)), (.int .i64 u.regions), (.int .i64 u.gain), (.string (bstr u.caption)), (.int .i64 u.os), (.int .i64 u.of), (.slice u.A u.al.length u.c)] true] []) 14 15 HP wide_follows rfl ?_
            intro w_49 HP
            refine An.pure H (.inr (HP)) 0 104 (.slice (some ⟨bb_43, 0, none⟩) lu.length cap_44) rfl (by kernel_rfl) (by kernel_rfl) (fun _ _ _ h => h) (fun _ => by kernel_rfl) ?_
            intro a H
            refine An.pure H (.inr (HP)) 1 105 (.int .i64 ((k : Nat) : Int)) rfl (by kernel_rfl) (by kernel_rfl) (fun _ _ _ h => h) (fun _ => by kernel_rfl) ?_
            intro a H
            refine An.pureE H (.inr (HP)) 2 106 (.int .i64 (IntKind.i64.wrap (64 * ((k : Nat) : Int)))) (.int .i64 ((64 * k : Nat) : Int)) rfl (by kernel_rfl) (by kernel_rfl) (fun _ _ _ h => h) (fun _ => by kernel_rfl) ((by rw [wrap_ini64 _ (by omega)]; exact congrArg (Value.int .i64) (by omega))) ?_
            intro a H
            refine An.pure H (.inr (HP)) 3 107 (.int .i64 ((k : Nat) : Int)) rfl (by kernel_rfl) (by kernel_rfl) (fun _ _ _ h => h) (fun _ => by kernel_rfl) ?_
            intro a H
            refine An.pureE H (.inr (HP)) 4 108 (.int .i64 (IntKind.i64.wrap (64 * ((k : Nat) : Int)))) (.int .i64 ((64 * k : Nat) : Int)) rfl (by kernel_rfl) (by kernel_rfl) (fun _ _ _ h => h) (fun _ => by kernel_rfl) ((by rw [wrap_ini64 _ (by omega)]; exact congrArg (Value.int .i64) (by omega))) ?_
            intro a H
            refine An.pureE H (.inr (HP)) 5 109 (.int .i64 (IntKind.i64.wrap (((64 * k : Nat) : Int) + 64))) (.int .i64 ((64 * k + 64 : Nat) : Int)) rfl (by kernel_rfl) (by kernel_rfl) (fun _ _ _ h => h) (fun _ => by kernel_rfl) ((by rw [wrap_ini64 _ (by omega)]; exact congrArg (Value.int .i64) (by omega))) ?_
            intro a H
            refine An.pure H (.inr (HP)) 6 110 (.slice (some ⟨bb_43, 0 + 64 * k, none⟩) (64 * k + 64 - 64 * k) (cap_44 - 64 * k)) rfl (by kernel_rfl) (by kernel_rfl) (fun _ _ _ h => h) (fun _ => ex_sliceLH (b := bb_43) (off := 0) (len := lu.length) (cap := cap_44) (i := 64 * k) (j := 64 * k + 64) (lo := ((64 * k : Nat) : Int)) (hi := ((64 * k + 64 : Nat) : Int)) (by kernel_rfl) (by kernel_rfl) (by kernel_rfl) (by kernel_rfl) (by kernel_rfl) rfl rfl (by omega) (by omega) (by omega)) ?_
            intro a H
            refine An.pure H (.inr (HP)) 7 111 (.string (bstr lu)) rfl (by kernel_rfl) (by kernel_rfl) (fun _ _ _ h => h) (fun _ => by kernel_rfl) ?_
            intro a H
            refine An.pure H (.inr (HP)) 8 112 (.int .i64 ((i : Nat) : Int)) rfl (by kernel_rfl) (by kernel_rfl) (fun _ _ _ h => h) (fun _ => by kernel_rfl) ?_
            intro a H
            refine An.pureE H (.inr (HP)) 9 113 (.int .i64 (IntKind.i64.wrap (64 * ((i : Nat) : Int)))) (.int .i64 ((64 * i : Nat) : Int)) rfl (by kernel_rfl) (by kernel_rfl) (fun _ _ _ h => h) (fun _ => by kernel_rfl) ((by rw [wrap_ini64 _ (by omega)]; exact congrArg (Value.int .i64) (by omega))) ?_
            intro a H
            refine An.pure H (.inr (HP)) 10 114 (.int .i64 ((i : Nat) : Int)) rfl (by kernel_rfl) (by kernel_rfl) (fun _ _ _ h => h) (fun _ => by kernel_rfl) ?_
            intro a H
            refine An.pureE H (.inr (HP)) 11 115 (.int .i64 (IntKind.i64.wrap (64 * ((i : Nat) : Int)))) (.int .i64 ((64 * i : Nat) : Int)) rfl (by kernel_rfl) (by kernel_rfl) (fun _ _ _ h => h) (fun _ => by kernel_rfl) ((by rw [wrap_ini64 _ (by omega)]; exact congrArg (Value.int .i64) (by omega))) ?_
            intro a H
            refine An.pureE H (.inr (HP)) 12 116 (.int .i64 (IntKind.i64.wrap (((64 * i : Nat) : Int) + 64))) (.int .i64 ((64 * i + 64 : Nat) : Int)) rfl (by kernel_rfl) (by kernel_rfl) (fun _ _ _ h => h) (fun _ => by kernel_rfl) ((by rw [wrap_ini64 _ (by omega)]; exact congrArg (Value.int .i64) (by omega))) ?_
            intro a H
            refine An.pure H (.inr (HP)) 13 117 (.string (bstr ((lu.drop (64 * i)).take ((64 * i + 64) - (64 * i))))) rfl (by kernel_rfl) (by kernel_rfl) (fun _ _ _ h => h) (fun _ => ex_sslice (k := .i64) (kk := .i64) (l := lu) (i := ((64 * i : Nat) : Int)) (j := ((64 * i + 64 : Nat) : Int)) (a := (64 * i)) (b := (64 * i + 64)) (by kernel_rfl) (by kernel_rfl) (by kernel_rfl) (by kernel_rfl) (by omega) (by omega) (by omega) (by omega)) ?_
            intro a H
            refine An.one 14 (by kernel_rfl) ?_
            refine Op.copyB (e := 5) H HP 0 118 bb_43 (0 + 64 * k) (64 * k + 64 - 64 * k) (cap_44 - 64 * k) cap_44 (putPk lu lu i k) ((lu.drop (64 * i)).take (64 * i + 64 - 64 * i)) rfl (by kernel_rfl) (by kernel_rfl) (by kernel_rfl) (by kernel_rfl) (by kernel_rfl) (by simp only [List.length_take, List.length_drop]; omega) (by simp only [List.length_take, List.length_drop, hpl1]; omega) (dT := 46) (sT := 9) (ty' := 3) ?_
            intro w_50 a H HP
            have HP : Hp w w_50 [bytesB bb_43 5 (over (putPk lu lu i k) (0 + 64 * k) ((lu.drop (64 * i)).take (64 * i + 64 - 64 * i))) cap_44, bx b_1 28 [(.int .i64 u.channel), (.int .i64 u.frame), (.int .i64 u.version), (.int .i64 u.item), (.int .i64 u.index), (.bool u.key), (.string (bstr u.data)), (.int .i64 u.regions), (.int .i64 u.gain), (.string (bstr u.caption)), (.int .i64 u.os), (.int .i64 u.of), (.slice u.A u.al.length u.c)] true] [] := HP
            rw [over_put hpl1 hN hkN hiN] at HP
            refine ⟨.inl (by kernel_rfl), ?_⟩
            refine An.done (by kernel_rfl) ?_
            have H := H.keep (L' := [(17, (.slice (some ⟨bb_43, 0, none⟩) lu.length cap_44)), (86, (.bool false)), (3, (.int .i64 ((k : Nat) : Int))), (2, (.int .i64 ((i : Nat) : Int))), (34, (.bool false)), (10, (.string (bstr lu))), (9, (.bool true)), (8, (.bool false)), (0, (.int .i64 c))]) (by kernel_rfl)
            refine then_normal ?_
            exact ⟨H.keep (by kernel_rfl), HP⟩
          ·
            rintro a w_51 ⟨H, HP⟩
            refine w_cut (fun a wv => Sl 136 [(19, (.int .i64 0)), (86, (.bool false)), (3, (.int .i64 ((k : Nat) : Int))), (2, (.int .i64 ((i : Nat) : Int))), (34, (.bool false)), (9, (.bool true)), (8, (.bool false))] a ∧ Hp w wv [(bytesB bb_43 5 (putPk (putPk lu lu i k) lu k i) cap_44), bx b_1 28 [(.int .i64 u.channel), (.int .i64 u.frame), (.int .i64 u.version), (.int .i64 u.item), (.int .i64 u.index), (.bool u.key), (.string (bstr u.data)), (.int .i64 u.regions), (.int .i64 u.gain), (.string (bstr u.caption)), (.int .i64 u.os), (.int .i64 u.of), (.slice u.A u.al.length u.c)] true] []) ?_ ?_
            ·
              refine An.start (fun v => Hp w v [(bytesB bb_43 5 (putPk (putPk lu lu i k) lu k i) cap_44), bx b_1 28 [(.int .i64 u.channel), (.int .i64 u.frame), (.int .i64 u.version), (.int .i64 u.item), (.int .i64 u.index), (.bool u.key), (.string (bstr u.data)), (.int .i64 u.regions), (.int .i64 u.gain), (.string (bstr u.caption)), (.int .i64 u.os), (.int .i64 u.of), (.slice u.A u.al.length u.c)] true] []) 11 11 HP wide_follows rfl ?_
              intro w_52 HP
              refine An.pure H (.inr (HP)) 0 120 (.int .i64 c) rfl (by kernel_rfl) (by kernel_rfl) (fun _ _ _ h => h) (fun _ => by kernel_rfl) ?_
              intro a H
              refine An.pure H (.inr (HP)) 2 122 (.slice (some ⟨bb_43, 0, none⟩) lu.length cap_44) rfl (by kernel_rfl) (by kernel_rfl) (fun _ _ _ h => h) (fun _ => by kernel_rfl) ?_
              intro a H
              refine An.val H (HP) 3 123 (.string (bstr (putPk (putPk lu lu i k) lu k i))) rfl (by kernel_rfl) (by kernel_rfl) (fun _ _ _ h => h) (fun _ hS => ex_b2sR (l := putPk (putPk lu lu i k) lu k i) (e := 5) (m := lu.length) (c := cap_44) (by kernel_rfl) (by have hh := bytesB_rd (hS.held 0 rfl); rw [show (putPk (putPk lu lu i k) lu k i).length = lu.length by omega] at hh; exact hh) (by kernel_rfl) (by kernel_rfl) (by kernel_rfl)) ?_
              intro a H
              refine An.two 1 8 (by kernel_rfl) ?_ ?_
              · refine Op.call H 121 rfl (by kernel_rfl) (Eq.trans (by kernel_rfl : _ = (callFunc 14 #[(.int .i64 c)]).run Tryd.prog w_52) (Tryd.call14 _ _)) (rate_any c w_52 hc) ?_
                rintro e w_53 ⟨rfl, hb⟩
                refine ⟨_, rfl, ?_⟩
                intro a H
                have HP := HP.next hb
                refine ⟨.inr (HP), ?_⟩
                refine An.two 4 8 (by kernel_rfl) ?_ ?_
                · refine Op.call H 124 rfl (by kernel_rfl) (Eq.trans (by kernel_rfl : _ = (callFunc 22 #[(.agg #[(.int .i64 ((rateP c).1)), (.int .i64 ((rateP c).2))]), (.string (bstr (putPk (putPk lu lu i k) lu k i)))]).run Tryd.prog w_53) (Tryd.call22 _ _)) ((by have hh := unpack_any (rateP c).1 (rateP c).2 (putPk (putPk lu lu i k) lu k i) w_53 (hL.below (HP.below (by kernel_rfl))) (by rw [hpl2]; omega); rw [hun] at hh; exact unpSome hh)) ?_
                  rintro e w_54 ⟨Bx, cx, rfl, hb⟩
                  refine ⟨_, rfl, ?_⟩
                  intro a H
                  have HP := HP.next hb
                  refine ⟨.inr (HP), ?_⟩
                  refine An.pure H (.inr (HP)) 5 119 (.tuple #[(.agg #[(.int .i64 U.channel), (.int .i64 U.frame), (.int .i64 U.version), (.int .i64 U.item), (.int .i64 U.index), (.bool U.key), (.string (bstr U.data)), (.int .i64 U.regions), (.int .i64 U.gain), (.string (bstr U.caption)), (.int .i64 U.os), (.int .i64 U.of), (.slice Bx U.al.length cx)]), (.int .i64 0)]) rfl (by kernel_rfl) (by kernel_rfl) (fun _ _ _ h => h) (fun _ => by kernel_rfl) ?_
                  intro a H
                  refine An.pure H (.inr (HP)) 6 125 (.agg #[(.int .i64 U.channel), (.int .i64 U.frame), (.int .i64 U.version), (.int .i64 U.item), (.int .i64 U.index), (.bool U.key), (.string (bstr U.data)), (.int .i64 U.regions), (.int .i64 U.gain), (.string (bstr U.caption)), (.int .i64 U.os), (.int .i64 U.of), (.slice Bx U.al.length cx)]) rfl (by kernel_rfl) (by kernel_rfl) (fun _ _ _ h => h) (fun _ => by kernel_rfl) ?_
                  intro a H
                  refine An.pure H (.inr (HP)) 7 126 (.int .i64 0) rfl (by kernel_rfl) (by kernel_rfl) (fun _ _ _ h => h) (fun _ => by kernel_rfl) ?_
                  intro a H
                  refine An.one 8 (by kernel_rfl) ?_
                  refine Op.alloc H HP 18 (fun b => (.pointer (some ⟨b, 0, none⟩))) 28 [(.int .i64 0), (.int .i64 0), (.int .i64 0), (.int .i64 0), (.int .i64 0), (.bool false), (.string (bstr ([]))), (.int .i64 0), (.int .i64 0), (.string (bstr ([]))), (.int .i64 0), (.int .i64 0), (.slice none 0 0)] rfl (by kernel_rfl) (fun w => by kernel_rfl) ?_
                  intro b_55 w_56 a H HP
                  refine ⟨.inr ((HP.tail rfl)), ?_⟩
                  refine An.one 9 (by kernel_rfl) ?_
                  refine Op.store H HP 0 b_55 0 13 28 [(.int .i64 0), (.int .i64 0), (.int .i64 0), (.int .i64 0), (.int .i64 0), (.bool false), (.string (bstr ([]))), (.int .i64 0), (.int .i64 0), (.string (bstr ([]))), (.int .i64 0), (.int .i64 0), (.slice none 0 0)] true (.agg #[(.int .i64 U.channel), (.int .i64 U.frame), (.int .i64 U.version), (.int .i64 U.item), (.int .i64 U.index), (.bool U.key), (.string (bstr U.data)), (.int .i64 U.regions), (.int .i64 U.gain), (.string (bstr U.caption)), (.int .i64 U.os), (.int .i64 U.of), (.slice Bx U.al.length cx)]) [bx b_55 28 [(.int .i64 U.channel), (.int .i64 U.frame), (.int .i64 U.version), (.int .i64 U.item), (.int .i64 U.index), (.bool U.key), (.string (bstr U.data)), (.int .i64 U.regions), (.int .i64 U.gain), (.string (bstr U.caption)), (.int .i64 U.os), (.int .i64 U.of), (.slice Bx U.al.length cx)] true, (bytesB bb_43 5 (putPk (putPk lu lu i k) lu k i) cap_44), bx b_1 28 [(.int .i64 u.channel), (.int .i64 u.frame), (.int .i64 u.version), (.int .i64 u.item), (.int .i64 u.index), (.bool u.key), (.string (bstr u.data)), (.int .i64 u.regions), (.int .i64 u.gain), (.string (bstr u.caption)), (.int .i64 u.os), (.int .i64 u.of), (.slice u.A u.al.length u.c)] true] rfl (by kernel_rfl) (by kernel_rfl) (by kernel_rfl) rfl (by kernel_rfl) (by kernel_rfl) (by kernel_rfl) (by kernel_rfl) (by kernel_rfl) ?_
                  intro w_57 a H HP
                  refine ⟨.inr ((HP.tail rfl)), ?_⟩
                  refine An.pure H (.inr ((HP.tail rfl))) 10 19 (.int .i64 0) rfl (by kernel_rfl) (by kernel_rfl) (fun _ _ _ h => h) (fun _ => by kernel_rfl) ?_
                  intro a H
                  refine An.done (by kernel_rfl) ?_
                  have H := H.keep (L' := [(19, (.int .i64 0)), (17, (.slice (some ⟨bb_43, 0, none⟩) lu.length cap_44)), (86, (.bool false)), (3, (.int .i64 ((k : Nat) : Int))), (2, (.int .i64 ((i : Nat) : Int))), (34, (.bool false)), (9, (.bool true)), (8, (.bool false)), (0, (.int .i64 c))]) (by kernel_rfl)
                  refine then_normal ?_
                  exact ⟨H.keep (by kernel_rfl), HP.tail rfl⟩
                · refine Op.alloc H HP 18 (fun b => (.pointer (some ⟨b, 0, none⟩))) 28 [(.int .i64 0), (.int .i64 0), (.int .i64 0), (.int .i64 0), (.int .i64 0), (.bool false), (.string (bstr ([]))), (.int .i64 0), (.int .i64 0), (.string (bstr ([]))), (.int .i64 0), (.int .i64 0), (.slice none 0 0)] rfl (by kernel_rfl) (fun w => by kernel_rfl) ?_
                  intro b_58 w_59 a H HP
                  refine ⟨.inr ((HP.tail rfl)), ?_⟩
                  refine An.one 4 (by kernel_rfl) ?_
                  refine Op.call H 124 rfl (by kernel_rfl) (Eq.trans (by kernel_rfl : _ = (callFunc 22 #[(.agg #[(.int .i64 ((rateP c).1)), (.int .i64 ((rateP c).2))]), (.string (bstr (putPk (putPk lu lu i k) lu k i)))]).run Tryd.prog w_59) (Tryd.call22 _ _)) ((by have hh := unpack_any (rateP c).1 (rateP c).2 (putPk (putPk lu lu i k) lu k i) w_59 (hL.below (HP.below (by kernel_rfl))) (by rw [hpl2]; omega); rw [hun] at hh; exact unpSome hh)) ?_
                  rintro e w_60 ⟨Bx, cx, rfl, hb⟩
                  refine ⟨_, rfl, ?_⟩
                  intro a H
                  have HP := HP.next hb
                  refine ⟨.inr ((HP.tail rfl)), ?_⟩
                  refine An.pure H (.inr ((HP.tail rfl))) 5 119 (.tuple #[(.agg #[(.int .i64 U.channel), (.int .i64 U.frame), (.int .i64 U.version), (.int .i64 U.item), (.int .i64 U.index), (.bool U.key), (.string (bstr U.data)), (.int .i64 U.regions), (.int .i64 U.gain), (.string (bstr U.caption)), (.int .i64 U.os), (.int .i64 U.of), (.slice Bx U.al.length cx)]), (.int .i64 0)]) rfl (by kernel_rfl) (by kernel_rfl) (fun _ _ _ h => h) (fun _ => by kernel_rfl) ?_
                  intro a H
                  refine An.pure H (.inr ((HP.tail rfl))) 6 125 (.agg #[(.int .i64 U.channel), (.int .i64 U.frame), (.int .i64 U.version), (.int .i64 U.item), (.int .i64 U.index), (.bool U.key), (.string (bstr U.data)), (.int .i64 U.regions), (.int .i64 U.gain), (.string (bstr U.caption)), (.int .i64 U.os), (.int .i64 U.of), (.slice Bx U.al.length cx)]) rfl (by kernel_rfl) (by kernel_rfl) (fun _ _ _ h => h) (fun _ => by kernel_rfl) ?_
                  intro a H
                  refine An.pure H (.inr ((HP.tail rfl))) 7 126 (.int .i64 0) rfl (by kernel_rfl) (by kernel_rfl) (fun _ _ _ h => h) (fun _ => by kernel_rfl) ?_
                  intro a H
                  refine An.one 9 (by kernel_rfl) ?_
                  refine Op.store H HP 0 b_58 0 13 28 [(.int .i64 0), (.int .i64 0), (.int .i64 0), (.int .i64 0), (.int .i64 0), (.bool false), (.string (bstr ([]))), (.int .i64 0), (.int .i64 0), (.string (bstr ([]))), (.int .i64 0), (.int .i64 0), (.slice none 0 0)] true (.agg #[(.int .i64 U.channel), (.int .i64 U.frame), (.int .i64 U.version), (.int .i64 U.item), (.int .i64 U.index), (.bool U.key), (.string (bstr U.data)), (.int .i64 U.regions), (.int .i64 U.gain), (.string (bstr U.caption)), (.int .i64 U.os), (.int .i64 U.of), (.slice Bx U.al.length cx)]) [bx b_58 28 [(.int .i64 U.channel), (.int .i64 U.frame), (.int .i64 U.version), (.int .i64 U.item), (.int .i64 U.index), (.bool U.key), (.string (bstr U.data)), (.int .i64 U.regions), (.int .i64 U.gain), (.string (bstr U.caption)), (.int .i64 U.os), (.int .i64 U.of), (.slice Bx U.al.length cx)] true, (bytesB bb_43 5 (putPk (putPk lu lu i k) lu k i) cap_44), bx b_1 28 [(.int .i64 u.channel), (.int .i64 u.frame), (.int .i64 u.version), (.int .i64 u.item), (.int .i64 u.index), (.bool u.key), (.string (bstr u.data)), (.int .i64 u.regions), (.int .i64 u.gain), (.string (bstr u.caption)), (.int .i64 u.os), (.int .i64 u.of), (.slice u.A u.al.length u.c)] true] rfl (by kernel_rfl) (by kernel_rfl) (by kernel_rfl) rfl (by kernel_rfl) (by kernel_rfl) (by kernel_rfl) (by kernel_rfl) (by kernel_rfl) ?_
                  intro w_61 a H HP
                  refine ⟨.inr ((HP.tail rfl)), ?_⟩
                  refine An.pure H (.inr ((HP.tail rfl))) 10 19 (.int .i64 0) rfl (by kernel_rfl) (by kernel_rfl) (fun _ _ _ h => h) (fun _ => by kernel_rfl) ?_
                  intro a H
                  refine An.done (by kernel_rfl) ?_
                  have H := H.keep (L' := [(19, (.int .i64 0)), (17, (.slice (some ⟨bb_43, 0, none⟩) lu.length cap_44)), (86, (.bool false)), (3, (.int .i64 ((k : Nat) : Int))), (2, (.int .i64 ((i : Nat) : Int))), (34, (.bool false)), (9, (.bool true)), (8, (.bool false)), (0, (.int .i64 c))]) (by kernel_rfl)
                  refine then_normal ?_
                  exact ⟨H.keep (by kernel_rfl), HP.tail rfl⟩
              · refine Op.alloc H HP 18 (fun b => (.pointer (some ⟨b, 0, none⟩))) 28 [(.int .i64 0), (.int .i64 0), (.int .i64 0), (.int .i64 0), (.int .i64 0), (.bool false), (.string (bstr ([]))), (.int .i64 0), (.int .i64 0), (.string (bstr ([]))), (.int .i64 0), (.int .i64 0), (.slice none 0 0)] rfl (by kernel_rfl) (fun w => by kernel_rfl) ?_
                intro b_62 w_63 a H HP
                refine ⟨.inr ((HP.tail rfl)), ?_⟩
                refine An.one 1 (by kernel_rfl) ?_
                refine Op.call H 121 rfl (by kernel_rfl) (Eq.trans (by kernel_rfl : _ = (callFunc 14 #[(.int .i64 c)]).run Tryd.prog w_63) (Tryd.call14 _ _)) (rate_any c w_63 hc) ?_
                rintro e w_64 ⟨rfl, hb⟩
                refine ⟨_, rfl, ?_⟩
                intro a H
                have HP := HP.next hb
                refine ⟨.inr ((HP.tail rfl)), ?_⟩
                refine An.one 4 (by kernel_rfl) ?_
                refine Op.call H 124 rfl (by kernel_rfl) (Eq.trans (by kernel_rfl : _ = (callFunc 22 #[(.agg #[(.int .i64 ((rateP c).1)), (.int .i64 ((rateP c).2))]), (.string (bstr (putPk (putPk lu lu i k) lu k i)))]).run Tryd.prog w_64) (Tryd.call22 _ _)) ((by have hh := unpack_any (rateP c).1 (rateP c).2 (putPk (putPk lu lu i k) lu k i) w_64 (hL.below (HP.below (by kernel_rfl))) (by rw [hpl2]; omega); rw [hun] at hh; exact unpSome hh)) ?_
                rintro e w_65 ⟨Bx, cx, rfl, hb⟩
                refine ⟨_, rfl, ?_⟩
                intro a H
                have HP := HP.next hb
                refine ⟨.inr ((HP.tail rfl)), ?_⟩
                refine An.pure H (.inr ((HP.tail rfl))) 5 119 (.tuple #[(.agg #[(.int .i64 U.channel), (.int .i64 U.frame), (.int .i64 U.version), (.int .i64 U.item), (.int .i64 U.index), (.bool U.key), (.string (bstr U.data)), (.int .i64 U.regions), (.int .i64 U.gain), (.string (bstr U.caption)), (.int .i64 U.os), (.int .i64 U.of), (.slice Bx U.al.length cx)]), (.int .i64 0)]) rfl (by kernel_rfl) (by kernel_rfl) (fun _ _ _ h => h) (fun _ => by kernel_rfl) ?_
                intro a H
                refine An.pure H (.inr ((HP.tail rfl))) 6 125 (.agg #[(.int .i64 U.channel), (.int .i64 U.frame), (.int .i64 U.version), (.int .i64 U.item), (.int .i64 U.index), (.bool U.key), (.string (bstr U.data)), (.int .i64 U.regions), (.int .i64 U.gain), (.string (bstr U.caption)), (.int .i64 U.os), (.int .i64 U.of), (.slice Bx U.al.length cx)]) rfl (by kernel_rfl) (by kernel_rfl) (fun _ _ _ h => h) (fun _ => by kernel_rfl) ?_
                intro a H
                refine An.pure H (.inr ((HP.tail rfl))) 7 126 (.int .i64 0) rfl (by kernel_rfl) (by kernel_rfl) (fun _ _ _ h => h) (fun _ => by kernel_rfl) ?_
                intro a H
                refine An.one 9 (by kernel_rfl) ?_
                refine Op.store H HP 0 b_62 0 13 28 [(.int .i64 0), (.int .i64 0), (.int .i64 0), (.int .i64 0), (.int .i64 0), (.bool false), (.string (bstr ([]))), (.int .i64 0), (.int .i64 0), (.string (bstr ([]))), (.int .i64 0), (.int .i64 0), (.slice none 0 0)] true (.agg #[(.int .i64 U.channel), (.int .i64 U.frame), (.int .i64 U.version), (.int .i64 U.item), (.int .i64 U.index), (.bool U.key), (.string (bstr U.data)), (.int .i64 U.regions), (.int .i64 U.gain), (.string (bstr U.caption)), (.int .i64 U.os), (.int .i64 U.of), (.slice Bx U.al.length cx)]) [bx b_62 28 [(.int .i64 U.channel), (.int .i64 U.frame), (.int .i64 U.version), (.int .i64 U.item), (.int .i64 U.index), (.bool U.key), (.string (bstr U.data)), (.int .i64 U.regions), (.int .i64 U.gain), (.string (bstr U.caption)), (.int .i64 U.os), (.int .i64 U.of), (.slice Bx U.al.length cx)] true, (bytesB bb_43 5 (putPk (putPk lu lu i k) lu k i) cap_44), bx b_1 28 [(.int .i64 u.channel), (.int .i64 u.frame), (.int .i64 u.version), (.int .i64 u.item), (.int .i64 u.index), (.bool u.key), (.string (bstr u.data)), (.int .i64 u.regions), (.int .i64 u.gain), (.string (bstr u.caption)), (.int .i64 u.os), (.int .i64 u.of), (.slice u.A u.al.length u.c)] true] rfl (by kernel_rfl) (by kernel_rfl) (by kernel_rfl) rfl (by kernel_rfl) (by kernel_rfl) (by kernel_rfl) (by kernel_rfl) (by kernel_rfl) ?_
                intro w_66 a H HP
                refine ⟨.inr ((HP.tail rfl)), ?_⟩
                refine An.pure H (.inr ((HP.tail rfl))) 10 19 (.int .i64 0) rfl (by kernel_rfl) (by kernel_rfl) (fun _ _ _ h => h) (fun _ => by kernel_rfl) ?_
                intro a H
                refine An.done (by kernel_rfl) ?_
                have H := H.keep (L' := [(19, (.int .i64 0)), (17, (.slice (some ⟨bb_43, 0, none⟩) lu.length cap_44)), (86, (.bool false)), (3, (.int .i64 ((k : Nat) : Int))), (2, (.int .i64 ((i : Nat) : Int))), (34, (.bool false)), (9, (.bool true)), (8, (.bool false)), (0, (.int .i64 c))]) (by kernel_rfl)
                refine then_normal ?_
                exact ⟨H.keep (by kernel_rfl), HP.tail rfl⟩
            ·
              rintro a w_67 ⟨H, HP⟩
              refine wp_seq ?_
              refine w_region ?_
              refine H.val 127 (.bool true) (by kernel_rfl) (by kernel_rfl) ?_
              intro a H
              refine H.val 128 (.bool true) (by kernel_rfl) (by kernel_rfl) ?_
              intro a H
              refine H.val 129 (.int .i64 0) (by kernel_rfl) (by kernel_rfl) ?_
              intro a H
              refine H.val 130 (.bool true) (by kernel_rfl) (by kernel_rfl) ?_
              intro a H
              refine H.val 131 (.int .i64 ((i : Nat) : Int)) (by kernel_rfl) (by kernel_rfl) ?_
              intro a H
              refine H.val 132 (.int .i64 ((k : Nat) : Int)) (by kernel_rfl) (by kernel_rfl) ?_
              intro a H
              refine H.valE 133 (.bool (((i : Nat) : Int) == ((k : Nat) : Int))) (.bool true) (by kernel_rfl) (by kernel_rfl) ((congrArg Value.bool (hik))) ?_
              intro a H
              refine H.val 134 (.bool true) (by kernel_rfl) (by kernel_rfl) ?_
              intro a H
              refine H.val 135 (.bool true) (by kernel_rfl) (by kernel_rfl) ?_
              intro a H
              refine H.val 8 (.bool true) (by kernel_rfl) (by kernel_rfl) ?_
              intro a H
              refine wpList_nil ?_
              have H := H.keep (L' := [(8, (.bool true)), (19, (.int .i64 0)), (86, (.bool false)), (3, (.int .i64 ((k : Nat) : Int))), (2, (.int .i64 ((i : Nat) : Int))), (34, (.bool false)), (9, (.bool true))]) (by kernel_rfl)
              refine then_normal ?_
              refine wp_ret ?_
              refine H.ret1 (fn := Tryd.f10) Tryd.results10 (RV.tmp_ (v := (.bool true)) (by kernel_rfl)) ?_
              exact ⟨rfl, (HP.below (by kernel_rfl))⟩
set_option maxRecDepth 100000 in
set_option maxHeartbeats 4000000 in
theorem mis_f (c : Int) (u U : Un) (i0 k0 : Int) (w : World) (hU : shortU u = U) (hL : Laid w) (hc : -9223372036854775808 ≤ c ∧ c ≤ 9223372036854775807) (hi0 : -9223372036854775808 ≤ i0 ∧ i0 ≤ 9223372036854775807) (hk0 : -9223372036854775808 ≤ k0 ∧ k0 ≤ 9223372036854775807) (huu : IsAlts w u.A u.al.length u.al) (hcu : u.al.length ≤ u.c) (hAu : u.A = none → u.c = 0) (lu : List UInt8) (hZu : ∀ B c', packP (rateP c).1 (rateP c).2 ({ U with A := B, c := c' } : Un) = some lu) (N i k : Nat) (hN : lu.length = 64 * N) (hn1 : 1 ≤ N) (hn13 : N ≤ 13) (hpi : pickI i0 ((N : Nat) : Int) = ((i : Nat) : Int)) (hpk : pickI k0 ((N : Nat) : Int) = ((k : Nat) : Int)) (hiN : i < N) (hkN : k < N) (hik : ((((i : Nat) : Int)) == ((k : Nat) : Int)) = false) (hun : unpackP (rateP c).1 (rateP c).2 (putPk (putPk lu lu i k) lu k i) = none) :
    Calls Tryd.prog 10 #[.int .i64 c, u.val, .int .i64 i0, .int .i64 k0] w fun e w' => e = .returned (.bool true) ∧ Below w.heap.size w w' := by
  have HP := Hp.start w
  have hne : lu ≠ [] := fun e => by subst e; simp at hN; omega
  have hpl1 := putPk_len hN hN hiN hkN
  have hpl2 := putPk_len hpl1 hN hkN hiN
  refine w_enter 136 [(0, (.int .i64 c)), (1, (.agg #[(.int .i64 u.channel), (.int .i64 u.frame), (.int .i64 u.version), (.int .i64 u.item), (.int .i64 u.index), (.bool u.key), (.string (bstr u.data)), (.int .i64 u.regions), (.int .i64 u.gain), (.string (bstr u.caption)), (.int .i64 u.os), (.int .i64 u.of), (.slice u.A u.al.length u.c)])), (2, (.int .i64 i0)), (3, (.int .i64 k0))] Tryd.func10 rfl Tryd.ntmps10 (by kernel_rfl) (by kernel_rfl) ?_
  intro a H
  refine wp_seq ?_
  refine w_region ?_
  refine H.alloc HP 5 (fun b => (.pointer (some ⟨b, 0, none⟩))) 28 [(.int .i64 u.channel), (.int .i64 u.frame), (.int .i64 u.version), (.int .i64 u.item), (.int .i64 u.index), (.bool u.key), (.string (bstr u.data)), (.int .i64 u.regions), (.int .i64 u.gain), (.string (bstr u.caption)), (.int .i64 u.os), (.int .i64 u.of), (.slice u.A u.al.length u.c)] (by kernel_rfl) (fun w => by kernel_rfl) ?_
  intro b_1 w_2 a H HP
  refine H.val 8 (.bool false) (by kernel_rfl) (by kernel_rfl) ?_
  intro a H
  refine wpList_nil ?_
  refine then_normal ?_
  refine wp_seq ?_
  refine w_region ?_
  refine H.call 20 (by kernel_rfl) (Eq.trans (by kernel_rfl : _ = (callFunc 13 #[]).run Tryd.prog w_2) (Tryd.call13 _ _)) (sane_any w_2 (hL.below (HP.below (by kernel_rfl)))) ?_
  rintro e w_3 ⟨rfl, hb⟩
  refine ⟨_, rfl, ?_⟩
  intro a H
  have HP := HP.next hb
  refine H.val 9 (.bool true) (by kernel_rfl) (by kernel_rfl) ?_
  intro a H
  refine wpList_nil ?_
  refine then_normal ?_
  refine w_cut (fun a wv => Sl 136 [(10, (.string (bstr lu))), (11, (.int .i64 0)), (9, (.bool true)), (8, (.bool false)), (0, (.int .i64 c)), (2, (.int .i64 i0)), (3, (.int .i64 k0))] a ∧ Hp w wv [bx b_1 28 [(.int .i64 u.channel), (.int .i64 u.frame), (.int .i64 u.version), (.int .i64 u.item), (.int .i64 u.index), (.bool u.key), (.string (bstr u.data)), (.int .i64 u.regions), (.int .i64 u.gain), (.string (bstr u.caption)), (.int .i64 u.os), (.int .i64 u.of), (.slice u.A u.al.length u.c)] true] []) ?_ ?_
  ·
    refine An.start (fun v => Hp w v [bx b_1 28 [(.int .i64 u.channel), (.int .i64 u.frame), (.int .i64 u.version), (.int .i64 u.item), (.int .i64 u.index), (.bool u.key), (.string (bstr u.data)), (.int .i64 u.regions), (.int .i64 u.gain), (.string (bstr u.caption)), (.int .i64 u.os), (.int .i64 u.of), (.slice u.A u.al.length u.c)] true] []) 10 10 HP wide_follows rfl ?_
    intro w_4 HP
    refine An.pure H (.inr (HP)) 0 22 (.int .i64 c) rfl (by kernel_rfl) (by kernel_rfl) (fun _ _ _ h => h) (fun _ => by kernel_rfl) ?_
    intro a H
    refine An.val H (HP) 2 24 (.agg #[(.int .i64 u.channel), (.int .i64 u.frame), (.int .i64 u.version), (.int .i64 u.item), (.int .i64 u.index), (.bool u.key), (.string (bstr u.data)), (.int .i64 u.regions), (.int .i64 u.gain), (.string (bstr u.caption)), (.int .i64 u.os), (.int .i64 u.of), (.slice u.A u.al.length u.c)]) rfl (by kernel_rfl) (by kernel_rfl) (fun _ _ _ h => h) (fun _ hS => ex_loadN (vs := [(.int .i64 u.channel), (.int .i64 u.frame), (.int .i64 u.version), (.int .i64 u.item), (.int .i64 u.index), (.bool u.key), (.string (bstr u.data)), (.int .i64 u.regions), (.int .i64 u.gain), (.string (bstr u.caption)), (.int .i64 u.os), (.int .i64 u.of), (.slice u.A u.al.length u.c)]) (by kernel_rfl) (by kernel_rfl) (by kernel_rfl) rfl (hS.cells 0 rfl 0 13 (by kernel_rfl))) ?_
    intro a H
    refine An.one 1 (by kernel_rfl) ?_
    refine Op.call H 23 rfl (by kernel_rfl) (Eq.trans (by kernel_rfl : _ = (callFunc 14 #[(.int .i64 c)]).run Tryd.prog w_4) (Tryd.call14 _ _)) (rate_any c w_4 hc) ?_
    rintro e w_5 ⟨rfl, hb⟩
    refine ⟨_, rfl, ?_⟩
    intro a H
    have HP := HP.next hb
    refine ⟨.inr (HP), ?_⟩
    refine An.one 3 (by kernel_rfl) ?_
    refine Op.call H 25 rfl (by kernel_rfl) (Eq.trans (by kernel_rfl : _ = (callFunc 15 #[(.agg #[(.int .i64 u.channel), (.int .i64 u.frame), (.int .i64 u.version), (.int .i64 u.item), (.int .i64 u.index), (.bool u.key), (.string (bstr u.data)), (.int .i64 u.regions), (.int .i64 u.gain), (.string (bstr u.caption)), (.int .i64 u.os), (.int .i64 u.of), (.slice u.A u.al.length u.c)])]).run Tryd.prog w_5) (Tryd.call15 _ _)) (short_anyU hU (short_any u w_5 (huu.below (HP.below (by kernel_rfl))) hcu hAu)) ?_
    rintro e w_6 ⟨Bu, cu, rfl, halu, hcau, hcbu, hccu, hfru, hb⟩
    refine ⟨_, rfl, ?_⟩
    intro a H
    have HP := (HP.next hb).keepF ⟨rowFp U.al.length Bu, fun w => IsAlts w Bu U.al.length U.al⟩ halu (fun _ _ h hk hs => ⟨h.1, h.2.keep hk hs⟩) (fun j hj => row_sep HP halu.2 hfru hj)
    refine ⟨.inr (HP.untop), ?_⟩
    refine An.one 4 (by kernel_rfl) ?_
    refine Op.call H 26 rfl (by kernel_rfl) (Eq.trans (by kernel_rfl : _ = (callFunc 16 #[(.agg #[(.int .i64 ((rateP c).1)), (.int .i64 ((rateP c).2))]), (.agg #[(.int .i64 U.channel), (.int .i64 U.frame), (.int .i64 U.version), (.int .i64 U.item), (.int .i64 U.index), (.bool U.key), (.string (bstr U.data)), (.int .i64 U.regions), (.int .i64 U.gain), (.string (bstr U.caption)), (.int .i64 U.os), (.int .i64 U.of), (.slice Bu U.al.length cu)])]).run Tryd.prog w_6) (Tryd.call16 _ _)) ((by have hh := pack_any ((rateP c).1) ((rateP c).2) (⟨U.channel, U.frame, U.version, U.item, U.index, U.key, U.data, U.regions, U.gain, U.caption, U.os, U.of, Bu, cu, U.al⟩ : Un) w_6 (hL.below (HP.below (by kernel_rfl))) (HP.fact 0 rfl) (Nat.le_trans hcau hcbu); rw [hZu Bu cu] at hh; exact hh)) ?_
    rintro e w_7 ⟨rfl, hb⟩
    refine ⟨_, rfl, ?_⟩
    intro a H
    have HP := HP.next hb
    refine ⟨.inr (HP.untop), ?_⟩
    refine An.pure H (.inr (HP.untop)) 5 21 (.tuple #[(.string (bstr lu)), (.int .i64 0)]) rfl (by kernel_rfl) (by kernel_rfl) (fun _ _ _ h => h) (fun _ => by kernel_rfl) ?_
    intro a H
    refine An.pure H (.inr (HP.untop)) 6 27 (.string (bstr lu)) rfl (by kernel_rfl) (by kernel_rfl) (fun _ _ _ h => h) (fun _ => by kernel_rfl) ?_
    intro a H
    refine An.pure H (.inr (HP.untop)) 7 28 (.int .i64 0) rfl (by kernel_rfl) (by kernel_rfl) (fun _ _ _ h => h) (fun _ => by kernel_rfl) ?_
    intro a H
    refine An.pure H (.inr (HP.untop)) 8 10 (.string (bstr lu)) rfl (by kernel_rfl) (by kernel_rfl) (fun _ _ _ h => h) (fun _ => by kernel_rfl) ?_
    intro a H
    refine An.pure H (.inr (HP.untop)) 9 11 (.int .i64 0) rfl (by kernel_rfl) (by kernel_rfl) (fun _ _ _ h => h) (fun _ => by kernel_rfl) ?_
    intro a H
    refine An.done (by kernel_rfl) ?_
    have H := H.keep (L' := [(11, (.int .i64 0)), (10, (.string (bstr lu))), (9, (.bool true)), (20, (.bool true)), (8, (.bool false)), (5, (.pointer (some ⟨b_1, 0, none⟩))), (0, (.int .i64 c)), (1, (.agg #[(.int .i64 u.channel), (.int .i64 u.frame), (.int .i64 u.version), (.int .i64 u.item), (.int .i64 u.index), (.bool u.key), (.string (bstr u.data)), (.int .i64 u.regions), (.int .i64 u.gain), (.string (bstr u.caption)), (.int .i64 u.os), (.int .i64 u.of), (.slice u.A u.al.length u.c)])), (2, (.int .i64 i0)), (3, (.int .i64 k0))]) (by kernel_rfl)
    refine then_normal ?_
    exact ⟨H.keep (by kernel_rfl), HP.untop⟩
  ·
    rintro a w_8 ⟨H, HP⟩
    refine wp_seq ?_
    refine wp_seq ?_
    refine w_region ?_
    refine H.val 29 (.int .i64 0) (by kernel_rfl) (by kernel_rfl) ?_
    intro a H
    refine H.val 30 (.bool false) (by kernel_rfl) (by kernel_rfl) ?_
    intro a H
    refine H.val 31 (.bool false) (by kernel_rfl) (by kernel_rfl) ?_
    intro a H
    refine H.val 32 (.string (bstr lu)) (by kernel_rfl) (by kernel_rfl) ?_
    intro a H
    refine H.valE 33 (.bool ((bstr lu).toList == (bstr []).toList)) (.bool false) (by kernel_rfl) (by kernel_rfl) ((congrArg Value.bool ((bstr_eq _ _).trans (beq_eq_false_iff_ne.2 hne)))) ?_
    intro a H
    refine H.val 34 (.bool false) (by kernel_rfl) (by kernel_rfl) ?_
    intro a H
    refine wpList_nil ?_
    refine then_normal ?_
    refine w_iff H rfl ?_
    refine wp_skip ?_
    refine then_normal ?_
    refine wp_seq ?_
    refine w_region ?_
    refine H.val 40 (.string (bstr lu)) (by kernel_rfl) (by kernel_rfl) ?_
    intro a H
    refine H.val 41 (.int .i64 ((lu.length : Nat) : Int)) (by kernel_rfl) (by kernel_rfl) ?_
    intro a H
    refine H.valE 42 (.int .i64 (IntKind.i64.wrap (((lu.length : Nat) : Int).tdiv 64))) (.int .i64 ((N : Nat) : Int)) (by kernel_rfl) (by kernel_rfl) ((by rw [tdiv_nn _ _ (by omega), wrap_ini64 _ (by omega)]; exact congrArg (Value.int .i64) (by omega))) ?_
    intro a H
    refine H.val 12 (.int .i64 ((N : Nat) : Int)) (by kernel_rfl) (by kernel_rfl) ?_
    intro a H
    refine wpList_nil ?_
    refine then_normal ?_
    refine wp_seq ?_
    refine w_region ?_
    refine H.val 43 (.int .i64 i0) (by kernel_rfl) (by kernel_rfl) ?_
    intro a H
    refine H.val 44 (.int .i64 ((N : Nat) : Int)) (by kernel_rfl) (by kernel_rfl) ?_
    intro a H
    refine H.call 45 (by kernel_rfl) (Eq.trans (by kernel_rfl : _ = (callFunc 27 #[(.int .i64 i0), (.int .i64 ((N : Nat) : Int))]).run Tryd.prog w_8) (Tryd.call27 _ _)) ((by have hh := pick_any i0 ((N : Nat) : Int) w_8 hi0 (by omega); rw [hpi] at hh; exact hh)) ?_
    rintro e w_9 ⟨rfl, rfl⟩
    refine ⟨_, rfl, ?_⟩
    intro a H
    refine H.val 2 (.int .i64 ((i : Nat) : Int)) (by kernel_rfl) (by kernel_rfl) ?_
    intro a H
    refine wpList_nil ?_
    refine then_normal ?_
    refine wp_seq ?_
    refine w_region ?_
    refine H.val 46 (.int .i64 k0) (by kernel_rfl) (by kernel_rfl) ?_
    intro a H
    refine H.val 47 (.int .i64 ((N : Nat) : Int)) (by kernel_rfl) (by kernel_rfl) ?_
    intro a H
    refine H.call 48 (by kernel_rfl) (Eq.trans (by kernel_rfl : _ = (callFunc 27 #[(.int .i64 k0), (.int .i64 ((N : Nat) : Int))]).run Tryd.prog w_8) (Tryd.call27 _ _)) ((by have hh := pick_any k0 ((N : Nat) : Int) w_8 hk0 (by omega); rw [hpk] at hh; exact hh)) ?_
    rintro e w_10 ⟨rfl, rfl⟩
    refine ⟨_, rfl, ?_⟩
    intro a H
    refine H.val 3 (.int .i64 ((k : Nat) : Int)) (by kernel_rfl) (by kernel_rfl) ?_
    intro a H
    refine wpList_nil ?_
    refine then_normal ?_
    refine w_cut (fun a wv => Sl 136 [(14, (.int .i64 180)), (3, (.int .i64 ((k : Nat) : Int))), (2, (.int .i64 ((i : Nat) : Int))), (34, (.bool false)), (10, (.string (bstr lu))), (9, (.bool true)), (8, (.bool false)), (0, (.int .i64 c))] a ∧ Hp w wv [bx b_1 28 [(.int .i64 u.channel), (.int .i64 u.frame), (.int .i64 u.version), (.int .i64 u.item), (.int .i64 u.index), (.bool u.key), (.string (bstr u.data)), (.int .i64 u.regions), (.int .i64 u.gain), (.string (bstr u.caption)), (.int .i64 u.os), (.int .i64 u.of), (.slice u.A u.al.length u.c)] true] []) ?_ ?_
    ·
      refine An.start (fun v => Hp w v [bx b_1 28 [(.int .i64 u.channel), (.int .i64 u.frame), (.int .i64 u.version), (.int .i64 u.item), (.int .i64 u.index), (.bool u.key), (.string (bstr u.data)), (.int .i64 u.regions), (.int .i64 u.gain), (.string (bstr u.caption)), (.int .i64 u.os), (.int .i64 u.of), (.slice u.A u.al.length u.c)] true] []) 19 19 HP wide_follows rfl ?_
      intro w_11 HP
      refine An.pure H (.inr (HP)) 0 50 (.int .i64 c) rfl (by kernel_rfl) (by kernel_rfl) (fun _ _ _ h => h) (fun _ => by kernel_rfl) ?_
      intro a H
      refine An.pure H (.inr (HP)) 2 52 (.string (bstr lu)) rfl (by kernel_rfl) (by kernel_rfl) (fun _ _ _ h => h) (fun _ => by kernel_rfl) ?_
      intro a H
      refine An.pure H (.inr (HP)) 3 53 (.int .i64 ((i : Nat) : Int)) rfl (by kernel_rfl) (by kernel_rfl) (fun _ _ _ h => h) (fun _ => by kernel_rfl) ?_
      intro a H
      refine An.pureE H (.inr (HP)) 4 54 (.int .i64 (IntKind.i64.wrap (64 * ((i : Nat) : Int)))) (.int .i64 ((64 * i : Nat) : Int)) rfl (by kernel_rfl) (by kernel_rfl) (fun _ _ _ h => h) (fun _ => by kernel_rfl) ((by rw [wrap_ini64 _ (by omega)]; exact congrArg (Value.int .i64) (by omega))) ?_
      intro a H
      refine An.pure H (.inr (HP)) 5 55 (.string (bstr (lu.take (64 * i)))) rfl (by kernel_rfl) (by kernel_rfl) (fun _ _ _ h => h) (fun _ => ex_ssliceH (kk := .i64) (l := lu) (j := ((64 * i : Nat) : Int)) (b := (64 * i)) (by kernel_rfl) (by kernel_rfl) (by kernel_rfl) (by omega) (by omega)) ?_
      intro a H
      refine An.pure H (.inr (HP)) 6 56 (.string (bstr lu)) rfl (by kernel_rfl) (by kernel_rfl) (fun _ _ _ h => h) (fun _ => by kernel_rfl) ?_
      intro a H
      refine An.pure H (.inr (HP)) 7 57 (.int .i64 ((i : Nat) : Int)) rfl (by kernel_rfl) (by kernel_rfl) (fun _ _ _ h => h) (fun _ => by kernel_rfl) ?_
      intro a H
      refine An.pureE H (.inr (HP)) 8 58 (.int .i64 (IntKind.i64.wrap (64 * ((i : Nat) : Int)))) (.int .i64 ((64 * i : Nat) : Int)) rfl (by kernel_rfl) (by kernel_rfl) (fun _ _ _ h => h) (fun _ => by kernel_rfl) ((by rw [wrap_ini64 _ (by omega)]; exact congrArg (Value.int .i64) (by omega))) ?_
      intro a H
      refine An.pureE H (.inr (HP)) 9 59 (.int .i64 (IntKind.i64.wrap (((64 * i : Nat) : Int) + 64))) (.int .i64 ((64 * i + 64 : Nat) : Int)) rfl (by kernel_rfl) (by kernel_rfl) (fun _ _ _ h => h) (fun _ => by kernel_rfl) ((by rw [wrap_ini64 _ (by omega)]; exact congrArg (Value.int .i64) (by omega))) ?_
      intro a H
      refine An.pure H (.inr (HP)) 10 60 (.string (bstr (lu.drop (64 * i + 64)))) rfl (by kernel_rfl) (by kernel_rfl) (fun _ _ _ h => h) (fun _ => ex_ssliceL (k := .i64) (l := lu) (i := ((64 * i + 64 : Nat) : Int)) (a := (64 * i + 64)) (by kernel_rfl) (by kernel_rfl) (by kernel_rfl) (by omega) (by omega)) ?_
      intro a H
      refine An.pure H (.inr (HP)) 11 61 (.string (bstr ((lu.take (64 * i)) ++ (lu.drop (64 * i + 64))))) rfl (by kernel_rfl) (by kernel_rfl) (fun _ _ _ h => h) (fun _ => ex_sadd (by kernel_rfl) (by kernel_rfl) (by first | omega | (simp only [List.length_take, List.length_drop]; omega))) ?_
      intro a H
      refine An.two 1 16 (by kernel_rfl) ?_ ?_
      · refine Op.call H 51 rfl (by kernel_rfl) (Eq.trans (by kernel_rfl : _ = (callFunc 14 #[(.int .i64 c)]).run Tryd.prog w_11) (Tryd.call14 _ _)) (rate_any c w_11 hc) ?_
        rintro e w_12 ⟨rfl, hb⟩
        refine ⟨_, rfl, ?_⟩
        intro a H
        have HP := HP.next hb
        refine ⟨.inr (HP), ?_⟩
        refine An.two 12 16 (by kernel_rfl) ?_ ?_
        · refine Op.call H 62 rfl (by kernel_rfl) (Eq.trans (by kernel_rfl : _ = (callFunc 22 #[(.agg #[(.int .i64 ((rateP c).1)), (.int .i64 ((rateP c).2))]), (.string (bstr ((lu.take (64 * i)) ++ (lu.drop (64 * i + 64)))))]).run Tryd.prog w_12) (Tryd.call22 _ _)) ((by have hh := unpack_any (rateP c).1 (rateP c).2 (lu.take (64 * i) ++ lu.drop (64 * i + 64)) w_12 (hL.below (HP.below (by kernel_rfl))) (by simp only [List.length_append, List.length_take, List.length_drop]; omega); rw [missing_law (hZu none 0) hN (by omega) hiN] at hh; exact hh)) ?_
          rintro e w_13 ⟨rfl, hb⟩
          refine ⟨_, rfl, ?_⟩
          intro a H
          have HP := HP.next hb
          refine ⟨.inr (HP), ?_⟩
          refine An.pure H (.inr (HP)) 13 49 (.tuple #[(.agg #[(.int .i64 0), (.int .i64 0), (.int .i64 0), (.int .i64 0), (.int .i64 0), (.bool false), (.string (bstr ([]))), (.int .i64 0), (.int .i64 0), (.string (bstr ([]))), (.int .i64 0), (.int .i64 0), (.slice none 0 0)]), (.int .i64 180)]) rfl (by kernel_rfl) (by kernel_rfl) (fun _ _ _ h => h) (fun _ => by kernel_rfl) ?_
          intro a H
          refine An.pure H (.inr (HP)) 14 63 (.agg #[(.int .i64 0), (.int .i64 0), (.int .i64 0), (.int .i64 0), (.int .i64 0), (.bool false), (.string (bstr ([]))), (.int .i64 0), (.int .i64 0), (.string (bstr ([]))), (.int .i64 0), (.int .i64 0), (.slice none 0 0)]) rfl (by kernel_rfl) (by kernel_rfl) (fun _ _ _ h => h) (fun _ => by kernel_rfl) ?_
          intro a H
          refine An.pure H (.inr (HP)) 15 64 (.int .i64 180) rfl (by kernel_rfl) (by kernel_rfl) (fun _ _ _ h => h) (fun _ => by kernel_rfl) ?_
          intro a H
          refine An.one 16 (by kernel_rfl) ?_
          refine Op.alloc H HP 13 (fun b => (.pointer (some ⟨b, 0, none⟩))) 28 [(.int .i64 0), (.int .i64 0), (.int .i64 0), (.int .i64 0), (.int .i64 0), (.bool false), (.string (bstr ([]))), (.int .i64 0), (.int .i64 0), (.string (bstr ([]))), (.int .i64 0), (.int .i64 0), (.slice none 0 0)] rfl (by kernel_rfl) (fun w => by kernel_rfl) ?_
          intro b_14 w_15 a H HP
          refine ⟨.inr ((HP.tail rfl)), ?_⟩
          refine An.one 17 (by kernel_rfl) ?_
          refine Op.store H HP 0 b_14 0 13 28 [(.int .i64 0), (.int .i64 0), (.int .i64 0), (.int .i64 0), (.int .i64 0), (.bool false), (.string (bstr ([]))), (.int .i64 0), (.int .i64 0), (.string (bstr ([]))), (.int .i64 0), (.int .i64 0), (.slice none 0 0)] true (.agg #[(.int .i64 0), (.int .i64 0), (.int .i64 0), (.int .i64 0), (.int .i64 0), (.bool false), (.string (bstr ([]))), (.int .i64 0), (.int .i64 0), (.string (bstr ([]))), (.int .i64 0), (.int .i64 0), (.slice none 0 0)]) [bx b_14 28 [(.int .i64 0), (.int .i64 0), (.int .i64 0), (.int .i64 0), (.int .i64 0), (.bool false), (.string (bstr ([]))), (.int .i64 0), (.int .i64 0), (.string (bstr ([]))), (.int .i64 0), (.int .i64 0), (.slice none 0 0)] true, bx b_1 28 [(.int .i64 u.channel), (.int .i64 u.frame), (.int .i64 u.version), (.int .i64 u.item), (.int .i64 u.index), (.bool u.key), (.string (bstr u.data)), (.int .i64 u.regions), (.int .i64 u.gain), (.string (bstr u.caption)), (.int .i64 u.os), (.int .i64 u.of), (.slice u.A u.al.length u.c)] true] rfl (by kernel_rfl) (by kernel_rfl) (by kernel_rfl) rfl (by kernel_rfl) (by kernel_rfl) (by kernel_rfl) (by kernel_rfl) (by kernel_rfl) ?_
          intro w_16 a H HP
          refine ⟨.inr ((HP.tail rfl)), ?_⟩
          refine An.pure H (.inr ((HP.tail rfl))) 18 14 (.int .i64 180) rfl (by kernel_rfl) (by kernel_rfl) (fun _ _ _ h => h) (fun _ => by kernel_rfl) ?_
          intro a H
          refine An.done (by kernel_rfl) ?_
          have H := H.keep (L' := [(14, (.int .i64 180)), (3, (.int .i64 ((k : Nat) : Int))), (48, (.int .i64 ((k : Nat) : Int))), (47, (.int .i64 ((N : Nat) : Int))), (46, (.int .i64 k0)), (2, (.int .i64 ((i : Nat) : Int))), (45, (.int .i64 ((i : Nat) : Int))), (44, (.int .i64 ((N : Nat) : Int))), (43, (.int .i64 i0)), (12, (.int .i64 ((N : Nat) : Int))), (42, (.int .i64 ((N : Nat) : Int))), (41, (.int .i64 ((lu.length : Nat) : Int))), (40, (.string (bstr lu))), (34, (.bool false)), (33, (.bool false)), (32, (.string (bstr lu))), (31, (.bool false)), (30, (.bool false)), (29, (.int .i64 0)), (10, (.string (bstr lu))), (11, (.int .i64 0)), (9, (.bool true)), (8, (.bool false)), (0, (.int .i64 c))]) (by kernel_rfl)
          refine then_normal ?_
          exact ⟨H.keep (by kernel_rfl), HP.tail rfl⟩
        · refine Op.alloc H HP 13 (fun b => (.pointer (some ⟨b, 0, none⟩))) 28 [(.int .i64 0), (.int .i64 0), (.int .i64 0), (.int .i64 0), (.int .i64 0), (.bool false), (.string (bstr ([]))), (.int .i64 0), (.int .i64 0), (.string (bstr ([]))), (.int .i64 0), (.int .i64 0), (.slice none 0 0)] rfl (by kernel_rfl) (fun w => by kernel_rfl) ?_
          intro b_17 w_18 a H HP
          refine ⟨.inr ((HP.tail rfl)), ?_⟩
          refine An.one 12 (by kernel_rfl) ?_
          refine Op.call H 62 rfl (by kernel_rfl) (Eq.trans (by kernel_rfl : _ = (callFunc 22 #[(.agg #[(.int .i64 ((rateP c).1)), (.int .i64 ((rateP c).2))]), (.string (bstr ((lu.take (64 * i)) ++ (lu.drop (64 * i + 64)))))]).run Tryd.prog w_18) (Tryd.call22 _ _)) ((by have hh := unpack_any (rateP c).1 (rateP c).2 (lu.take (64 * i) ++ lu.drop (64 * i + 64)) w_18 (hL.below (HP.below (by kernel_rfl))) (by simp only [List.length_append, List.length_take, List.length_drop]; omega); rw [missing_law (hZu none 0) hN (by omega) hiN] at hh; exact hh)) ?_
          rintro e w_19 ⟨rfl, hb⟩
          refine ⟨_, rfl, ?_⟩
          intro a H
          have HP := HP.next hb
          refine ⟨.inr ((HP.tail rfl)), ?_⟩
          refine An.pure H (.inr ((HP.tail rfl))) 13 49 (.tuple #[(.agg #[(.int .i64 0), (.int .i64 0), (.int .i64 0), (.int .i64 0), (.int .i64 0), (.bool false), (.string (bstr ([]))), (.int .i64 0), (.int .i64 0), (.string (bstr ([]))), (.int .i64 0), (.int .i64 0), (.slice none 0 0)]), (.int .i64 180)]) rfl (by kernel_rfl) (by kernel_rfl) (fun _ _ _ h => h) (fun _ => by kernel_rfl) ?_
          intro a H
          refine An.pure H (.inr ((HP.tail rfl))) 14 63 (.agg #[(.int .i64 0), (.int .i64 0), (.int .i64 0), (.int .i64 0), (.int .i64 0), (.bool false), (.string (bstr ([]))), (.int .i64 0), (.int .i64 0), (.string (bstr ([]))), (.int .i64 0), (.int .i64 0), (.slice none 0 0)]) rfl (by kernel_rfl) (by kernel_rfl) (fun _ _ _ h => h) (fun _ => by kernel_rfl) ?_
          intro a H
          refine An.pure H (.inr ((HP.tail rfl))) 15 64 (.int .i64 180) rfl (by kernel_rfl) (by kernel_rfl) (fun _ _ _ h => h) (fun _ => by kernel_rfl) ?_
          intro a H
          refine An.one 17 (by kernel_rfl) ?_
          refine Op.store H HP 0 b_17 0 13 28 [(.int .i64 0), (.int .i64 0), (.int .i64 0), (.int .i64 0), (.int .i64 0), (.bool false), (.string (bstr ([]))), (.int .i64 0), (.int .i64 0), (.string (bstr ([]))), (.int .i64 0), (.int .i64 0), (.slice none 0 0)] true (.agg #[(.int .i64 0), (.int .i64 0), (.int .i64 0), (.int .i64 0), (.int .i64 0), (.bool false), (.string (bstr ([]))), (.int .i64 0), (.int .i64 0), (.string (bstr ([]))), (.int .i64 0), (.int .i64 0), (.slice none 0 0)]) [bx b_17 28 [(.int .i64 0), (.int .i64 0), (.int .i64 0), (.int .i64 0), (.int .i64 0), (.bool false), (.string (bstr ([]))), (.int .i64 0), (.int .i64 0), (.string (bstr ([]))), (.int .i64 0), (.int .i64 0), (.slice none 0 0)] true, bx b_1 28 [(.int .i64 u.channel), (.int .i64 u.frame), (.int .i64 u.version), (.int .i64 u.item), (.int .i64 u.index), (.bool u.key), (.string (bstr u.data)), (.int .i64 u.regions), (.int .i64 u.gain), (.string (bstr u.caption)), (.int .i64 u.os), (.int .i64 u.of), (.slice u.A u.al.length u.c)] true] rfl (by kernel_rfl) (by kernel_rfl) (by kernel_rfl) rfl (by kernel_rfl) (by kernel_rfl) (by kernel_rfl) (by kernel_rfl) (by kernel_rfl) ?_
          intro w_20 a H HP
          refine ⟨.inr ((HP.tail rfl)), ?_⟩
          refine An.pure H (.inr ((HP.tail rfl))) 18 14 (.int .i64 180) rfl (by kernel_rfl) (by kernel_rfl) (fun _ _ _ h => h) (fun _ => by kernel_rfl) ?_
          intro a H
          refine An.done (by kernel_rfl) ?_
          have H := H.keep (L' := [(14, (.int .i64 180)), (3, (.int .i64 ((k : Nat) : Int))), (48, (.int .i64 ((k : Nat) : Int))), (47, (.int .i64 ((N : Nat) : Int))), (46, (.int .i64 k0)), (2, (.int .i64 ((i : Nat) : Int))), (45, (.int .i64 ((i : Nat) : Int))), (44, (.int .i64 ((N : Nat) : Int))), (43, (.int .i64 i0)), (12, (.int .i64 ((N : Nat) : Int))), (42, (.int .i64 ((N : Nat) : Int))), (41, (.int .i64 ((lu.length : Nat) : Int))), (40, (.string (bstr lu))), (34, (.bool false)), (33, (.bool false)), (32, (.string (bstr lu))), (31, (.bool false)), (30, (.bool false)), (29, (.int .i64 0)), (10, (.string (bstr lu))), (11, (.int .i64 0)), (9, (.bool true)), (8, (.bool false)), (0, (.int .i64 c))]) (by kernel_rfl)
          refine then_normal ?_
          exact ⟨H.keep (by kernel_rfl), HP.tail rfl⟩
      · refine Op.alloc H HP 13 (fun b => (.pointer (some ⟨b, 0, none⟩))) 28 [(.int .i64 0), (.int .i64 0), (.int .i64 0), (.int .i64 0), (.int .i64 0), (.bool false), (.string (bstr ([]))), (.int .i64 0), (.int .i64 0), (.string (bstr ([]))), (.int .i64 0), (.int .i64 0), (.slice none 0 0)] rfl (by kernel_rfl) (fun w => by kernel_rfl) ?_
        intro b_21 w_22 a H HP
        refine ⟨.inr ((HP.tail rfl)), ?_⟩
        refine An.one 1 (by kernel_rfl) ?_
        refine Op.call H 51 rfl (by kernel_rfl) (Eq.trans (by kernel_rfl : _ = (callFunc 14 #[(.int .i64 c)]).run Tryd.prog w_22) (Tryd.call14 _ _)) (rate_any c w_22 hc) ?_
        rintro e w_23 ⟨rfl, hb⟩
        refine ⟨_, rfl, ?_⟩
        intro a H
        have HP := HP.next hb
        refine ⟨.inr ((HP.tail rfl)), ?_⟩
        refine An.one 12 (by kernel_rfl) ?_
        refine Op.call H 62 rfl (by kernel_rfl) (Eq.trans (by kernel_rfl : _ = (callFunc 22 #[(.agg #[(.int .i64 ((rateP c).1)), (.int .i64 ((rateP c).2))]), (.string (bstr ((lu.take (64 * i)) ++ (lu.drop (64 * i + 64)))))]).run Tryd.prog w_23) (Tryd.call22 _ _)) ((by have hh := unpack_any (rateP c).1 (rateP c).2 (lu.take (64 * i) ++ lu.drop (64 * i + 64)) w_23 (hL.below (HP.below (by kernel_rfl))) (by simp only [List.length_append, List.length_take, List.length_drop]; omega); rw [missing_law (hZu none 0) hN (by omega) hiN] at hh; exact hh)) ?_
        rintro e w_24 ⟨rfl, hb⟩
        refine ⟨_, rfl, ?_⟩
        intro a H
        have HP := HP.next hb
        refine ⟨.inr ((HP.tail rfl)), ?_⟩
        refine An.pure H (.inr ((HP.tail rfl))) 13 49 (.tuple #[(.agg #[(.int .i64 0), (.int .i64 0), (.int .i64 0), (.int .i64 0), (.int .i64 0), (.bool false), (.string (bstr ([]))), (.int .i64 0), (.int .i64 0), (.string (bstr ([]))), (.int .i64 0), (.int .i64 0), (.slice none 0 0)]), (.int .i64 180)]) rfl (by kernel_rfl) (by kernel_rfl) (fun _ _ _ h => h) (fun _ => by kernel_rfl) ?_
        intro a H
        refine An.pure H (.inr ((HP.tail rfl))) 14 63 (.agg #[(.int .i64 0), (.int .i64 0), (.int .i64 0), (.int .i64 0), (.int .i64 0), (.bool false), (.string (bstr ([]))), (.int .i64 0), (.int .i64 0), (.string (bstr ([]))), (.int .i64 0), (.int .i64 0), (.slice none 0 0)]) rfl (by kernel_rfl) (by kernel_rfl) (fun _ _ _ h => h) (fun _ => by kernel_rfl) ?_
        intro a H
        refine An.pure H (.inr ((HP.tail rfl))) 15 64 (.int .i64 180) rfl (by kernel_rfl) (by kernel_rfl) (fun _ _ _ h => h) (fun _ => by kernel_rfl) ?_
        intro a H
        refine An.one 17 (by kernel_rfl) ?_
        refine Op.store H HP 0 b_21 0 13 28 [(.int .i64 0), (.int .i64 0), (.int .i64 0), (.int .i64 0), (.int .i64 0), (.bool false), (.string (bstr ([]))), (.int .i64 0), (.int .i64 0), (.string (bstr ([]))), (.int .i64 0), (.int .i64 0), (.slice none 0 0)] true (.agg #[(.int .i64 0), (.int .i64 0), (.int .i64 0), (.int .i64 0), (.int .i64 0), (.bool false), (.string (bstr ([]))), (.int .i64 0), (.int .i64 0), (.string (bstr ([]))), (.int .i64 0), (.int .i64 0), (.slice none 0 0)]) [bx b_21 28 [(.int .i64 0), (.int .i64 0), (.int .i64 0), (.int .i64 0), (.int .i64 0), (.bool false), (.string (bstr ([]))), (.int .i64 0), (.int .i64 0), (.string (bstr ([]))), (.int .i64 0), (.int .i64 0), (.slice none 0 0)] true, bx b_1 28 [(.int .i64 u.channel), (.int .i64 u.frame), (.int .i64 u.version), (.int .i64 u.item), (.int .i64 u.index), (.bool u.key), (.string (bstr u.data)), (.int .i64 u.regions), (.int .i64 u.gain), (.string (bstr u.caption)), (.int .i64 u.os), (.int .i64 u.of), (.slice u.A u.al.length u.c)] true] rfl (by kernel_rfl) (by kernel_rfl) (by kernel_rfl) rfl (by kernel_rfl) (by kernel_rfl) (by kernel_rfl) (by kernel_rfl) (by kernel_rfl) ?_
        intro w_25 a H HP
        refine ⟨.inr ((HP.tail rfl)), ?_⟩
        refine An.pure H (.inr ((HP.tail rfl))) 18 14 (.int .i64 180) rfl (by kernel_rfl) (by kernel_rfl) (fun _ _ _ h => h) (fun _ => by kernel_rfl) ?_
        intro a H
        refine An.done (by kernel_rfl) ?_
        have H := H.keep (L' := [(14, (.int .i64 180)), (3, (.int .i64 ((k : Nat) : Int))), (48, (.int .i64 ((k : Nat) : Int))), (47, (.int .i64 ((N : Nat) : Int))), (46, (.int .i64 k0)), (2, (.int .i64 ((i : Nat) : Int))), (45, (.int .i64 ((i : Nat) : Int))), (44, (.int .i64 ((N : Nat) : Int))), (43, (.int .i64 i0)), (12, (.int .i64 ((N : Nat) : Int))), (42, (.int .i64 ((N : Nat) : Int))), (41, (.int .i64 ((lu.length : Nat) : Int))), (40, (.string (bstr lu))), (34, (.bool false)), (33, (.bool false)), (32, (.string (bstr lu))), (31, (.bool false)), (30, (.bool false)), (29, (.int .i64 0)), (10, (.string (bstr lu))), (11, (.int .i64 0)), (9, (.bool true)), (8, (.bool false)), (0, (.int .i64 c))]) (by kernel_rfl)
        refine then_normal ?_
        exact ⟨H.keep (by kernel_rfl), HP.tail rfl⟩
    ·
      rintro a w_26 ⟨H, HP⟩
      refine w_cut (fun a wv => Sl 136 [(16, (.int .i64 180)), (14, (.int .i64 180)), (3, (.int .i64 ((k : Nat) : Int))), (2, (.int .i64 ((i : Nat) : Int))), (34, (.bool false)), (10, (.string (bstr lu))), (9, (.bool true)), (8, (.bool false)), (0, (.int .i64 c))] a ∧ Hp w wv [bx b_1 28 [(.int .i64 u.channel), (.int .i64 u.frame), (.int .i64 u.version), (.int .i64 u.item), (.int .i64 u.index), (.bool u.key), (.string (bstr u.data)), (.int .i64 u.regions), (.int .i64 u.gain), (.string (bstr u.caption)), (.int .i64 u.os), (.int .i64 u.of), (.slice u.A u.al.length u.c)] true] []) ?_ ?_
      ·
        refine An.start (fun v => Hp w v [bx b_1 28 [(.int .i64 u.channel), (.int .i64 u.frame), (.int .i64 u.version), (.int .i64 u.item), (.int .i64 u.index), (.bool u.key), (.string (bstr u.data)), (.int .i64 u.regions), (.int .i64 u.gain), (.string (bstr u.caption)), (.int .i64 u.os), (.int .i64 u.of), (.slice u.A u.al.length u.c)] true] []) 19 19 HP wide_follows rfl ?_
        intro w_27 HP
        refine An.pure H (.inr (HP)) 0 66 (.int .i64 c) rfl (by kernel_rfl) (by kernel_rfl) (fun _ _ _ h => h) (fun _ => by kernel_rfl) ?_
        intro a H
        refine An.pure H (.inr (HP)) 2 68 (.string (bstr lu)) rfl (by kernel_rfl) (by kernel_rfl) (fun _ _ _ h => h) (fun _ => by kernel_rfl) ?_
        intro a H
        refine An.pure H (.inr (HP)) 3 69 (.int .i64 ((i : Nat) : Int)) rfl (by kernel_rfl) (by kernel_rfl) (fun _ _ _ h => h) (fun _ => by kernel_rfl) ?_
        intro a H
        refine An.pureE H (.inr (HP)) 4 70 (.int .i64 (IntKind.i64.wrap (64 * ((i : Nat) : Int)))) (.int .i64 ((64 * i : Nat) : Int)) rfl (by kernel_rfl) (by kernel_rfl) (fun _ _ _ h => h) (fun _ => by kernel_rfl) ((by rw [wrap_ini64 _ (by omega)]; exact congrArg (Value.int .i64) (by omega))) ?_
        intro a H
        refine An.pureE H (.inr (HP)) 5 71 (.int .i64 (IntKind.i64.wrap (((64 * i : Nat) : Int) + 64))) (.int .i64 ((64 * i + 64 : Nat) : Int)) rfl (by kernel_rfl) (by kernel_rfl) (fun _ _ _ h => h) (fun _ => by kernel_rfl) ((by rw [wrap_ini64 _ (by omega)]; exact congrArg (Value.int .i64) (by omega))) ?_
        intro a H
        refine An.pure H (.inr (HP)) 6 72 (.string (bstr (lu.take (64 * i + 64)))) rfl (by kernel_rfl) (by kernel_rfl) (fun _ _ _ h => h) (fun _ => ex_ssliceH (kk := .i64) (l := lu) (j := ((64 * i + 64 : Nat) : Int)) (b := (64 * i + 64)) (by kernel_rfl) (by kernel_rfl) (by kernel_rfl) (by omega) (by omega)) ?_
        intro a H
        refine An.pure H (.inr (HP)) 7 73 (.string (bstr lu)) rfl (by kernel_rfl) (by kernel_rfl) (fun _ _ _ h => h) (fun _ => by kernel_rfl) ?_
        intro a H
        refine An.pure H (.inr (HP)) 8 74 (.int .i64 ((i : Nat) : Int)) rfl (by kernel_rfl) (by kernel_rfl) (fun _ _ _ h => h) (fun _ => by kernel_rfl) ?_
        intro a H
        refine An.pureE H (.inr (HP)) 9 75 (.int .i64 (IntKind.i64.wrap (64 * ((i : Nat) : Int)))) (.int .i64 ((64 * i : Nat) : Int)) rfl (by kernel_rfl) (by kernel_rfl) (fun _ _ _ h => h) (fun _ => by kernel_rfl) ((by rw [wrap_ini64 _ (by omega)]; exact congrArg (Value.int .i64) (by omega))) ?_
        intro a H
        refine An.pure H (.inr (HP)) 10 76 (.string (bstr (lu.drop (64 * i)))) rfl (by kernel_rfl) (by kernel_rfl) (fun _ _ _ h => h) (fun _ => ex_ssliceL (k := .i64) (l := lu) (i := ((64 * i : Nat) : Int)) (a := (64 * i)) (by kernel_rfl) (by kernel_rfl) (by kernel_rfl) (by omega) (by omega)) ?_
        intro a H
        refine An.pure H (.inr (HP)) 11 77 (.string (bstr ((lu.take (64 * i + 64)) ++ (lu.drop (64 * i))))) rfl (by kernel_rfl) (by kernel_rfl) (fun _ _ _ h => h) (fun _ => ex_sadd (by kernel_rfl) (by kernel_rfl) (by first | omega | (simp only [List.length_take, List.length_drop]; omega))) ?_
        intro a H
        refine An.two 1 16 (by kernel_rfl) ?_ ?_
        · refine Op.call H 67 rfl (by kernel_rfl) (Eq.trans (by kernel_rfl : _ = (callFunc 14 #[(.int .i64 c)]).run Tryd.prog w_27) (Tryd.call14 _ _)) (rate_any c w_27 hc) ?_
          rintro e w_28 ⟨rfl, hb⟩
          refine ⟨_, rfl, ?_⟩
          intro a H
          have HP := HP.next hb
          refine ⟨.inr (HP), ?_⟩
          refine An.two 12 16 (by kernel_rfl) ?_ ?_
          · refine Op.call H 78 rfl (by kernel_rfl) (Eq.trans (by kernel_rfl : _ = (callFunc 22 #[(.agg #[(.int .i64 ((rateP c).1)), (.int .i64 ((rateP c).2))]), (.string (bstr ((lu.take (64 * i + 64)) ++ (lu.drop (64 * i)))))]).run Tryd.prog w_28) (Tryd.call22 _ _)) ((by have hh := unpack_any (rateP c).1 (rateP c).2 (lu.take (64 * i + 64) ++ lu.drop (64 * i)) w_28 (hL.below (HP.below (by kernel_rfl))) (by simp only [List.length_append, List.length_take, List.length_drop]; omega); rw [repeated_law (hZu none 0) hN (by omega) hiN] at hh; exact hh)) ?_
            rintro e w_29 ⟨rfl, hb⟩
            refine ⟨_, rfl, ?_⟩
            intro a H
            have HP := HP.next hb
            refine ⟨.inr (HP), ?_⟩
            refine An.pure H (.inr (HP)) 13 65 (.tuple #[(.agg #[(.int .i64 0), (.int .i64 0), (.int .i64 0), (.int .i64 0), (.int .i64 0), (.bool false), (.string (bstr ([]))), (.int .i64 0), (.int .i64 0), (.string (bstr ([]))), (.int .i64 0), (.int .i64 0), (.slice none 0 0)]), (.int .i64 180)]) rfl (by kernel_rfl) (by kernel_rfl) (fun _ _ _ h => h) (fun _ => by kernel_rfl) ?_
            intro a H
            refine An.pure H (.inr (HP)) 14 79 (.agg #[(.int .i64 0), (.int .i64 0), (.int .i64 0), (.int .i64 0), (.int .i64 0), (.bool false), (.string (bstr ([]))), (.int .i64 0), (.int .i64 0), (.string (bstr ([]))), (.int .i64 0), (.int .i64 0), (.slice none 0 0)]) rfl (by kernel_rfl) (by kernel_rfl) (fun _ _ _ h => h) (fun _ => by kernel_rfl) ?_
            intro a H
            refine An.pure H (.inr (HP)) 15 80 (.int .i64 180) rfl (by kernel_rfl) (by kernel_rfl) (fun _ _ _ h => h) (fun _ => by kernel_rfl) ?_
            intro a H
            refine An.one 16 (by kernel_rfl) ?_
            refine Op.alloc H HP 15 (fun b => (.pointer (some ⟨b, 0, none⟩))) 28 [(.int .i64 0), (.int .i64 0), (.int .i64 0), (.int .i64 0), (.int .i64 0), (.bool false), (.string (bstr ([]))), (.int .i64 0), (.int .i64 0), (.string (bstr ([]))), (.int .i64 0), (.int .i64 0), (.slice none 0 0)] rfl (by kernel_rfl) (fun w => by kernel_rfl) ?_
            intro b_30 w_31 a H HP
            refine ⟨.inr ((HP.tail rfl)), ?_⟩
            refine An.one 17 (by kernel_rfl) ?_
            refine Op.store H HP 0 b_30 0 13 28 [(.int .i64 0), (.int .i64 0), (.int .i64 0), (.int .i64 0), (.int .i64 0), (.bool false), (.string (bstr ([]))), (.int .i64 0), (.int .i64 0), (.string (bstr ([]))), (.int .i64 0), (.int .i64 0), (.slice none 0 0)] true (.agg #[(.int .i64 0), (.int .i64 0), (.int .i64 0), (.int .i64 0), (.int .i64 0), (.bool false), (.string (bstr ([]))), (.int .i64 0), (.int .i64 0), (.string (bstr ([]))), (.int .i64 0), (.int .i64 0), (.slice none 0 0)]) [bx b_30 28 [(.int .i64 0), (.int .i64 0), (.int .i64 0), (.int .i64 0), (.int .i64 0), (.bool false), (.string (bstr ([]))), (.int .i64 0), (.int .i64 0), (.string (bstr ([]))), (.int .i64 0), (.int .i64 0), (.slice none 0 0)] true, bx b_1 28 [(.int .i64 u.channel), (.int .i64 u.frame), (.int .i64 u.version), (.int .i64 u.item), (.int .i64 u.index), (.bool u.key), (.string (bstr u.data)), (.int .i64 u.regions), (.int .i64 u.gain), (.string (bstr u.caption)), (.int .i64 u.os), (.int .i64 u.of), (.slice u.A u.al.length u.c)] true] rfl (by kernel_rfl) (by kernel_rfl) (by kernel_rfl) rfl (by kernel_rfl) (by kernel_rfl) (by kernel_rfl) (by kernel_rfl) (by kernel_rfl) ?_
            intro w_32 a H HP
            refine ⟨.inr ((HP.tail rfl)), ?_⟩
            refine An.pure H (.inr ((HP.tail rfl))) 18 16 (.int .i64 180) rfl (by kernel_rfl) (by kernel_rfl) (fun _ _ _ h => h) (fun _ => by kernel_rfl) ?_
            intro a H
            refine An.done (by kernel_rfl) ?_
            have H := H.keep (L' := [(16, (.int .i64 180)), (14, (.int .i64 180)), (3, (.int .i64 ((k : Nat) : Int))), (2, (.int .i64 ((i : Nat) : Int))), (34, (.bool false)), (10, (.string (bstr lu))), (9, (.bool true)), (8, (.bool false)), (0, (.int .i64 c))]) (by kernel_rfl)
            refine then_normal ?_
            exact ⟨H.keep (by kernel_rfl), HP.tail rfl⟩
          · refine Op.alloc H HP 15 (fun b => (.pointer (some ⟨b, 0, none⟩))) 28 [(.int .i64 0), (.int .i64 0), (.int .i64 0), (.int .i64 0), (.int .i64 0), (.bool false), (.string (bstr ([]))), (.int .i64 0), (.int .i64 0), (.string (bstr ([]))), (.int .i64 0), (.int .i64 0), (.slice none 0 0)] rfl (by kernel_rfl) (fun w => by kernel_rfl) ?_
            intro b_33 w_34 a H HP
            refine ⟨.inr ((HP.tail rfl)), ?_⟩
            refine An.one 12 (by kernel_rfl) ?_
            refine Op.call H 78 rfl (by kernel_rfl) (Eq.trans (by kernel_rfl : _ = (callFunc 22 #[(.agg #[(.int .i64 ((rateP c).1)), (.int .i64 ((rateP c).2))]), (.string (bstr ((lu.take (64 * i + 64)) ++ (lu.drop (64 * i)))))]).run Tryd.prog w_34) (Tryd.call22 _ _)) ((by have hh := unpack_any (rateP c).1 (rateP c).2 (lu.take (64 * i + 64) ++ lu.drop (64 * i)) w_34 (hL.below (HP.below (by kernel_rfl))) (by simp only [List.length_append, List.length_take, List.length_drop]; omega); rw [repeated_law (hZu none 0) hN (by omega) hiN] at hh; exact hh)) ?_
            rintro e w_35 ⟨rfl, hb⟩
            refine ⟨_, rfl, ?_⟩
            intro a H
            have HP := HP.next hb
            refine ⟨.inr ((HP.tail rfl)), ?_⟩
            refine An.pure H (.inr ((HP.tail rfl))) 13 65 (.tuple #[(.agg #[(.int .i64 0), (.int .i64 0), (.int .i64 0), (.int .i64 0), (.int .i64 0), (.bool false), (.string (bstr ([]))), (.int .i64 0), (.int .i64 0), (.string (bstr ([]))), (.int .i64 0), (.int .i64 0), (.slice none 0 0)]), (.int .i64 180)]) rfl (by kernel_rfl) (by kernel_rfl) (fun _ _ _ h => h) (fun _ => by kernel_rfl) ?_
            intro a H
            refine An.pure H (.inr ((HP.tail rfl))) 14 79 (.agg #[(.int .i64 0), (.int .i64 0), (.int .i64 0), (.int .i64 0), (.int .i64 0), (.bool false), (.string (bstr ([]))), (.int .i64 0), (.int .i64 0), (.string (bstr ([]))), (.int .i64 0), (.int .i64 0), (.slice none 0 0)]) rfl (by kernel_rfl) (by kernel_rfl) (fun _ _ _ h => h) (fun _ => by kernel_rfl) ?_
            intro a H
            refine An.pure H (.inr ((HP.tail rfl))) 15 80 (.int .i64 180) rfl (by kernel_rfl) (by kernel_rfl) (fun _ _ _ h => h) (fun _ => by kernel_rfl) ?_
            intro a H
            refine An.one 17 (by kernel_rfl) ?_
            refine Op.store H HP 0 b_33 0 13 28 [(.int .i64 0), (.int .i64 0), (.int .i64 0), (.int .i64 0), (.int .i64 0), (.bool false), (.string (bstr ([]))), (.int .i64 0), (.int .i64 0), (.string (bstr ([]))), (.int .i64 0), (.int .i64 0), (.slice none 0 0)] true (.agg #[(.int .i64 0), (.int .i64 0), (.int .i64 0), (.int .i64 0), (.int .i64 0), (.bool false), (.string (bstr ([]))), (.int .i64 0), (.int .i64 0), (.string (bstr ([]))), (.int .i64 0), (.int .i64 0), (.slice none 0 0)]) [bx b_33 28 [(.int .i64 0), (.int .i64 0), (.int .i64 0), (.int .i64 0), (.int .i64 0), (.bool false), (.string (bstr ([]))), (.int .i64 0), (.int .i64 0), (.string (bstr ([]))), (.int .i64 0), (.int .i64 0), (.slice none 0 0)] true, bx b_1 28 [(.int .i64 u.channel), (.int .i64 u.frame), (.int .i64 u.version), (.int .i64 u.item), (.int .i64 u.index), (.bool u.key), (.string (bstr u.data)), (.int .i64 u.regions), (.int .i64 u.gain), (.string (bstr u.caption)), (.int .i64 u.os), (.int .i64 u.of), (.slice u.A u.al.length u.c)] true] rfl (by kernel_rfl) (by kernel_rfl) (by kernel_rfl) rfl (by kernel_rfl) (by kernel_rfl) (by kernel_rfl) (by kernel_rfl) (by kernel_rfl) ?_
            intro w_36 a H HP
            refine ⟨.inr ((HP.tail rfl)), ?_⟩
            refine An.pure H (.inr ((HP.tail rfl))) 18 16 (.int .i64 180) rfl (by kernel_rfl) (by kernel_rfl) (fun _ _ _ h => h) (fun _ => by kernel_rfl) ?_
            intro a H
            refine An.done (by kernel_rfl) ?_
            have H := H.keep (L' := [(16, (.int .i64 180)), (14, (.int .i64 180)), (3, (.int .i64 ((k : Nat) : Int))), (2, (.int .i64 ((i : Nat) : Int))), (34, (.bool false)), (10, (.string (bstr lu))), (9, (.bool true)), (8, (.bool false)), (0, (.int .i64 c))]) (by kernel_rfl)
            refine then_normal ?_
            exact ⟨H.keep (by kernel_rfl), HP.tail rfl⟩
        · refine Op.alloc H HP 15 (fun b => (.pointer (some ⟨b, 0, none⟩))) 28 [(.int .i64 0), (.int .i64 0), (.int .i64 0), (.int .i64 0), (.int .i64 0), (.bool false), (.string (bstr ([]))), (.int .i64 0), (.int .i64 0), (.string (bstr ([]))), (.int .i64 0), (.int .i64 0), (.slice none 0 0)] rfl (by kernel_rfl) (fun w => by kernel_rfl) ?_
          intro b_37 w_38 a H HP
          refine ⟨.inr ((HP.tail rfl)), ?_⟩
          refine An.one 1 (by kernel_rfl) ?_
          refine Op.call H 67 rfl (by kernel_rfl) (Eq.trans (by kernel_rfl : _ = (callFunc 14 #[(.int .i64 c)]).run Tryd.prog w_38) (Tryd.call14 _ _)) (rate_any c w_38 hc) ?_
          rintro e w_39 ⟨rfl, hb⟩
          refine ⟨_, rfl, ?_⟩
          intro a H
          have HP := HP.next hb
          refine ⟨.inr ((HP.tail rfl)), ?_⟩
          refine An.one 12 (by kernel_rfl) ?_
          refine Op.call H 78 rfl (by kernel_rfl) (Eq.trans (by kernel_rfl : _ = (callFunc 22 #[(.agg #[(.int .i64 ((rateP c).1)), (.int .i64 ((rateP c).2))]), (.string (bstr ((lu.take (64 * i + 64)) ++ (lu.drop (64 * i)))))]).run Tryd.prog w_39) (Tryd.call22 _ _)) ((by have hh := unpack_any (rateP c).1 (rateP c).2 (lu.take (64 * i + 64) ++ lu.drop (64 * i)) w_39 (hL.below (HP.below (by kernel_rfl))) (by simp only [List.length_append, List.length_take, List.length_drop]; omega); rw [repeated_law (hZu none 0) hN (by omega) hiN] at hh; exact hh)) ?_
          rintro e w_40 ⟨rfl, hb⟩
          refine ⟨_, rfl, ?_⟩
          intro a H
          have HP := HP.next hb
          refine ⟨.inr ((HP.tail rfl)), ?_⟩
          refine An.pure H (.inr ((HP.tail rfl))) 13 65 (.tuple #[(.agg #[(.int .i64 0), (.int .i64 0), (.int .i64 0), (.int .i64 0), (.int .i64 0), (.bool false), (.string (bstr ([]))), (.int .i64 0), (.int .i64 0), (.string (bstr ([]))), (.int .i64 0), (.int .i64 0), (.slice none 0 0)]), (.int .i64 180)]) rfl (by kernel_rfl) (by kernel_rfl) (fun _ _ _ h => h) (fun _ => by kernel_rfl) ?_
          intro a H
          refine An.pure H (.inr ((HP.tail rfl))) 14 79 (.agg #[(.int .i64 0), (.int .i64 0), (.int .i64 0), (.int .i64 0), (.int .i64 0), (.bool false), (.string (bstr ([]))), (.int .i64 0), (.int .i64 0), (.string (bstr ([]))), (.int .i64 0), (.int .i64 0), (.slice none 0 0)]) rfl (by kernel_rfl) (by kernel_rfl) (fun _ _ _ h => h) (fun _ => by kernel_rfl) ?_
          intro a H
          refine An.pure H (.inr ((HP.tail rfl))) 15 80 (.int .i64 180) rfl (by kernel_rfl) (by kernel_rfl) (fun _ _ _ h => h) (fun _ => by kernel_rfl) ?_
          intro a H
          refine An.one 17 (by kernel_rfl) ?_
          refine Op.store H HP 0 b_37 0 13 28 [(.int .i64 0), (.int .i64 0), (.int .i64 0), (.int .i64 0), (.int .i64 0), (.bool false), (.string (bstr ([]))), (.int .i64 0), (.int .i64 0), (.string (bstr ([]))), (.int .i64 0), (.int .i64 0), (.slice none 0 0)] true (.agg #[(.int .i64 0), (.int .i64 0), (.int .i64 0), (.int .i64 0), (.int .i64 0), (.bool false), (.string (bstr ([]))), (.int .i64 0), (.int .i64 0), (.string (bstr ([]))), (.int .i64 0), (.int .i64 0), (.slice none 0 0)]) [bx b_37 28 [(.int .i64 0), (.int .i64 0), (.int .i64 0), (.int .i64 0), (.int .i64 0), (.bool false), (.string (bstr ([]))), (.int .i64 0), (.int .i64 0), (.string (bstr ([]))), (.int .i64 0), (.int .i64 0), (.slice none 0 0)] true, bx b_1 28 [(.int .i64 u.channel), (.int .i64 u.frame), (.int .i64 u.version), (.int .i64 u.item), (.int .i64 u.index), (.bool u.key), (.string (bstr u.data)), (.int .i64 u.regions), (.int .i64 u.gain), (.string (bstr u.caption)), (.int .i64 u.os), (.int .i64 u.of), (.slice u.A u.al.length u.c)] true] rfl (by kernel_rfl) (by kernel_rfl) (by kernel_rfl) rfl (by kernel_rfl) (by kernel_rfl) (by kernel_rfl) (by kernel_rfl) (by kernel_rfl) ?_
          intro w_41 a H HP
          refine ⟨.inr ((HP.tail rfl)), ?_⟩
          refine An.pure H (.inr ((HP.tail rfl))) 18 16 (.int .i64 180) rfl (by kernel_rfl) (by kernel_rfl) (fun _ _ _ h => h) (fun _ => by kernel_rfl) ?_
          intro a H
          refine An.done (by kernel_rfl) ?_
          have H := H.keep (L' := [(16, (.int .i64 180)), (14, (.int .i64 180)), (3, (.int .i64 ((k : Nat) : Int))), (2, (.int .i64 ((i : Nat) : Int))), (34, (.bool false)), (10, (.string (bstr lu))), (9, (.bool true)), (8, (.bool false)), (0, (.int .i64 c))]) (by kernel_rfl)
          refine then_normal ?_
          exact ⟨H.keep (by kernel_rfl), HP.tail rfl⟩
      ·
        rintro a w_42 ⟨H, HP⟩
        refine wp_seq ?_
        refine wp_seq ?_
        refine w_region ?_
        refine H.val 81 (.int .i64 180) (by kernel_rfl) (by kernel_rfl) ?_
        intro a H
        refine H.val 82 (.bool false) (by kernel_rfl) (by kernel_rfl) ?_
        intro a H
        refine H.val 83 (.bool false) (by kernel_rfl) (by kernel_rfl) ?_
        intro a H
        refine H.val 84 (.int .i64 180) (by kernel_rfl) (by kernel_rfl) ?_
        intro a H
        refine H.val 85 (.bool false) (by kernel_rfl) (by kernel_rfl) ?_
        intro a H
        refine H.val 86 (.bool false) (by kernel_rfl) (by kernel_rfl) ?_
        intro a H
        refine wpList_nil ?_
        refine then_normal ?_
        refine w_iff H rfl ?_
        refine wp_skip ?_
        refine then_normal ?_
        refine wp_seq ?_
        refine w_region ?_
        refine H.val 87 (.string (bstr lu)) (by kernel_rfl) (by kernel_rfl) ?_
        intro a H
        refine H.s2b HP 88 lu (e := 5) (by kernel_rfl) (by kernel_rfl) (by kernel_rfl) (by kernel_rfl) (by kernel_rfl) ?_
        intro bb_43 cap_44 w_45 a hcap H HP
        refine H.val 17 (.slice (some ⟨bb_43, 0, none⟩) lu.length cap_44) (by kernel_rfl) (by kernel_rfl) ?_
        intro a H
        refine wpList_nil ?_
        refine then_normal ?_
        refine w_cut (fun a wv => Sl 136 [(17, (.slice (some ⟨bb_43, 0, none⟩) lu.length cap_44)), (86, (.bool false)), (3, (.int .i64 ((k : Nat) : Int))), (2, (.int .i64 ((i : Nat) : Int))), (34, (.bool false)), (10, (.string (bstr lu))), (9, (.bool true)), (8, (.bool false)), (0, (.int .i64 c))] a ∧ Hp w wv [(bytesB bb_43 5 (putPk lu lu i k) cap_44), bx b_1 28 [(.int .i64 u.channel), (.int .i64 u.frame), (.int .i64 u.version), (.int .i64 u.item), (.int .i64 u.index), (.bool u.key), (.string (bstr u.data)), (.int .i64 u.regions), (.int .i64 u.gain), (.string (bstr u.caption)), (.int .i64 u.os), (.int .i64 u.of), (.slice u.A u.al.length u.c)] true] []) ?_ ?_
        ·
          refine An.start (fun v => Hp w v [(bytesB bb_43 5 lu cap_44), bx b_1 28 [(.int .i64 u.channel), (.int .i64 u.frame), (.int .i64 u.version), (.int .i64 u.item), (.int .i64 u.index), (.bool u.key), (.string (bstr u.data)), (.int .i64 u.regions), (.int .i64 u.gain), (.string (bstr u.caption)), (.int .i64 u.os), (.int .i64 u.of), (.slice u.A u.al.length u.c)] true] []) 14 15 HP wide_follows rfl ?_
          intro w_46 HP
          refine An.pure H (.inr (HP)) 0 89 (.slice (some ⟨bb_43, 0, none⟩) lu.length cap_44) rfl (by kernel_rfl) (by kernel_rfl) (fun _ _ _ h => h) (fun _ => by kernel_rfl) ?_
          intro a H
          refine An.pure H (.inr (HP)) 1 90 (.int .i64 ((i : Nat) : Int)) rfl (by kernel_rfl) (by kernel_rfl) (fun _ _ _ h => h) (fun _ => by kernel_rfl) ?_
          intro a H
          refine An.pureE H (.inr (HP)) 2 91 (.int .i64 (IntKind.i64.wrap (64 * ((i : Nat) : Int)))) (.int .i64 ((64 * i : Nat) : Int)) rfl (by kernel_rfl) (by kernel_rfl) (fun _ _ _ h => h) (fun _ => by kernel_rfl) ((by rw [wrap_ini64 _ (by omega)]; exact congrArg (Value.int .i64) (by omega))) ?_
          intro a H
          refine An.pure H (.inr (HP)) 3 92 (.int .i64 ((i : Nat) : Int)) rfl (by kernel_rfl) (by kernel_rfl) (fun _ _ _ h => h) (fun _ => by kernel_rfl) ?_
          intro a H
          refine An.pureE H (.inr (HP)) 4 93 (.int .i64 (IntKind.i64.wrap (64 * ((i : Nat) : Int)))) (.int .i64 ((64 * i : Nat) : Int)) rfl (by kernel_rfl) (by kernel_rfl) (fun _ _ _ h => h) (fun _ => by kernel_rfl) ((by rw [wrap_ini64 _ (by omega)]; exact congrArg (Value.int .i64) (by omega))) ?_
          intro a H
          refine An.pureE H (.inr (HP)) 5 94 (.int .i64 (IntKind.i64.wrap (((64 * i : Nat) : Int) + 64))) (.int .i64 ((64 * i + 64 : Nat) : Int)) rfl (by kernel_rfl) (by kernel_rfl) (fun _ _ _ h => h) (fun _ => by kernel_rfl) ((by rw [wrap_ini64 _ (by omega)]; exact congrArg (Value.int .i64) (by omega))) ?_
          intro a H
          refine An.pure H (.inr (HP)) 6 95 (.slice (some ⟨bb_43, 0 + 64 * i, none⟩) (64 * i + 64 - 64 * i) (cap_44 - 64 * i)) rfl (by kernel_rfl) (by kernel_rfl) (fun _ _ _ h => h) (fun _ => ex_sliceLH (b := bb_43) (off := 0) (len := lu.length) (cap := cap_44) (i := 64 * i) (j := 64 * i + 64) (lo := ((64 * i : Nat) : Int)) (hi := ((64 * i + 64 : Nat) : Int)) (by kernel_rfl) (by kernel_rfl) (by kernel_rfl) (by kernel_rfl) (by kernel_rfl) rfl rfl (by omega) (by omega) (by omega)) ?_
          intro a H
          refine An.pure H (.inr (HP)) 7 96 (.string (bstr lu)) rfl (by kernel_rfl) (by kernel_rfl) (fun _ _ _ h => h) (fun _ => by kernel_rfl) ?_
          intro a H
          refine An.pure H (.inr (HP)) 8 97 (.int .i64 ((k : Nat) : Int)) rfl (by kernel_rfl) (by kernel_rfl) (fun _ _ _ h => h) (fun _ => by kernel_rfl) ?_
          intro a H
          refine An.pureE H (.inr (HP)) 9 98 (.int .i64 (IntKind.i64.wrap (64 * ((k : Nat) : Int)))) (.int .i64 ((64 * k : Nat) : Int)) rfl (by kernel_rfl) (by kernel_rfl) (fun _ _ _ h => h) (fun _ => by kernel_rfl) ((by rw [wrap_ini64 _ (by omega)]; exact congrArg (Value.int .i64) (by omega))) ?_
          intro a H
          refine An.pure H (.inr (HP)) 10 99 (.int .i64 ((k : Nat) : Int)) rfl (by kernel_rfl) (by kernel_rfl) (fun _ _ _ h => h) (fun _ => by kernel_rfl) ?_
          intro a H
          refine An.pureE H (.inr (HP)) 11 100 (.int .i64 (IntKind.i64.wrap (64 * ((k : Nat) : Int)))) (.int .i64 ((64 * k : Nat) : Int)) rfl (by kernel_rfl) (by kernel_rfl) (fun _ _ _ h => h) (fun _ => by kernel_rfl) ((by rw [wrap_ini64 _ (by omega)]; exact congrArg (Value.int .i64) (by omega))) ?_
          intro a H
          refine An.pureE H (.inr (HP)) 12 101 (.int .i64 (IntKind.i64.wrap (((64 * k : Nat) : Int) + 64))) (.int .i64 ((64 * k + 64 : Nat) : Int)) rfl (by kernel_rfl) (by kernel_rfl) (fun _ _ _ h => h) (fun _ => by kernel_rfl) ((by rw [wrap_ini64 _ (by omega)]; exact congrArg (Value.int .i64) (by omega))) ?_
          intro a H
          refine An.pure H (.inr (HP)) 13 102 (.string (bstr ((lu.drop (64 * k)).take ((64 * k + 64) - (64 * k))))) rfl (by kernel_rfl) (by kernel_rfl) (fun _ _ _ h => h) (fun _ => ex_sslice (k := .i64) (kk := .i64) (l := lu) (i := ((64 * k : Nat) : Int)) (j := ((64 * k + 64 : Nat) : Int)) (a := (64 * k)) (b := (64 * k + 64)) (by kernel_rfl) (by kernel_rfl) (by kernel_rfl) (by kernel_rfl) (by omega) (by omega) (by omega) (by omega)) ?_
          intro a H
          refine An.one 14 (by kernel_rfl) ?_
          refine Op.copyB (e := 5) H HP 0 103 bb_43 (0 + 64 * i) (64 * i + 64 - 64 * i) (cap_44 - 64 * i) cap_44 lu ((lu.drop (64 * k)).take (64 * k + 64 - 64 * k)) rfl (by kernel_rfl) (by kernel_rfl) (by kernel_rfl) (by kernel_rfl) (by kernel_rfl) (by simp only [List.length_take, List.length_drop]; omega) (by simp only [List.length_take, List.length_drop, hN]; omega) (dT := 46) (sT := 9) (ty' := 3) ?_
          intro w_47 a H HP
          have HP : Hp w w_47 [bytesB bb_43 5 (over lu (0 + 64 * i) ((lu.drop (64 * k)).take (64 * k + 64 - 64 * k))) cap_44, bx b_1 28 [(.int .i64 u.channel), (.int .i64 u.frame), (.int .i64 u.version), (.int .i64 u.item), (.int .i64 u.index), (.bool u.key), (.string (bstr u.data)), (.int .i64 u.regions), (.int .i64 u.gain), (.string (bstr u.caption)), (.int .i64 u.os), (.int .i64 u.of), (.slice u.A u.al.length u.c)] true] [] := HP
          rw [over_put hN hN hiN hkN] at HP
          refine ⟨.inl (by kernel_rfl), ?_⟩
          refine An.done (by kernel_rfl) ?_
          have H := H.keep (L' := [(17, (.slice (some ⟨bb_43, 0, none⟩) lu.length cap_44)), (88, (.slice (some ⟨bb_43, 0, none⟩) lu.length cap_44)), (87, (.string (bstr lu))), (86, (.bool false)), (85, (.bool false)), (84, (.int .i64 180)), (83, (.bool false)), (82, (.bool false)), (81, (.int .i64 180)), (16, (.int .i64 180)), (14, (.int .i64 180)), (3, (.int .i64 ((k : Nat) : Int))), (2, (.int .i64 ((i : Nat) : Int))), (34, (.bool false)), (10, (.string (bstr lu))), (9, (.bool true)), (8, (.bool false)), (0, (.int .i64 c))]) (by kernel_rfl)
          refine then_normal ?_
          exact ⟨H.keep (by kernel_rfl), HP⟩
        ·
          rintro a w_48 ⟨H, HP⟩
          refine w_cut (fun a wv => Sl 136 [(17, (.slice (some ⟨bb_43, 0, none⟩) lu.length cap_44)), (86, (.bool false)), (3, (.int .i64 ((k : Nat) : Int))), (2, (.int .i64 ((i : Nat) : Int))), (34, (.bool false)), (9, (.bool true)), (8, (.bool false)), (0, (.int .i64 c))] a ∧ Hp w wv [(bytesB bb_43 5 (putPk (putPk lu lu i k) lu k i) cap_44), bx b_1 28 [(.int .i64 u.channel), (.int .i64 u.frame), (.int .i64 u.version), (.int .i64 u.item), (.int .i64 u.index), (.bool u.key), (.string (bstr u.data)), (.int .i64 u.regions), (.int .i64 u.gain), (.string (bstr u.caption)), (.int .i64 u.os), (.int .i64 u.of), (.slice u.A u.al.length u.c)] true] []) ?_ ?_
          ·
            refine An.start (fun v => Hp w v [(bytesB bb_43 5 (putPk lu lu i k) cap_44), bx b_1 28 [(.int .i64 u.channel), (.int .i64 u.frame), (.int .i64 u.version), (.int .i64 u.item), (.int .i64 u.index), (.bool u.key), (.string (bstr u.data)), (.int .i64 u.regions), (.int .i64 u.gain), (.string (bstr u.caption)), (.int .i64 u.os), (.int .i64 u.of), (.slice u.A u.al.length u.c)] true] []) 14 15 HP wide_follows rfl ?_
            intro w_49 HP
            refine An.pure H (.inr (HP)) 0 104 (.slice (some ⟨bb_43, 0, none⟩) lu.length cap_44) rfl (by kernel_rfl) (by kernel_rfl) (fun _ _ _ h => h) (fun _ => by kernel_rfl) ?_
            intro a H
            refine An.pure H (.inr (HP)) 1 105 (.int .i64 ((k : Nat) : Int)) rfl (by kernel_rfl) (by kernel_rfl) (fun _ _ _ h => h) (fun _ => by kernel_rfl) ?_
            intro a H
            refine An.pureE H (.inr (HP)) 2 106 (.int .i64 (IntKind.i64.wrap (64 * ((k : Nat) : Int)))) (.int .i64 ((64 * k : Nat) : Int)) rfl (by kernel_rfl) (by kernel_rfl) (fun _ _ _ h => h) (fun _ => by kernel_rfl) ((by rw [wrap_ini64 _ (by omega)]; exact congrArg (Value.int .i64) (by omega))) ?_
            intro a H
            refine An.pure H (.inr (HP)) 3 107 (.int .i64 ((k : Nat) : Int)) rfl (by kernel_rfl) (by kernel_rfl) (fun _ _ _ h => h) (fun _ => by kernel_rfl) ?_
            intro a H
            refine An.pureE H (.inr (HP)) 4 108 (.int .i64 (IntKind.i64.wrap (64 * ((k : Nat) : Int)))) (.int .i64 ((64 * k : Nat) : Int)) rfl (by kernel_rfl) (by kernel_rfl) (fun _ _ _ h => h) (fun _ => by kernel_rfl) ((by rw [wrap_ini64 _ (by omega)]; exact congrArg (Value.int .i64) (by omega))) ?_
            intro a H
            refine An.pureE H (.inr (HP)) 5 109 (.int .i64 (IntKind.i64.wrap (((64 * k : Nat) : Int) + 64))) (.int .i64 ((64 * k + 64 : Nat) : Int)) rfl (by kernel_rfl) (by kernel_rfl) (fun _ _ _ h => h) (fun _ => by kernel_rfl) ((by rw [wrap_ini64 _ (by omega)]; exact congrArg (Value.int .i64) (by omega))) ?_
            intro a H
            refine An.pure H (.inr (HP)) 6 110 (.slice (some ⟨bb_43, 0 + 64 * k, none⟩) (64 * k + 64 - 64 * k) (cap_44 - 64 * k)) rfl (by kernel_rfl) (by kernel_rfl) (fun _ _ _ h => h) (fun _ => ex_sliceLH (b := bb_43) (off := 0) (len := lu.length) (cap := cap_44) (i := 64 * k) (j := 64 * k + 64) (lo := ((64 * k : Nat) : Int)) (hi := ((64 * k + 64 : Nat) : Int)) (by kernel_rfl) (by kernel_rfl) (by kernel_rfl) (by kernel_rfl) (by kernel_rfl) rfl rfl (by omega) (by omega) (by omega)) ?_
            intro a H
            refine An.pure H (.inr (HP)) 7 111 (.string (bstr lu)) rfl (by kernel_rfl) (by kernel_rfl) (fun _ _ _ h => h) (fun _ => by kernel_rfl) ?_
            intro a H
            refine An.pure H (.inr (HP)) 8 112 (.int .i64 ((i : Nat) : Int)) rfl (by kernel_rfl) (by kernel_rfl) (fun _ _ _ h => h) (fun _ => by kernel_rfl) ?_
            intro a H
            refine An.pureE H (.inr (HP)) 9 113 (.int .i64 (IntKind.i64.wrap (64 * ((i : Nat) : Int)))) (.int .i64 ((64 * i : Nat) : Int)) rfl (by kernel_rfl) (by kernel_rfl) (fun _ _ _ h => h) (fun _ => by kernel_rfl) ((by rw [wrap_ini64 _ (by omega)]; exact congrArg (Value.int .i64) (by omega))) ?_
            intro a H
            refine An.pure H (.inr (HP)) 10 114 (.int .i64 ((i : Nat) : Int)) rfl (by kernel_rfl) (by kernel_rfl) (fun _ _ _ h => h) (fun _ => by kernel_rfl) ?_
            intro a H
            refine An.pureE H (.inr (HP)) 11 115 (.int .i64 (IntKind.i64.wrap (64 * ((i : Nat) : Int)))) (.int .i64 ((64 * i : Nat) : Int)) rfl (by kernel_rfl) (by kernel_rfl) (fun _ _ _ h => h) (fun _ => by kernel_rfl) ((by rw [wrap_ini64 _ (by omega)]; exact congrArg (Value.int .i64) (by omega))) ?_
            intro a H
            refine An.pureE H (.inr (HP)) 12 116 (.int .i64 (IntKind.i64.wrap (((64 * i : Nat) : Int) + 64))) (.int .i64 ((64 * i + 64 : Nat) : Int)) rfl (by kernel_rfl) (by kernel_rfl) (fun _ _ _ h => h) (fun _ => by kernel_rfl) ((by rw [wrap_ini64 _ (by omega)]; exact congrArg (Value.int .i64) (by omega))) ?_
            intro a H
            refine An.pure H (.inr (HP)) 13 117 (.string (bstr ((lu.drop (64 * i)).take ((64 * i + 64) - (64 * i))))) rfl (by kernel_rfl) (by kernel_rfl) (fun _ _ _ h => h) (fun _ => ex_sslice (k := .i64) (kk := .i64) (l := lu) (i := ((64 * i : Nat) : Int)) (j := ((64 * i + 64 : Nat) : Int)) (a := (64 * i)) (b := (64 * i + 64)) (by kernel_rfl) (by kernel_rfl) (by kernel_rfl) (by kernel_rfl) (by omega) (by omega) (by omega) (by omega)) ?_
            intro a H
            refine An.one 14 (by kernel_rfl) ?_
            refine Op.copyB (e := 5) H HP 0 118 bb_43 (0 + 64 * k) (64 * k + 64 - 64 * k) (cap_44 - 64 * k) cap_44 (putPk lu lu i k) ((lu.drop (64 * i)).take (64 * i + 64 - 64 * i)) rfl (by kernel_rfl) (by kernel_rfl) (by kernel_rfl) (by kernel_rfl) (by kernel_rfl) (by simp only [List.length_take, List.length_drop]; omega) (by simp only [List.length_take, List.length_drop, hpl1]; omega) (dT := 46) (sT := 9) (ty' := 3) ?_
            intro w_50 a H HP
            have HP : Hp w w_50 [bytesB bb_43 5 (over (putPk lu lu i k) (0 + 64 * k) ((lu.drop (64 * i)).take (64 * i + 64 - 64 * i))) cap_44, bx b_1 28 [(.int .i64 u.channel), (.int .i64 u.frame), (.int .i64 u.version), (.int .i64 u.item), (.int .i64 u.index), (.bool u.key), (.string (bstr u.data)), (.int .i64 u.regions), (.int .i64 u.gain), (.string (bstr u.caption)), (.int .i64 u.os), (.int .i64 u.of), (.slice u.A u.al.length u.c)] true] [] := HP
            rw [over_put hpl1 hN hkN hiN] at HP
            refine ⟨.inl (by kernel_rfl), ?_⟩
            refine An.done (by kernel_rfl) ?_
            have H := H.keep (L' := [(17, (.slice (some ⟨bb_43, 0, none⟩) lu.length cap_44)), (86, (.bool false)), (3, (.int .i64 ((k : Nat) : Int))), (2, (.int .i64 ((i : Nat) : Int))), (34, (.bool false)), (10, (.string (bstr lu))), (9, (.bool true)), (8, (.bool false)), (0, (.int .i64 c))]) (by kernel_rfl)
            refine then_normal ?_
            exact ⟨H.keep (by kernel_rfl), HP⟩
          ·
            rintro a w_51 ⟨H, HP⟩
            refine w_cut (fun a wv => Sl 136 [(19, (.int .i64 180)), (86, (.bool false)), (3, (.int .i64 ((k : Nat) : Int))), (2, (.int .i64 ((i : Nat) : Int))), (34, (.bool false)), (9, (.bool true)), (8, (.bool false))] a ∧ Hp w wv [(bytesB bb_43 5 (putPk (putPk lu lu i k) lu k i) cap_44), bx b_1 28 [(.int .i64 u.channel), (.int .i64 u.frame), (.int .i64 u.version), (.int .i64 u.item), (.int .i64 u.index), (.bool u.key), (.string (bstr u.data)), (.int .i64 u.regions), (.int .i64 u.gain), (.string (bstr u.caption)), (.int .i64 u.os), (.int .i64 u.of), (.slice u.A u.al.length u.c)] true] []) ?_ ?_
            ·
              refine An.start (fun v => Hp w v [(bytesB bb_43 5 (putPk (putPk lu lu i k) lu k i) cap_44), bx b_1 28 [(.int .i64 u.channel), (.int .i64 u.frame), (.int .i64 u.version), (.int .i64 u.item), (.int .i64 u.index), (.bool u.key), (.string (bstr u.data)), (.int .i64 u.regions), (.int .i64 u.gain), (.string (bstr u.caption)), (.int .i64 u.os), (.int .i64 u.of), (.slice u.A u.al.length u.c)] true] []) 11 11 HP wide_follows rfl ?_
              intro w_52 HP
              refine An.pure H (.inr (HP)) 0 120 (.int .i64 c) rfl (by kernel_rfl) (by kernel_rfl) (fun _ _ _ h => h) (fun _ => by kernel_rfl) ?_
              intro a H
              refine An.pure H (.inr (HP)) 2 122 (.slice (some ⟨bb_43, 0, none⟩) lu.length cap_44) rfl (by kernel_rfl) (by kernel_rfl) (fun _ _ _ h => h) (fun _ => by kernel_rfl) ?_
              intro a H
              refine An.val H (HP) 3 123 (.string (bstr (putPk (putPk lu lu i k) lu k i))) rfl (by kernel_rfl) (by kernel_rfl) (fun _ _ _ h => h) (fun _ hS => ex_b2sR (l := putPk (putPk lu lu i k) lu k i) (e := 5) (m := lu.length) (c := cap_44) (by kernel_rfl) (by have hh := bytesB_rd (hS.held 0 rfl); rw [show (putPk (putPk lu lu i k) lu k i).length = lu.length by omega] at hh; exact hh) (by kernel_rfl) (by kernel_rfl) (by kernel_rfl)) ?_
              intro a H
              refine An.two 1 8 (by kernel_rfl) ?_ ?_
              · refine Op.call H 121 rfl (by kernel_rfl) (Eq.trans (by kernel_rfl : _ = (callFunc 14 #[(.int .i64 c)]).run Tryd.prog w_52) (Tryd.call14 _ _)) (rate_any c w_52 hc) ?_
                rintro e w_53 ⟨rfl, hb⟩
                refine ⟨_, rfl, ?_⟩
                intro a H
                have HP := HP.next hb
                refine ⟨.inr (HP), ?_⟩
                refine An.two 4 8 (by kernel_rfl) ?_ ?_
                · refine Op.call H 124 rfl (by kernel_rfl) (Eq.trans (by kernel_rfl : _ = (callFunc 22 #[(.agg #[(.int .i64 ((rateP c).1)), (.int .i64 ((rateP c).2))]), (.string (bstr (putPk (putPk lu lu i k) lu k i)))]).run Tryd.prog w_53) (Tryd.call22 _ _)) ((by have hh := unpack_any (rateP c).1 (rateP c).2 (putPk (putPk lu lu i k) lu k i) w_53 (hL.below (HP.below (by kernel_rfl))) (by rw [hpl2]; omega); rw [hun] at hh; exact hh)) ?_
                  rintro e w_54 ⟨rfl, hb⟩
                  refine ⟨_, rfl, ?_⟩
                  intro a H
                  have HP := HP.next hb
                  refine ⟨.inr (HP), ?_⟩
                  refine An.pure H (.inr (HP)) 5 119 (.tuple #[(.agg #[(.int .i64 0), (.int .i64 0), (.int .i64 0), (.int .i64 0), (.int .i64 0), (.bool false), (.string (bstr ([]))), (.int .i64 0), (.int .i64 0), (.string (bstr ([]))), (.int .i64 0), (.int .i64 0), (.slice none 0 0)]), (.int .i64 180)]) rfl (by kernel_rfl) (by kernel_rfl) (fun _ _ _ h => h) (fun _ => by kernel_rfl) ?_
                  intro a H
                  refine An.pure H (.inr (HP)) 6 125 (.agg #[(.int .i64 0), (.int .i64 0), (.int .i64 0), (.int .i64 0), (.int .i64 0), (.bool false), (.string (bstr ([]))), (.int .i64 0), (.int .i64 0), (.string (bstr ([]))), (.int .i64 0), (.int .i64 0), (.slice none 0 0)]) rfl (by kernel_rfl) (by kernel_rfl) (fun _ _ _ h => h) (fun _ => by kernel_rfl) ?_
                  intro a H
                  refine An.pure H (.inr (HP)) 7 126 (.int .i64 180) rfl (by kernel_rfl) (by kernel_rfl) (fun _ _ _ h => h) (fun _ => by kernel_rfl) ?_
                  intro a H
                  refine An.one 8 (by kernel_rfl) ?_
                  refine Op.alloc H HP 18 (fun b => (.pointer (some ⟨b, 0, none⟩))) 28 [(.int .i64 0), (.int .i64 0), (.int .i64 0), (.int .i64 0), (.int .i64 0), (.bool false), (.string (bstr ([]))), (.int .i64 0), (.int .i64 0), (.string (bstr ([]))), (.int .i64 0), (.int .i64 0), (.slice none 0 0)] rfl (by kernel_rfl) (fun w => by kernel_rfl) ?_
                  intro b_55 w_56 a H HP
                  refine ⟨.inr ((HP.tail rfl)), ?_⟩
                  refine An.one 9 (by kernel_rfl) ?_
                  refine Op.store H HP 0 b_55 0 13 28 [(.int .i64 0), (.int .i64 0), (.int .i64 0), (.int .i64 0), (.int .i64 0), (.bool false), (.string (bstr ([]))), (.int .i64 0), (.int .i64 0), (.string (bstr ([]))), (.int .i64 0), (.int .i64 0), (.slice none 0 0)] true (.agg #[(.int .i64 0), (.int .i64 0), (.int .i64 0), (.int .i64 0), (.int .i64 0), (.bool false), (.string (bstr ([]))), (.int .i64 0), (.int .i64 0), (.string (bstr ([]))), (.int .i64 0), (.int .i64 0), (.slice none 0 0)]) [bx b_55 28 [(.int .i64 0), (.int .i64 0), (.int .i64 0), (.int .i64 0), (.int .i64 0), (.bool false), (.string (bstr ([]))), (.int .i64 0), (.int .i64 0), (.string (bstr ([]))), (.int .i64 0), (.int .i64 0), (.slice none 0 0)] true, (bytesB bb_43 5 (putPk (putPk lu lu i k) lu k i) cap_44), bx b_1 28 [(.int .i64 u.channel), (.int .i64 u.frame), (.int .i64 u.version), (.int .i64 u.item), (.int .i64 u.index), (.bool u.key), (.string (bstr u.data)), (.int .i64 u.regions), (.int .i64 u.gain), (.string (bstr u.caption)), (.int .i64 u.os), (.int .i64 u.of), (.slice u.A u.al.length u.c)] true] rfl (by kernel_rfl) (by kernel_rfl) (by kernel_rfl) rfl (by kernel_rfl) (by kernel_rfl) (by kernel_rfl) (by kernel_rfl) (by kernel_rfl) ?_
                  intro w_57 a H HP
                  refine ⟨.inr ((HP.tail rfl)), ?_⟩
                  refine An.pure H (.inr ((HP.tail rfl))) 10 19 (.int .i64 180) rfl (by kernel_rfl) (by kernel_rfl) (fun _ _ _ h => h) (fun _ => by kernel_rfl) ?_
                  intro a H
                  refine An.done (by kernel_rfl) ?_
                  have H := H.keep (L' := [(19, (.int .i64 180)), (17, (.slice (some ⟨bb_43, 0, none⟩) lu.length cap_44)), (86, (.bool false)), (3, (.int .i64 ((k : Nat) : Int))), (2, (.int .i64 ((i : Nat) : Int))), (34, (.bool false)), (9, (.bool true)), (8, (.bool false)), (0, (.int .i64 c))]) (by kernel_rfl)
                  refine then_normal ?_
                  exact ⟨H.keep (by kernel_rfl), HP.tail rfl⟩
                · refine Op.alloc H HP 18 (fun b => (.pointer (some ⟨b, 0, none⟩))) 28 [(.int .i64 0), (.int .i64 0), (.int .i64 0), (.int .i64 0), (.int .i64 0), (.bool false), (.string (bstr ([]))), (.int .i64 0), (.int .i64 0), (.string (bstr ([]))), (.int .i64 0), (.int .i64 0), (.slice none 0 0)] rfl (by kernel_rfl) (fun w => by kernel_rfl) ?_
                  intro b_58 w_59 a H HP
                  refine ⟨.inr ((HP.tail rfl)), ?_⟩
                  refine An.one 4 (by kernel_rfl) ?_
                  refine Op.call H 124 rfl (by kernel_rfl) (Eq.trans (by kernel_rfl : _ = (callFunc 22 #[(.agg #[(.int .i64 ((rateP c).1)), (.int .i64 ((rateP c).2))]), (.string (bstr (putPk (putPk lu lu i k) lu k i)))]).run Tryd.prog w_59) (Tryd.call22 _ _)) ((by have hh := unpack_any (rateP c).1 (rateP c).2 (putPk (putPk lu lu i k) lu k i) w_59 (hL.below (HP.below (by kernel_rfl))) (by rw [hpl2]; omega); rw [hun] at hh; exact hh)) ?_
                  rintro e w_60 ⟨rfl, hb⟩
                  refine ⟨_, rfl, ?_⟩
                  intro a H
                  have HP := HP.next hb
                  refine ⟨.inr ((HP.tail rfl)), ?_⟩
                  refine An.pure H (.inr ((HP.tail rfl))) 5 119 (.tuple #[(.agg #[(.int .i64 0), (.int .i64 0), (.int .i64 0), (.int .i64 0), (.int .i64 0), (.bool false), (.string (bstr ([]))), (.int .i64 0), (.int .i64 0), (.string (bstr ([]))), (.int .i64 0), (.int .i64 0), (.slice none 0 0)]), (.int .i64 180)]) rfl (by kernel_rfl) (by kernel_rfl) (fun _ _ _ h => h) (fun _ => by kernel_rfl) ?_
                  intro a H
                  refine An.pure H (.inr ((HP.tail rfl))) 6 125 (.agg #[(.int .i64 0), (.int .i64 0), (.int .i64 0), (.int .i64 0), (.int .i64 0), (.bool false), (.string (bstr ([]))), (.int .i64 0), (.int .i64 0), (.string (bstr ([]))), (.int .i64 0), (.int .i64 0), (.slice none 0 0)]) rfl (by kernel_rfl) (by kernel_rfl) (fun _ _ _ h => h) (fun _ => by kernel_rfl) ?_
                  intro a H
                  refine An.pure H (.inr ((HP.tail rfl))) 7 126 (.int .i64 180) rfl (by kernel_rfl) (by kernel_rfl) (fun _ _ _ h => h) (fun _ => by kernel_rfl) ?_
                  intro a H
                  refine An.one 9 (by kernel_rfl) ?_
                  refine Op.store H HP 0 b_58 0 13 28 [(.int .i64 0), (.int .i64 0), (.int .i64 0), (.int .i64 0), (.int .i64 0), (.bool false), (.string (bstr ([]))), (.int .i64 0), (.int .i64 0), (.string (bstr ([]))), (.int .i64 0), (.int .i64 0), (.slice none 0 0)] true (.agg #[(.int .i64 0), (.int .i64 0), (.int .i64 0), (.int .i64 0), (.int .i64 0), (.bool false), (.string (bstr ([]))), (.int .i64 0), (.int .i64 0), (.string (bstr ([]))), (.int .i64 0), (.int .i64 0), (.slice none 0 0)]) [bx b_58 28 [(.int .i64 0), (.int .i64 0), (.int .i64 0), (.int .i64 0), (.int .i64 0), (.bool false), (.string (bstr ([]))), (.int .i64 0), (.int .i64 0), (.string (bstr ([]))), (.int .i64 0), (.int .i64 0), (.slice none 0 0)] true, (bytesB bb_43 5 (putPk (putPk lu lu i k) lu k i) cap_44), bx b_1 28 [(.int .i64 u.channel), (.int .i64 u.frame), (.int .i64 u.version), (.int .i64 u.item), (.int .i64 u.index), (.bool u.key), (.string (bstr u.data)), (.int .i64 u.regions), (.int .i64 u.gain), (.string (bstr u.caption)), (.int .i64 u.os), (.int .i64 u.of), (.slice u.A u.al.length u.c)] true] rfl (by kernel_rfl) (by kernel_rfl) (by kernel_rfl) rfl (by kernel_rfl) (by kernel_rfl) (by kernel_rfl) (by kernel_rfl) (by kernel_rfl) ?_
                  intro w_61 a H HP
                  refine ⟨.inr ((HP.tail rfl)), ?_⟩
                  refine An.pure H (.inr ((HP.tail rfl))) 10 19 (.int .i64 180) rfl (by kernel_rfl) (by kernel_rfl) (fun _ _ _ h => h) (fun _ => by kernel_rfl) ?_
                  intro a H
                  refine An.done (by kernel_rfl) ?_
                  have H := H.keep (L' := [(19, (.int .i64 180)), (17, (.slice (some ⟨bb_43, 0, none⟩) lu.length cap_44)), (86, (.bool false)), (3, (.int .i64 ((k : Nat) : Int))), (2, (.int .i64 ((i : Nat) : Int))), (34, (.bool false)), (9, (.bool true)), (8, (.bool false)), (0, (.int .i64 c))]) (by kernel_rfl)
                  refine then_normal ?_
                  exact ⟨H.keep (by kernel_rfl), HP.tail rfl⟩
              · refine Op.alloc H HP 18 (fun b => (.pointer (some ⟨b, 0, none⟩))) 28 [(.int .i64 0), (.int .i64 0), (.int .i64 0), (.int .i64 0), (.int .i64 0), (.bool false), (.string (bstr ([]))), (.int .i64 0), (.int .i64 0), (.string (bstr ([]))), (.int .i64 0), (.int .i64 0), (.slice none 0 0)] rfl (by kernel_rfl) (fun w => by kernel_rfl) ?_
                intro b_62 w_63 a H HP
                refine ⟨.inr ((HP.tail rfl)), ?_⟩
                refine An.one 1 (by kernel_rfl) ?_
                refine Op.call H 121 rfl (by kernel_rfl) (Eq.trans (by kernel_rfl : _ = (callFunc 14 #[(.int .i64 c)]).run Tryd.prog w_63) (Tryd.call14 _ _)) (rate_any c w_63 hc) ?_
                rintro e w_64 ⟨rfl, hb⟩
                refine ⟨_, rfl, ?_⟩
                intro a H
                have HP := HP.next hb
                refine ⟨.inr ((HP.tail rfl)), ?_⟩
                refine An.one 4 (by kernel_rfl) ?_
                refine Op.call H 124 rfl (by kernel_rfl) (Eq.trans (by kernel_rfl : _ = (callFunc 22 #[(.agg #[(.int .i64 ((rateP c).1)), (.int .i64 ((rateP c).2))]), (.string (bstr (putPk (putPk lu lu i k) lu k i)))]).run Tryd.prog w_64) (Tryd.call22 _ _)) ((by have hh := unpack_any (rateP c).1 (rateP c).2 (putPk (putPk lu lu i k) lu k i) w_64 (hL.below (HP.below (by kernel_rfl))) (by rw [hpl2]; omega); rw [hun] at hh; exact hh)) ?_
                rintro e w_65 ⟨rfl, hb⟩
                refine ⟨_, rfl, ?_⟩
                intro a H
                have HP := HP.next hb
                refine ⟨.inr ((HP.tail rfl)), ?_⟩
                refine An.pure H (.inr ((HP.tail rfl))) 5 119 (.tuple #[(.agg #[(.int .i64 0), (.int .i64 0), (.int .i64 0), (.int .i64 0), (.int .i64 0), (.bool false), (.string (bstr ([]))), (.int .i64 0), (.int .i64 0), (.string (bstr ([]))), (.int .i64 0), (.int .i64 0), (.slice none 0 0)]), (.int .i64 180)]) rfl (by kernel_rfl) (by kernel_rfl) (fun _ _ _ h => h) (fun _ => by kernel_rfl) ?_
                intro a H
                refine An.pure H (.inr ((HP.tail rfl))) 6 125 (.agg #[(.int .i64 0), (.int .i64 0), (.int .i64 0), (.int .i64 0), (.int .i64 0), (.bool false), (.string (bstr ([]))), (.int .i64 0), (.int .i64 0), (.string (bstr ([]))), (.int .i64 0), (.int .i64 0), (.slice none 0 0)]) rfl (by kernel_rfl) (by kernel_rfl) (fun _ _ _ h => h) (fun _ => by kernel_rfl) ?_
                intro a H
                refine An.pure H (.inr ((HP.tail rfl))) 7 126 (.int .i64 180) rfl (by kernel_rfl) (by kernel_rfl) (fun _ _ _ h => h) (fun _ => by kernel_rfl) ?_
                intro a H
                refine An.one 9 (by kernel_rfl) ?_
                refine Op.store H HP 0 b_62 0 13 28 [(.int .i64 0), (.int .i64 0), (.int .i64 0), (.int .i64 0), (.int .i64 0), (.bool false), (.string (bstr ([]))), (.int .i64 0), (.int .i64 0), (.string (bstr ([]))), (.int .i64 0), (.int .i64 0), (.slice none 0 0)] true (.agg #[(.int .i64 0), (.int .i64 0), (.int .i64 0), (.int .i64 0), (.int .i64 0), (.bool false), (.string (bstr ([]))), (.int .i64 0), (.int .i64 0), (.string (bstr ([]))), (.int .i64 0), (.int .i64 0), (.slice none 0 0)]) [bx b_62 28 [(.int .i64 0), (.int .i64 0), (.int .i64 0), (.int .i64 0), (.int .i64 0), (.bool false), (.string (bstr ([]))), (.int .i64 0), (.int .i64 0), (.string (bstr ([]))), (.int .i64 0), (.int .i64 0), (.slice none 0 0)] true, (bytesB bb_43 5 (putPk (putPk lu lu i k) lu k i) cap_44), bx b_1 28 [(.int .i64 u.channel), (.int .i64 u.frame), (.int .i64 u.version), (.int .i64 u.item), (.int .i64 u.index), (.bool u.key), (.string (bstr u.data)), (.int .i64 u.regions), (.int .i64 u.gain), (.string (bstr u.caption)), (.int .i64 u.os), (.int .i64 u.of), (.slice u.A u.al.length u.c)] true] rfl (by kernel_rfl) (by kernel_rfl) (by kernel_rfl) rfl (by kernel_rfl) (by kernel_rfl) (by kernel_rfl) (by kernel_rfl) (by kernel_rfl) ?_
                intro w_66 a H HP
                refine ⟨.inr ((HP.tail rfl)), ?_⟩
                refine An.pure H (.inr ((HP.tail rfl))) 10 19 (.int .i64 180) rfl (by kernel_rfl) (by kernel_rfl) (fun _ _ _ h => h) (fun _ => by kernel_rfl) ?_
                intro a H
                refine An.done (by kernel_rfl) ?_
                have H := H.keep (L' := [(19, (.int .i64 180)), (17, (.slice (some ⟨bb_43, 0, none⟩) lu.length cap_44)), (86, (.bool false)), (3, (.int .i64 ((k : Nat) : Int))), (2, (.int .i64 ((i : Nat) : Int))), (34, (.bool false)), (9, (.bool true)), (8, (.bool false)), (0, (.int .i64 c))]) (by kernel_rfl)
                refine then_normal ?_
                exact ⟨H.keep (by kernel_rfl), HP.tail rfl⟩
            ·
              rintro a w_67 ⟨H, HP⟩
              refine wp_seq ?_
              refine w_region ?_
              refine H.val 127 (.bool true) (by kernel_rfl) (by kernel_rfl) ?_
              intro a H
              refine H.val 128 (.bool true) (by kernel_rfl) (by kernel_rfl) ?_
              intro a H
              refine H.val 129 (.int .i64 180) (by kernel_rfl) (by kernel_rfl) ?_
              intro a H
              refine H.val 130 (.bool false) (by kernel_rfl) (by kernel_rfl) ?_
              intro a H
              refine H.val 131 (.int .i64 ((i : Nat) : Int)) (by kernel_rfl) (by kernel_rfl) ?_
              intro a H
              refine H.val 132 (.int .i64 ((k : Nat) : Int)) (by kernel_rfl) (by kernel_rfl) ?_
              intro a H
              refine H.valE 133 (.bool (((i : Nat) : Int) == ((k : Nat) : Int))) (.bool false) (by kernel_rfl) (by kernel_rfl) ((congrArg Value.bool (hik))) ?_
              intro a H
              refine H.val 134 (.bool true) (by kernel_rfl) (by kernel_rfl) ?_
              intro a H
              refine H.val 135 (.bool true) (by kernel_rfl) (by kernel_rfl) ?_
              intro a H
              refine H.val 8 (.bool true) (by kernel_rfl) (by kernel_rfl) ?_
              intro a H
              refine wpList_nil ?_
              have H := H.keep (L' := [(8, (.bool true)), (19, (.int .i64 180)), (86, (.bool false)), (3, (.int .i64 ((k : Nat) : Int))), (2, (.int .i64 ((i : Nat) : Int))), (34, (.bool false)), (9, (.bool true))]) (by kernel_rfl)
              refine then_normal ?_
              refine wp_ret ?_
              refine H.ret1 (fn := Tryd.f10) Tryd.results10 (RV.tmp_ (v := (.bool true)) (by kernel_rfl)) ?_
              exact ⟨rfl, (HP.below (by kernel_rfl))⟩
theorem missing_all (c : Int) (u : Un) (i0 k0 : Int) (w : World) (hL : Laid w) (hc : -9223372036854775808 ≤ c ∧ c ≤ 9223372036854775807) (hi0 : -9223372036854775808 ≤ i0 ∧ i0 ≤ 9223372036854775807) (hk0 : -9223372036854775808 ≤ k0 ∧ k0 ≤ 9223372036854775807) (huu : IsAlts w u.A u.al.length u.al) (hcu : u.al.length ≤ u.c) (hAu : u.A = none → u.c = 0) :
    Calls Tryd.prog 10 #[.int .i64 c, u.val, .int .i64 i0, .int .i64 k0] w fun e w' => e = .returned (.bool true) ∧ Below w.heap.size w w' := by
  cases hu' : packP (rateP c).1 (rateP c).2 (shortU u) with
  | none => exact mis_n c u _ i0 k0 w rfl hL hc hi0 hk0 huu hcu hAu (fun _ _ => hu')
  | some lu =>
    obtain ⟨hlu, hlu1, hlu2⟩ := pack_len hu'
    obtain ⟨N, hN⟩ : ∃ N, pktN (streamU (rateP c).1 (rateP c).2 (shortU u)) = N := ⟨_, rfl⟩
    rw [hN] at hlu hlu1 hlu2
    have hpi := pickI_lt i0 ((N : Nat) : Int) (by omega)
    have hpk := pickI_lt k0 ((N : Nat) : Int) (by omega)
    obtain ⟨i, hi⟩ : ∃ p : Nat, pickI i0 ((N : Nat) : Int) = ((p : Nat) : Int) := ⟨(pickI i0 ((N : Nat) : Int)).toNat, by omega⟩
    obtain ⟨k, hk⟩ : ∃ p : Nat, pickI k0 ((N : Nat) : Int) = ((p : Nat) : Int) := ⟨(pickI k0 ((N : Nat) : Int)).toNat, by omega⟩
    by_cases hik : i = k
    · subst hik
      exact mis_t c u _ i0 k0 w rfl hL hc hi0 hk0 huu hcu hAu lu (fun _ _ => hu') N i i hlu hlu1 hlu2 hi hk (by omega) (by omega) (beq_self_eq_true _) (by rw [putPk_self hlu (by omega), putPk_self hlu (by omega)]; exact unpack_pack hu')
    · exact mis_f c u _ i0 k0 w rfl hL hc hi0 hk0 huu hcu hAu lu (fun _ _ => hu') N i k hlu hlu1 hlu2 hi hk (by omega) (by omega) (by rw [beq_eq_false_iff_ne]; omega) (exchanged_law hu' hlu hlu2 (by omega) (by omega) hik)
end Go.Proofs.YtgdjpaeclicdfaaDoor
