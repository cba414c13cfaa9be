/- TransportDamaged: the walk. -/
import Derived.Test.YtgdjpaeclicdfaaDoorLwA
import Derived.Test.YtgdjpaeclicdfaaDoorTrN
import Derived.Test.YtgdjpaeclicdfaaDoorSymG
namespace Go.Proofs.YtgdjpaeclicdfaaDoor
open Go.ChangeShapes Go.WideShapes Go.ChangeAt Go.RowKit
set_option linter.unusedVariables false
set_option linter.unusedSimpArgs false

theorem unpSome {P : Program} {f : Nat} {args : Array Value} {w : World} {u : Un} (h : Calls P f args w (RetUn (some u) w)) : Calls P f args w fun e w' => ∃ B c, e = .returned (.tuple #[({ u with A := B, c := c } : Un).val, .int .i64 0]) ∧ Below w.heap.size w w' :=
  h.mono fun e w' hh => by obtain ⟨B, c, he, _, _, _, _, _, hb⟩ := hh; exact ⟨B, c, he, hb⟩
set_option maxRecDepth 100000 in
set_option maxHeartbeats 4000000 in
theorem dmg_n (c : Int) (u U : Un) (at0 : Int) (x : UInt8) (w : World) (hU : shortU u = U) (hL : Laid w) (hc : -9223372036854775808 ≤ c ∧ c ≤ 9223372036854775807) (hat : -9223372036854775808 ≤ at0 ∧ at0 ≤ 9223372036854775807) (huu : IsAlts w u.A u.al.length u.al) (hcu : u.al.length ≤ u.c) (hAu : u.A = none → u.c = 0) (hZu : ∀ B c', packP (rateP c).1 (rateP c).2 ({ U with A := B, c := c' } : Un) = none) :
    Calls Tryd.prog 9 #[.int .i64 c, u.val, .int .i64 at0, .int .u8 ((x.toNat : Nat) : Int)] w fun e w' => e = .returned (.bool true) ∧ Below w.heap.size w w' := by
  have HP := Hp.start w
  refine w_enter 74 [(0, (.int .i64 c)), (1, (.agg #[(.int .i64 u.channel), (.int .i64 u.frame), (.int .i64 u.version), (.int .i64 u.item), (.int .i64 u.index), (.bool u.key), (.string (bstr u.data)), (.int .i64 u.regions), (.int .i64 u.gain), (.string (bstr u.caption)), (.int .i64 u.os), (.int .i64 u.of), (.slice u.A u.al.length u.c)])), (2, (.int .i64 at0)), (3, (.int .u8 ((x.toNat : Nat) : Int)))] Tryd.func9 rfl Tryd.ntmps9 (by kernel_rfl) (by kernel_rfl) ?_
  intro a H
  refine wp_seq ?_
  refine w_region ?_
  refine H.alloc HP 5 (fun b => (.pointer (some ⟨b, 0, none⟩))) 28 [(.int .i64 u.channel), (.int .i64 u.frame), (.int .i64 u.version), (.int .i64 u.item), (.int .i64 u.index), (.bool u.key), (.string (bstr u.data)), (.int .i64 u.regions), (.int .i64 u.gain), (.string (bstr u.caption)), (.int .i64 u.os), (.int .i64 u.of), (.slice u.A u.al.length u.c)] (by kernel_rfl) (fun w => by kernel_rfl) ?_
  intro b_1 w_2 a H HP
  refine H.val 8 (.bool false) (by kernel_rfl) (by kernel_rfl) ?_
  intro a H
  refine wpList_nil ?_
  refine then_normal ?_
  refine wp_seq ?_
  refine w_region ?_
  refine H.call 16 (by kernel_rfl) (Eq.trans (by kernel_rfl : _ = (callFunc 13 #[]).run Tryd.prog w_2) (Tryd.call13 _ _)) (sane_any w_2 (hL.below (HP.below (by kernel_rfl)))) ?_
  rintro e w_3 ⟨rfl, hb⟩
  refine ⟨_, rfl, ?_⟩
  intro a H
  have HP := HP.next hb
  refine H.val 9 (.bool true) (by kernel_rfl) (by kernel_rfl) ?_
  intro a H
  refine wpList_nil ?_
  refine then_normal ?_
  refine w_cut (fun a wv => Sl 74 [(10, (.string (bstr ([])))), (11, (.int .i64 180)), (9, (.bool true)), (8, (.bool false)), (0, (.int .i64 c)), (2, (.int .i64 at0)), (3, (.int .u8 ((x.toNat : Nat) : Int)))] a ∧ Hp w wv [bx b_1 28 [(.int .i64 u.channel), (.int .i64 u.frame), (.int .i64 u.version), (.int .i64 u.item), (.int .i64 u.index), (.bool u.key), (.string (bstr u.data)), (.int .i64 u.regions), (.int .i64 u.gain), (.string (bstr u.caption)), (.int .i64 u.os), (.int .i64 u.of), (.slice u.A u.al.length u.c)] true] []) ?_ ?_
  ·
    refine An.start (fun v => Hp w v [bx b_1 28 [(.int .i64 u.channel), (.int .i64 u.frame), (.int .i64 u.version), (.int .i64 u.item), (.int .i64 u.index), (.bool u.key), (.string (bstr u.data)), (.int .i64 u.regions), (.int .i64 u.gain), (.string (bstr u.caption)), (.int .i64 u.os), (.int .i64 u.of), (.slice u.A u.al.length u.c)] true] []) 10 10 HP wide_follows rfl ?_
    intro w_4 HP
    refine An.pure H (.inr (HP)) 0 18 (.int .i64 c) rfl (by kernel_rfl) (by kernel_rfl) (fun _ _ _ h => h) (fun _ => by kernel_rfl) ?_
    intro a H
    refine An.val H (HP) 2 20 (.agg #[(.int .i64 u.channel), (.int .i64 u.frame), (.int .i64 u.version), (.int .i64 u.item), (.int .i64 u.index), (.bool u.key), (.string (bstr u.data)), (.int .i64 u.regions), (.int .i64 u.gain), (.string (bstr u.caption)), (.int .i64 u.os), (.int .i64 u.of), (.slice u.A u.al.length u.c)]) rfl (by kernel_rfl) (by kernel_rfl) (fun _ _ _ h => h) (fun _ hS => ex_loadN (vs := [(.int .i64 u.channel), (.int .i64 u.frame), (.int .i64 u.version), (.int .i64 u.item), (.int .i64 u.index), (.bool u.key), (.string (bstr u.data)), (.int .i64 u.regions), (.int .i64 u.gain), (.string (bstr u.caption)), (.int .i64 u.os), (.int .i64 u.of), (.slice u.A u.al.length u.c)]) (by kernel_rfl) (by kernel_rfl) (by kernel_rfl) rfl (hS.cells 0 rfl 0 13 (by kernel_rfl))) ?_
    intro a H
    refine An.one 1 (by kernel_rfl) ?_
    refine Op.call H 19 rfl (by kernel_rfl) (Eq.trans (by kernel_rfl : _ = (callFunc 14 #[(.int .i64 c)]).run Tryd.prog w_4) (Tryd.call14 _ _)) (rate_any c w_4 hc) ?_
    rintro e w_5 ⟨rfl, hb⟩
    refine ⟨_, rfl, ?_⟩
    intro a H
    have HP := HP.next hb
    refine ⟨.inr (HP), ?_⟩
    refine An.one 3 (by kernel_rfl) ?_
    refine Op.call H 21 rfl (by kernel_rfl) (Eq.trans (by kernel_rfl : _ = (callFunc 15 #[(.agg #[(.int .i64 u.channel), (.int .i64 u.frame), (.int .i64 u.version), (.int .i64 u.item), (.int .i64 u.index), (.bool u.key), (.string (bstr u.data)), (.int .i64 u.regions), (.int .i64 u.gain), (.string (bstr u.caption)), (.int .i64 u.os), (.int .i64 u.of), (.slice u.A u.al.length u.c)])]).run Tryd.prog w_5) (Tryd.call15 _ _)) (short_anyU hU (short_any u w_5 (huu.below (HP.below (by kernel_rfl))) hcu hAu)) ?_
    rintro e w_6 ⟨Bu, cu, rfl, halu, hcau, hcbu, hccu, hfru, hb⟩
    refine ⟨_, rfl, ?_⟩
    intro a H
    have HP := (HP.next hb).keepF ⟨rowFp U.al.length Bu, fun w => IsAlts w Bu U.al.length U.al⟩ halu (fun _ _ h hk hs => ⟨h.1, h.2.keep hk hs⟩) (fun j hj => row_sep HP halu.2 hfru hj)
    refine ⟨.inr (HP.untop), ?_⟩
    refine An.one 4 (by kernel_rfl) ?_
    refine Op.call H 22 rfl (by kernel_rfl) (Eq.trans (by kernel_rfl : _ = (callFunc 16 #[(.agg #[(.int .i64 ((rateP c).1)), (.int .i64 ((rateP c).2))]), (.agg #[(.int .i64 U.channel), (.int .i64 U.frame), (.int .i64 U.version), (.int .i64 U.item), (.int .i64 U.index), (.bool U.key), (.string (bstr U.data)), (.int .i64 U.regions), (.int .i64 U.gain), (.string (bstr U.caption)), (.int .i64 U.os), (.int .i64 U.of), (.slice Bu U.al.length cu)])]).run Tryd.prog w_6) (Tryd.call16 _ _)) ((by have hh := pack_any ((rateP c).1) ((rateP c).2) (⟨U.channel, U.frame, U.version, U.item, U.index, U.key, U.data, U.regions, U.gain, U.caption, U.os, U.of, Bu, cu, U.al⟩ : Un) w_6 (hL.below (HP.below (by kernel_rfl))) (HP.fact 0 rfl) (Nat.le_trans hcau hcbu); rw [hZu Bu cu] at hh; exact hh)) ?_
    rintro e w_7 ⟨rfl, hb⟩
    refine ⟨_, rfl, ?_⟩
    intro a H
    have HP := HP.next hb
    refine ⟨.inr (HP.untop), ?_⟩
    refine An.pure H (.inr (HP.untop)) 5 17 (.tuple #[(.string (bstr ([]))), (.int .i64 180)]) rfl (by kernel_rfl) (by kernel_rfl) (fun _ _ _ h => h) (fun _ => by kernel_rfl) ?_
    intro a H
    refine An.pure H (.inr (HP.untop)) 6 23 (.string (bstr ([]))) rfl (by kernel_rfl) (by kernel_rfl) (fun _ _ _ h => h) (fun _ => by kernel_rfl) ?_
    intro a H
    refine An.pure H (.inr (HP.untop)) 7 24 (.int .i64 180) rfl (by kernel_rfl) (by kernel_rfl) (fun _ _ _ h => h) (fun _ => by kernel_rfl) ?_
    intro a H
    refine An.pure H (.inr (HP.untop)) 8 10 (.string (bstr ([]))) rfl (by kernel_rfl) (by kernel_rfl) (fun _ _ _ h => h) (fun _ => by kernel_rfl) ?_
    intro a H
    refine An.pure H (.inr (HP.untop)) 9 11 (.int .i64 180) rfl (by kernel_rfl) (by kernel_rfl) (fun _ _ _ h => h) (fun _ => by kernel_rfl) ?_
    intro a H
    refine An.done (by kernel_rfl) ?_
    have H := H.keep (L' := [(11, (.int .i64 180)), (10, (.string (bstr ([])))), (9, (.bool true)), (16, (.bool true)), (8, (.bool false)), (5, (.pointer (some ⟨b_1, 0, none⟩))), (0, (.int .i64 c)), (1, (.agg #[(.int .i64 u.channel), (.int .i64 u.frame), (.int .i64 u.version), (.int .i64 u.item), (.int .i64 u.index), (.bool u.key), (.string (bstr u.data)), (.int .i64 u.regions), (.int .i64 u.gain), (.string (bstr u.caption)), (.int .i64 u.os), (.int .i64 u.of), (.slice u.A u.al.length u.c)])), (2, (.int .i64 at0)), (3, (.int .u8 ((x.toNat : Nat) : Int)))]) (by kernel_rfl)
    refine then_normal ?_
    exact ⟨H.keep (by kernel_rfl), HP.untop⟩
  ·
    rintro a w_8 ⟨H, HP⟩
    refine wp_seq ?_
    refine wp_seq ?_
    refine w_region ?_
    refine H.val 25 (.int .i64 180) (by kernel_rfl) (by kernel_rfl) ?_
    intro a H
    refine H.val 26 (.bool true) (by kernel_rfl) (by kernel_rfl) ?_
    intro a H
    refine H.val 27 (.bool true) (by kernel_rfl) (by kernel_rfl) ?_
    intro a H
    refine H.skip 28 (by kernel_rfl) ?_
    intro a H
    refine H.skip 29 (by kernel_rfl) ?_
    intro a H
    refine H.val 30 (.bool true) (by kernel_rfl) (by kernel_rfl) ?_
    intro a H
    refine wpList_nil ?_
    refine then_normal ?_
    refine w_ift H rfl ?_
    refine wp_seq ?_
    refine w_region ?_
    refine H.val 31 (.bool true) (by kernel_rfl) (by kernel_rfl) ?_
    intro a H
    refine H.val 32 (.bool true) (by kernel_rfl) (by kernel_rfl) ?_
    intro a H
    refine H.val 33 (.int .i64 180) (by kernel_rfl) (by kernel_rfl) ?_
    intro a H
    refine H.val 34 (.bool true) (by kernel_rfl) (by kernel_rfl) ?_
    intro a H
    refine H.val 35 (.bool true) (by kernel_rfl) (by kernel_rfl) ?_
    intro a H
    refine H.val 8 (.bool true) (by kernel_rfl) (by kernel_rfl) ?_
    intro a H
    refine wpList_nil ?_
    have H := H.keep (L' := [(8, (.bool true)), (30, (.bool true)), (29, undef), (28, undef), (27, (.bool true)), (26, (.bool true)), (25, (.int .i64 180)), (10, (.string (bstr ([])))), (11, (.int .i64 180)), (9, (.bool true)), (0, (.int .i64 c)), (2, (.int .i64 at0)), (3, (.int .u8 ((x.toNat : Nat) : Int)))]) (by kernel_rfl)
    refine then_normal ?_
    refine wp_ret ?_
    refine then_ret ?_
    refine H.ret1 (fn := Tryd.f9) Tryd.results9 (RV.tmp_ (v := (.bool true)) (by kernel_rfl)) ?_
    exact ⟨rfl, (HP.below (by kernel_rfl))⟩
set_option maxRecDepth 100000 in
set_option maxHeartbeats 4000000 in
theorem dmg_t (c : Int) (u U : Un) (at0 : Int) (x : UInt8) (w : World) (hU : shortU u = U) (hL : Laid w) (hc : -9223372036854775808 ≤ c ∧ c ≤ 9223372036854775807) (hat : -9223372036854775808 ≤ at0 ∧ at0 ≤ 9223372036854775807) (huu : IsAlts w u.A u.al.length u.al) (hcu : u.al.length ≤ u.c) (hAu : u.A = none → u.c = 0) (lu : List UInt8) (hZu : ∀ B c', packP (rateP c).1 (rateP c).2 ({ U with A := B, c := c' } : Un) = some lu) (p : Nat) (hp : pickI at0 ((lu.length : Nat) : Int) = ((p : Nat) : Int)) (hpl : p < lu.length) (hsame : ((((lu.getD p 0).toNat : Nat) : Int) == ((x.toNat : Nat) : Int)) = true) (hun : unpackP (rateP c).1 (rateP c).2 (lu.set p x) = some (bareU U)) :
    Calls Tryd.prog 9 #[.int .i64 c, u.val, .int .i64 at0, .int .u8 ((x.toNat : Nat) : Int)] w fun e w' => e = .returned (.bool true) ∧ Below w.heap.size w w' := by
  have HP := Hp.start w
  obtain ⟨hlu, hlu1, hlu2⟩ := pack_len (hZu none 0)
  have hne : lu ≠ [] := fun e => by subst e; simp at hlu; omega
  refine w_enter 74 [(0, (.int .i64 c)), (1, (.agg #[(.int .i64 u.channel), (.int .i64 u.frame), (.int .i64 u.version), (.int .i64 u.item), (.int .i64 u.index), (.bool u.key), (.string (bstr u.data)), (.int .i64 u.regions), (.int .i64 u.gain), (.string (bstr u.caption)), (.int .i64 u.os), (.int .i64 u.of), (.slice u.A u.al.length u.c)])), (2, (.int .i64 at0)), (3, (.int .u8 ((x.toNat : Nat) : Int)))] Tryd.func9 rfl Tryd.ntmps9 (by kernel_rfl) (by kernel_rfl) ?_
  intro a H
  refine wp_seq ?_
  refine w_region ?_
  refine H.alloc HP 5 (fun b => (.pointer (some ⟨b, 0, none⟩))) 28 [(.int .i64 u.channel), (.int .i64 u.frame), (.int .i64 u.version), (.int .i64 u.item), (.int .i64 u.index), (.bool u.key), (.string (bstr u.data)), (.int .i64 u.regions), (.int .i64 u.gain), (.string (bstr u.caption)), (.int .i64 u.os), (.int .i64 u.of), (.slice u.A u.al.length u.c)] (by kernel_rfl) (fun w => by kernel_rfl) ?_
  intro b_1 w_2 a H HP
  refine H.val 8 (.bool false) (by kernel_rfl) (by kernel_rfl) ?_
  intro a H
  refine wpList_nil ?_
  refine then_normal ?_
  refine wp_seq ?_
  refine w_region ?_
  refine H.call 16 (by kernel_rfl) (Eq.trans (by kernel_rfl : _ = (callFunc 13 #[]).run Tryd.prog w_2) (Tryd.call13 _ _)) (sane_any w_2 (hL.below (HP.below (by kernel_rfl)))) ?_
  rintro e w_3 ⟨rfl, hb⟩
  refine ⟨_, rfl, ?_⟩
  intro a H
  have HP := HP.next hb
  refine H.val 9 (.bool true) (by kernel_rfl) (by kernel_rfl) ?_
  intro a H
  refine wpList_nil ?_
  refine then_normal ?_
  refine w_cut (fun a wv => Sl 74 [(10, (.string (bstr lu))), (11, (.int .i64 0)), (9, (.bool true)), (8, (.bool false)), (0, (.int .i64 c)), (2, (.int .i64 at0)), (3, (.int .u8 ((x.toNat : Nat) : Int)))] a ∧ Hp w wv [bx b_1 28 [(.int .i64 u.channel), (.int .i64 u.frame), (.int .i64 u.version), (.int .i64 u.item), (.int .i64 u.index), (.bool u.key), (.string (bstr u.data)), (.int .i64 u.regions), (.int .i64 u.gain), (.string (bstr u.caption)), (.int .i64 u.os), (.int .i64 u.of), (.slice u.A u.al.length u.c)] true] []) ?_ ?_
  ·
    refine An.start (fun v => Hp w v [bx b_1 28 [(.int .i64 u.channel), (.int .i64 u.frame), (.int .i64 u.version), (.int .i64 u.item), (.int .i64 u.index), (.bool u.key), (.string (bstr u.data)), (.int .i64 u.regions), (.int .i64 u.gain), (.string (bstr u.caption)), (.int .i64 u.os), (.int .i64 u.of), (.slice u.A u.al.length u.c)] true] []) 10 10 HP wide_follows rfl ?_
    intro w_4 HP
    refine An.pure H (.inr (HP)) 0 18 (.int .i64 c) rfl (by kernel_rfl) (by kernel_rfl) (fun _ _ _ h => h) (fun _ => by kernel_rfl) ?_
    intro a H
    refine An.val H (HP) 2 20 (.agg #[(.int .i64 u.channel), (.int .i64 u.frame), (.int .i64 u.version), (.int .i64 u.item), (.int .i64 u.index), (.bool u.key), (.string (bstr u.data)), (.int .i64 u.regions), (.int .i64 u.gain), (.string (bstr u.caption)), (.int .i64 u.os), (.int .i64 u.of), (.slice u.A u.al.length u.c)]) rfl (by kernel_rfl) (by kernel_rfl) (fun _ _ _ h => h) (fun _ hS => ex_loadN (vs := [(.int .i64 u.channel), (.int .i64 u.frame), (.int .i64 u.version), (.int .i64 u.item), (.int .i64 u.index), (.bool u.key), (.string (bstr u.data)), (.int .i64 u.regions), (.int .i64 u.gain), (.string (bstr u.caption)), (.int .i64 u.os), (.int .i64 u.of), (.slice u.A u.al.length u.c)]) (by kernel_rfl) (by kernel_rfl) (by kernel_rfl) rfl (hS.cells 0 rfl 0 13 (by kernel_rfl))) ?_
    intro a H
    refine An.one 1 (by kernel_rfl) ?_
    refine Op.call H 19 rfl (by kernel_rfl) (Eq.trans (by kernel_rfl : _ = (callFunc 14 #[(.int .i64 c)]).run Tryd.prog w_4) (Tryd.call14 _ _)) (rate_any c w_4 hc) ?_
    rintro e w_5 ⟨rfl, hb⟩
    refine ⟨_, rfl, ?_⟩
    intro a H
    have HP := HP.next hb
    refine ⟨.inr (HP), ?_⟩
    refine An.one 3 (by kernel_rfl) ?_
    refine Op.call H 21 rfl (by kernel_rfl) (Eq.trans (by kernel_rfl : _ = (callFunc 15 #[(.agg #[(.int .i64 u.channel), (.int .i64 u.frame), (.int .i64 u.version), (.int .i64 u.item), (.int .i64 u.index), (.bool u.key), (.string (bstr u.data)), (.int .i64 u.regions), (.int .i64 u.gain), (.string (bstr u.caption)), (.int .i64 u.os), (.int .i64 u.of), (.slice u.A u.al.length u.c)])]).run Tryd.prog w_5) (Tryd.call15 _ _)) (short_anyU hU (short_any u w_5 (huu.below (HP.below (by kernel_rfl))) hcu hAu)) ?_
    rintro e w_6 ⟨Bu, cu, rfl, halu, hcau, hcbu, hccu, hfru, hb⟩
    refine ⟨_, rfl, ?_⟩
    intro a H
    have HP := (HP.next hb).keepF ⟨rowFp U.al.length Bu, fun w => IsAlts w Bu U.al.length U.al⟩ halu (fun _ _ h hk hs => ⟨h.1, h.2.keep hk hs⟩) (fun j hj => row_sep HP halu.2 hfru hj)
    refine ⟨.inr (HP.untop), ?_⟩
    refine An.one 4 (by kernel_rfl) ?_
    refine Op.call H 22 rfl (by kernel_rfl) (Eq.trans (by kernel_rfl : _ = (callFunc 16 #[(.agg #[(.int .i64 ((rateP c).1)), (.int .i64 ((rateP c).2))]), (.agg #[(.int .i64 U.channel), (.int .i64 U.frame), (.int .i64 U.version), (.int .i64 U.item), (.int .i64 U.index), (.bool U.key), (.string (bstr U.data)), (.int .i64 U.regions), (.int .i64 U.gain), (.string (bstr U.caption)), (.int .i64 U.os), (.int .i64 U.of), (.slice Bu U.al.length cu)])]).run Tryd.prog w_6) (Tryd.call16 _ _)) ((by have hh := pack_any ((rateP c).1) ((rateP c).2) (⟨U.channel, U.frame, U.version, U.item, U.index, U.key, U.data, U.regions, U.gain, U.caption, U.os, U.of, Bu, cu, U.al⟩ : Un) w_6 (hL.below (HP.below (by kernel_rfl))) (HP.fact 0 rfl) (Nat.le_trans hcau hcbu); rw [hZu Bu cu] at hh; exact hh)) ?_
    rintro e w_7 ⟨rfl, hb⟩
    refine ⟨_, rfl, ?_⟩
    intro a H
    have HP := HP.next hb
    refine ⟨.inr (HP.untop), ?_⟩
    refine An.pure H (.inr (HP.untop)) 5 17 (.tuple #[(.string (bstr lu)), (.int .i64 0)]) rfl (by kernel_rfl) (by kernel_rfl) (fun _ _ _ h => h) (fun _ => by kernel_rfl) ?_
    intro a H
    refine An.pure H (.inr (HP.untop)) 6 23 (.string (bstr lu)) rfl (by kernel_rfl) (by kernel_rfl) (fun _ _ _ h => h) (fun _ => by kernel_rfl) ?_
    intro a H
    refine An.pure H (.inr (HP.untop)) 7 24 (.int .i64 0) rfl (by kernel_rfl) (by kernel_rfl) (fun _ _ _ h => h) (fun _ => by kernel_rfl) ?_
    intro a H
    refine An.pure H (.inr (HP.untop)) 8 10 (.string (bstr lu)) rfl (by kernel_rfl) (by kernel_rfl) (fun _ _ _ h => h) (fun _ => by kernel_rfl) ?_
    intro a H
    refine An.pure H (.inr (HP.untop)) 9 11 (.int .i64 0) rfl (by kernel_rfl) (by kernel_rfl) (fun _ _ _ h => h) (fun _ => by kernel_rfl) ?_
    intro a H
    refine An.done (by kernel_rfl) ?_
    have H := H.keep (L' := [(11, (.int .i64 0)), (10, (.string (bstr lu))), (9, (.bool true)), (16, (.bool true)), (8, (.bool false)), (5, (.pointer (some ⟨b_1, 0, none⟩))), (0, (.int .i64 c)), (1, (.agg #[(.int .i64 u.channel), (.int .i64 u.frame), (.int .i64 u.version), (.int .i64 u.item), (.int .i64 u.index), (.bool u.key), (.string (bstr u.data)), (.int .i64 u.regions), (.int .i64 u.gain), (.string (bstr u.caption)), (.int .i64 u.os), (.int .i64 u.of), (.slice u.A u.al.length u.c)])), (2, (.int .i64 at0)), (3, (.int .u8 ((x.toNat : Nat) : Int)))]) (by kernel_rfl)
    refine then_normal ?_
    exact ⟨H.keep (by kernel_rfl), HP.untop⟩
  ·
    rintro a w_8 ⟨H, HP⟩
    refine wp_seq ?_
    refine wp_seq ?_
    refine w_region ?_
    refine H.val 25 (.int .i64 0) (by kernel_rfl) (by kernel_rfl) ?_
    intro a H
    refine H.val 26 (.bool false) (by kernel_rfl) (by kernel_rfl) ?_
    intro a H
    refine H.val 27 (.bool false) (by kernel_rfl) (by kernel_rfl) ?_
    intro a H
    refine H.val 28 (.string (bstr lu)) (by kernel_rfl) (by kernel_rfl) ?_
    intro a H
    refine H.valE 29 (.bool ((bstr lu).toList == (bstr []).toList)) (.bool false) (by kernel_rfl) (by kernel_rfl) ((congrArg Value.bool ((bstr_eq _ _).trans (beq_eq_false_iff_ne.2 hne)))) ?_
    intro a H
    refine H.val 30 (.bool false) (by kernel_rfl) (by kernel_rfl) ?_
    intro a H
    refine wpList_nil ?_
    refine then_normal ?_
    refine w_iff H rfl ?_
    refine wp_skip ?_
    refine then_normal ?_
    refine wp_seq ?_
    refine w_region ?_
    refine H.val 36 (.string (bstr lu)) (by kernel_rfl) (by kernel_rfl) ?_
    intro a H
    refine H.s2b HP 37 lu (e := 5) (by kernel_rfl) (by kernel_rfl) (by kernel_rfl) (by kernel_rfl) (by kernel_rfl) ?_
    intro bb_9 cap_10 w_11 a H HP
    refine H.val 12 (.slice (some ⟨bb_9, 0, none⟩) lu.length cap_10) (by kernel_rfl) (by kernel_rfl) ?_
    intro a H
    refine wpList_nil ?_
    refine then_normal ?_
    refine wp_seq ?_
    refine w_region ?_
    refine H.val 38 (.int .i64 at0) (by kernel_rfl) (by kernel_rfl) ?_
    intro a H
    refine H.val 39 (.slice (some ⟨bb_9, 0, none⟩) lu.length cap_10) (by kernel_rfl) (by kernel_rfl) ?_
    intro a H
    refine H.val 40 (.int .i64 ((lu.length : Nat) : Int)) (by kernel_rfl) (by kernel_rfl) ?_
    intro a H
    refine H.call 41 (by kernel_rfl) (Eq.trans (by kernel_rfl : _ = (callFunc 27 #[(.int .i64 at0), (.int .i64 ((lu.length : Nat) : Int))]).run Tryd.prog w_11) (Tryd.call27 _ _)) ((by have hh := pick_any at0 ((lu.length : Nat) : Int) w_11 hat (by omega); rw [hp] at hh; exact hh)) ?_
    rintro e w_12 ⟨rfl, rfl⟩
    refine ⟨_, rfl, ?_⟩
    intro a H
    refine H.val 2 (.int .i64 ((p : Nat) : Int)) (by kernel_rfl) (by kernel_rfl) ?_
    intro a H
    refine wpList_nil ?_
    refine then_normal ?_
    refine wp_seq ?_
    refine w_region ?_
    refine H.val 42 (.slice (some ⟨bb_9, 0, none⟩) lu.length cap_10) (by kernel_rfl) (by kernel_rfl) ?_
    intro a H
    refine H.val 43 (.int .i64 ((p : Nat) : Int)) (by kernel_rfl) (by kernel_rfl) ?_
    intro a H
    refine H.val 44 (.pointer (some ⟨bb_9, 0 + p * 1, none⟩)) (by kernel_rfl) (ex_index (b := bb_9) (off := 0) (len := lu.length) (cap := cap_10) (e := 5) (k := 1) (ik := .i64) (i := ((p : Nat) : Int)) (m := p) (by kernel_rfl) (by kernel_rfl) (by omega) (by omega) (by kernel_rfl) (by kernel_rfl)) ?_
    intro a H
    refine H.val 45 (.int .u8 (((lu.getD p 0).toNat : Nat) : Int)) (by kernel_rfl) (ex_load1 (p := ⟨bb_9, 0 + p * 1, none⟩) (by kernel_rfl) (by kernel_rfl) (by rw [show 0 + p * 1 = p by omega]; exact bytesB_cell (HP.held 0 rfl) hpl)) ?_
    intro a H
    refine H.val 46 (.int .u8 ((x.toNat : Nat) : Int)) (by kernel_rfl) (by kernel_rfl) ?_
    intro a H
    refine H.valE 47 (.bool ((((lu.getD p 0).toNat : Nat) : Int) == ((x.toNat : Nat) : Int))) (.bool true) (by kernel_rfl) (by kernel_rfl) ((congrArg Value.bool (hsame))) ?_
    intro a H
    refine H.val 13 (.bool true) (by kernel_rfl) (by kernel_rfl) ?_
    intro a H
    refine wpList_nil ?_
    have H := H.keep (L' := [(13, (.bool true)), (2, (.int .i64 ((p : Nat) : Int))), (41, (.int .i64 ((p : Nat) : Int))), (40, (.int .i64 ((lu.length : Nat) : Int))), (39, (.slice (some ⟨bb_9, 0, none⟩) lu.length cap_10)), (38, (.int .i64 at0)), (12, (.slice (some ⟨bb_9, 0, none⟩) lu.length cap_10)), (37, (.slice (some ⟨bb_9, 0, none⟩) lu.length cap_10)), (36, (.string (bstr lu))), (30, (.bool false)), (29, (.bool false)), (28, (.string (bstr lu))), (27, (.bool false)), (26, (.bool false)), (25, (.int .i64 0)), (10, (.string (bstr lu))), (11, (.int .i64 0)), (9, (.bool true)), (8, (.bool false)), (0, (.int .i64 c)), (3, (.int .u8 ((x.toNat : Nat) : Int)))]) (by kernel_rfl)
    refine then_normal ?_
    refine wp_seq ?_
    refine w_region ?_
    refine H.val 48 (.slice (some ⟨bb_9, 0, none⟩) lu.length cap_10) (by kernel_rfl) (by kernel_rfl) ?_
    intro a H
    refine H.val 49 (.int .i64 ((p : Nat) : Int)) (by kernel_rfl) (by kernel_rfl) ?_
    intro a H
    refine H.val 50 (.int .u8 ((x.toNat : Nat) : Int)) (by kernel_rfl) (by kernel_rfl) ?_
    intro a H
    refine H.val 51 (.pointer (some ⟨bb_9, 0 + p * 1, none⟩)) (by kernel_rfl) (ex_index (b := bb_9) (off := 0) (len := lu.length) (cap := cap_10) (e := 5) (k := 1) (ik := .i64) (i := ((p : Nat) : Int)) (m := p) (by kernel_rfl) (by kernel_rfl) (by omega) (by omega) (by kernel_rfl) (by kernel_rfl)) ?_
    intro a H
    refine H.storeB (e := 5) HP 0 bb_9 p lu cap_10 x (by kernel_rfl) ((by kernel_rfl : _ = Value.pointer (some ⟨bb_9, 0 + p * 1, none⟩)).trans (by rw [show 0 + p * 1 = p by omega])) (by kernel_rfl) (by kernel_rfl) (by kernel_rfl) hpl ?_
    intro w_13 a H HP
    refine wpList_nil ?_
    have HP : Hp w w_13 [(bytesB bb_9 5 (lu.set p x) cap_10), bx b_1 28 [(.int .i64 u.channel), (.int .i64 u.frame), (.int .i64 u.version), (.int .i64 u.item), (.int .i64 u.index), (.bool u.key), (.string (bstr u.data)), (.int .i64 u.regions), (.int .i64 u.gain), (.string (bstr u.caption)), (.int .i64 u.os), (.int .i64 u.of), (.slice u.A u.al.length u.c)] true] [] := HP
    refine then_normal ?_
    refine wp_seq ?_
    refine An.start (fun v => Hp w v [(bytesB bb_9 5 (lu.set p x) cap_10), bx b_1 28 [(.int .i64 u.channel), (.int .i64 u.frame), (.int .i64 u.version), (.int .i64 u.item), (.int .i64 u.index), (.bool u.key), (.string (bstr u.data)), (.int .i64 u.regions), (.int .i64 u.gain), (.string (bstr u.caption)), (.int .i64 u.os), (.int .i64 u.of), (.slice u.A u.al.length u.c)] true] []) 11 11 HP wide_follows rfl ?_
    intro w_14 HP
    refine An.pure H (.inr (HP)) 0 53 (.int .i64 c) rfl (by kernel_rfl) (by kernel_rfl) (fun _ _ _ h => h) (fun _ => by kernel_rfl) ?_
    intro a H
    refine An.pure H (.inr (HP)) 2 55 (.slice (some ⟨bb_9, 0, none⟩) lu.length cap_10) rfl (by kernel_rfl) (by kernel_rfl) (fun _ _ _ h => h) (fun _ => by kernel_rfl) ?_
    intro a H
    refine An.val H (HP) 3 56 (.string (bstr (lu.set p x))) rfl (by kernel_rfl) (by kernel_rfl) (fun _ _ _ h => h) (fun _ hS => ex_b2sR (l := lu.set p x) (e := 5) (m := lu.length) (c := cap_10) (by kernel_rfl) (by have hh := bytesB_rd (hS.held 0 rfl); rw [List.length_set] at hh; exact hh) (by kernel_rfl) (by kernel_rfl) (by kernel_rfl)) ?_
    intro a H
    refine An.two 1 8 (by kernel_rfl) ?_ ?_
    · refine Op.call H 54 rfl (by kernel_rfl) (Eq.trans (by kernel_rfl : _ = (callFunc 14 #[(.int .i64 c)]).run Tryd.prog w_14) (Tryd.call14 _ _)) (rate_any c w_14 hc) ?_
      rintro e w_15 ⟨rfl, hb⟩
      refine ⟨_, rfl, ?_⟩
      intro a H
      have HP := HP.next hb
      refine ⟨.inr (HP), ?_⟩
      refine An.two 4 8 (by kernel_rfl) ?_ ?_
      · refine Op.call H 57 rfl (by kernel_rfl) (Eq.trans (by kernel_rfl : _ = (callFunc 22 #[(.agg #[(.int .i64 ((rateP c).1)), (.int .i64 ((rateP c).2))]), (.string (bstr (lu.set p x)))]).run Tryd.prog w_15) (Tryd.call22 _ _)) ((by have hh := unpack_any (rateP c).1 (rateP c).2 (lu.set p x) w_15 (hL.below (HP.below (by kernel_rfl))) (by rw [List.length_set]; omega); rw [hun] at hh; exact unpSome hh)) ?_
        rintro e w_16 ⟨Bx, cx, rfl, hb⟩
        refine ⟨_, rfl, ?_⟩
        intro a H
        have HP := HP.next hb
        refine ⟨.inr (HP), ?_⟩
        refine An.pure H (.inr (HP)) 5 52 (.tuple #[(.agg #[(.int .i64 U.channel), (.int .i64 U.frame), (.int .i64 U.version), (.int .i64 U.item), (.int .i64 U.index), (.bool U.key), (.string (bstr U.data)), (.int .i64 U.regions), (.int .i64 U.gain), (.string (bstr U.caption)), (.int .i64 U.os), (.int .i64 U.of), (.slice Bx U.al.length cx)]), (.int .i64 0)]) rfl (by kernel_rfl) (by kernel_rfl) (fun _ _ _ h => h) (fun _ => by kernel_rfl) ?_
        intro a H
        refine An.pure H (.inr (HP)) 6 58 (.agg #[(.int .i64 U.channel), (.int .i64 U.frame), (.int .i64 U.version), (.int .i64 U.item), (.int .i64 U.index), (.bool U.key), (.string (bstr U.data)), (.int .i64 U.regions), (.int .i64 U.gain), (.string (bstr U.caption)), (.int .i64 U.os), (.int .i64 U.of), (.slice Bx U.al.length cx)]) rfl (by kernel_rfl) (by kernel_rfl) (fun _ _ _ h => h) (fun _ => by kernel_rfl) ?_
        intro a H
        refine An.pure H (.inr (HP)) 7 59 (.int .i64 0) rfl (by kernel_rfl) (by kernel_rfl) (fun _ _ _ h => h) (fun _ => by kernel_rfl) ?_
        intro a H
        refine An.one 8 (by kernel_rfl) ?_
        refine Op.alloc H HP 14 (fun b => (.pointer (some ⟨b, 0, none⟩))) 28 [(.int .i64 0), (.int .i64 0), (.int .i64 0), (.int .i64 0), (.int .i64 0), (.bool false), (.string (bstr ([]))), (.int .i64 0), (.int .i64 0), (.string (bstr ([]))), (.int .i64 0), (.int .i64 0), (.slice none 0 0)] rfl (by kernel_rfl) (fun w => by kernel_rfl) ?_
        intro b_17 w_18 a H HP
        refine ⟨.inr ((HP.tail rfl)), ?_⟩
        refine An.one 9 (by kernel_rfl) ?_
        refine Op.store H HP 0 b_17 0 13 28 [(.int .i64 0), (.int .i64 0), (.int .i64 0), (.int .i64 0), (.int .i64 0), (.bool false), (.string (bstr ([]))), (.int .i64 0), (.int .i64 0), (.string (bstr ([]))), (.int .i64 0), (.int .i64 0), (.slice none 0 0)] true (.agg #[(.int .i64 U.channel), (.int .i64 U.frame), (.int .i64 U.version), (.int .i64 U.item), (.int .i64 U.index), (.bool U.key), (.string (bstr U.data)), (.int .i64 U.regions), (.int .i64 U.gain), (.string (bstr U.caption)), (.int .i64 U.os), (.int .i64 U.of), (.slice Bx U.al.length cx)]) [bx b_17 28 [(.int .i64 U.channel), (.int .i64 U.frame), (.int .i64 U.version), (.int .i64 U.item), (.int .i64 U.index), (.bool U.key), (.string (bstr U.data)), (.int .i64 U.regions), (.int .i64 U.gain), (.string (bstr U.caption)), (.int .i64 U.os), (.int .i64 U.of), (.slice Bx U.al.length cx)] true, (bytesB bb_9 5 (lu.set p x) cap_10), bx b_1 28 [(.int .i64 u.channel), (.int .i64 u.frame), (.int .i64 u.version), (.int .i64 u.item), (.int .i64 u.index), (.bool u.key), (.string (bstr u.data)), (.int .i64 u.regions), (.int .i64 u.gain), (.string (bstr u.caption)), (.int .i64 u.os), (.int .i64 u.of), (.slice u.A u.al.length u.c)] true] rfl (by kernel_rfl) (by kernel_rfl) (by kernel_rfl) rfl (by kernel_rfl) (by kernel_rfl) (by kernel_rfl) (by kernel_rfl) (by kernel_rfl) ?_
        intro w_19 a H HP
        refine ⟨.inr ((HP.tail rfl)), ?_⟩
        refine An.pure H (.inr ((HP.tail rfl))) 10 15 (.int .i64 0) rfl (by kernel_rfl) (by kernel_rfl) (fun _ _ _ h => h) (fun _ => by kernel_rfl) ?_
        intro a H
        refine An.done (by kernel_rfl) ?_
        have H := H.keep (L' := [(15, (.int .i64 0)), (51, (.pointer (some ⟨bb_9, 0 + p * 1, none⟩))), (50, (.int .u8 ((x.toNat : Nat) : Int))), (49, (.int .i64 ((p : Nat) : Int))), (48, (.slice (some ⟨bb_9, 0, none⟩) lu.length cap_10)), (13, (.bool true)), (2, (.int .i64 ((p : Nat) : Int))), (41, (.int .i64 ((p : Nat) : Int))), (40, (.int .i64 ((lu.length : Nat) : Int))), (39, (.slice (some ⟨bb_9, 0, none⟩) lu.length cap_10)), (38, (.int .i64 at0)), (12, (.slice (some ⟨bb_9, 0, none⟩) lu.length cap_10)), (37, (.slice (some ⟨bb_9, 0, none⟩) lu.length cap_10)), (36, (.string (bstr lu))), (30, (.bool false)), (29, (.bool false)), (28, (.string (bstr lu))), (27, (.bool false)), (26, (.bool false)), (25, (.int .i64 0)), (10, (.string (bstr lu))), (11, (.int .i64 0)), (9, (.bool true)), (8, (.bool false)), (0, (.int .i64 c)), (3, (.int .u8 ((x.toNat : Nat) : Int)))]) (by kernel_rfl)
        refine then_normal ?_
        refine wp_seq ?_
        refine w_region ?_
        refine H.val 60 (.bool true) (by kernel_rfl) (by kernel_rfl) ?_
        intro a H
        refine H.val 61 (.bool true) (by kernel_rfl) (by kernel_rfl) ?_
        intro a H
        refine H.val 62 (.int .i64 0) (by kernel_rfl) (by kernel_rfl) ?_
        intro a H
        refine H.val 63 (.bool true) (by kernel_rfl) (by kernel_rfl) ?_
        intro a H
        refine H.val 64 (.bool true) (by kernel_rfl) (by kernel_rfl) ?_
        intro a H
        refine H.val 65 (.bool true) (by kernel_rfl) (by kernel_rfl) ?_
        intro a H
        refine H.val 66 (.bool true) (by kernel_rfl) (by kernel_rfl) ?_
        intro a H
        refine H.val 67 (.bool true) (by kernel_rfl) (by kernel_rfl) ?_
        intro a H
        refine H.val 68 (.bool true) (by kernel_rfl) (by kernel_rfl) ?_
        intro a H
        refine H.val 69 (.bool true) (by kernel_rfl) (by kernel_rfl) ?_
        intro a H
        refine H.skip 70 (by kernel_rfl) ?_
        intro a H
        refine H.skip 71 (by kernel_rfl) ?_
        intro a H
        refine H.val 72 (.bool true) (by kernel_rfl) (by kernel_rfl) ?_
        intro a H
        refine H.val 73 (.bool true) (by kernel_rfl) (by kernel_rfl) ?_
        intro a H
        refine H.val 8 (.bool true) (by kernel_rfl) (by kernel_rfl) ?_
        intro a H
        refine wpList_nil ?_
        have H := H.keep (L' := [(8, (.bool true)), (15, (.int .i64 0)), (51, (.pointer (some ⟨bb_9, 0 + p * 1, none⟩))), (50, (.int .u8 ((x.toNat : Nat) : Int))), (49, (.int .i64 ((p : Nat) : Int))), (48, (.slice (some ⟨bb_9, 0, none⟩) lu.length cap_10)), (13, (.bool true)), (2, (.int .i64 ((p : Nat) : Int))), (41, (.int .i64 ((p : Nat) : Int))), (40, (.int .i64 ((lu.length : Nat) : Int))), (39, (.slice (some ⟨bb_9, 0, none⟩) lu.length cap_10)), (38, (.int .i64 at0)), (12, (.slice (some ⟨bb_9, 0, none⟩) lu.length cap_10)), (37, (.slice (some ⟨bb_9, 0, none⟩) lu.length cap_10)), (36, (.string (bstr lu))), (30, (.bool false)), (29, (.bool false)), (28, (.string (bstr lu))), (27, (.bool false)), (26, (.bool false)), (25, (.int .i64 0)), (10, (.string (bstr lu))), (11, (.int .i64 0)), (9, (.bool true)), (0, (.int .i64 c)), (3, (.int .u8 ((x.toNat : Nat) : Int)))]) (by kernel_rfl)
        refine then_normal ?_
        refine wp_ret ?_
        refine H.ret1 (fn := Tryd.f9) Tryd.results9 (RV.tmp_ (v := (.bool true)) (by kernel_rfl)) ?_
        exact ⟨rfl, (HP.below (by kernel_rfl))⟩
      · refine Op.alloc H HP 14 (fun b => (.pointer (some ⟨b, 0, none⟩))) 28 [(.int .i64 0), (.int .i64 0), (.int .i64 0), (.int .i64 0), (.int .i64 0), (.bool false), (.string (bstr ([]))), (.int .i64 0), (.int .i64 0), (.string (bstr ([]))), (.int .i64 0), (.int .i64 0), (.slice none 0 0)] rfl (by kernel_rfl) (fun w => by kernel_rfl) ?_
        intro b_20 w_21 a H HP
        refine ⟨.inr ((HP.tail rfl)), ?_⟩
        refine An.one 4 (by kernel_rfl) ?_
        refine Op.call H 57 rfl (by kernel_rfl) (Eq.trans (by kernel_rfl : _ = (callFunc 22 #[(.agg #[(.int .i64 ((rateP c).1)), (.int .i64 ((rateP c).2))]), (.string (bstr (lu.set p x)))]).run Tryd.prog w_21) (Tryd.call22 _ _)) ((by have hh := unpack_any (rateP c).1 (rateP c).2 (lu.set p x) w_21 (hL.below (HP.below (by kernel_rfl))) (by rw [List.length_set]; omega); rw [hun] at hh; exact unpSome hh)) ?_
        rintro e w_22 ⟨Bx, cx, rfl, hb⟩
        refine ⟨_, rfl, ?_⟩
        intro a H
        have HP := HP.next hb
        refine ⟨.inr ((HP.tail rfl)), ?_⟩
        refine An.pure H (.inr ((HP.tail rfl))) 5 52 (.tuple #[(.agg #[(.int .i64 U.channel), (.int .i64 U.frame), (.int .i64 U.version), (.int .i64 U.item), (.int .i64 U.index), (.bool U.key), (.string (bstr U.data)), (.int .i64 U.regions), (.int .i64 U.gain), (.string (bstr U.caption)), (.int .i64 U.os), (.int .i64 U.of), (.slice Bx U.al.length cx)]), (.int .i64 0)]) rfl (by kernel_rfl) (by kernel_rfl) (fun _ _ _ h => h) (fun _ => by kernel_rfl) ?_
        intro a H
        refine An.pure H (.inr ((HP.tail rfl))) 6 58 (.agg #[(.int .i64 U.channel), (.int .i64 U.frame), (.int .i64 U.version), (.int .i64 U.item), (.int .i64 U.index), (.bool U.key), (.string (bstr U.data)), (.int .i64 U.regions), (.int .i64 U.gain), (.string (bstr U.caption)), (.int .i64 U.os), (.int .i64 U.of), (.slice Bx U.al.length cx)]) rfl (by kernel_rfl) (by kernel_rfl) (fun _ _ _ h => h) (fun _ => by kernel_rfl) ?_
        intro a H
        refine An.pure H (.inr ((HP.tail rfl))) 7 59 (.int .i64 0) rfl (by kernel_rfl) (by kernel_rfl) (fun _ _ _ h => h) (fun _ => by kernel_rfl) ?_
        intro a H
        refine An.one 9 (by kernel_rfl) ?_
        refine Op.store H HP 0 b_20 0 13 28 [(.int .i64 0), (.int .i64 0), (.int .i64 0), (.int .i64 0), (.int .i64 0), (.bool false), (.string (bstr ([]))), (.int .i64 0), (.int .i64 0), (.string (bstr ([]))), (.int .i64 0), (.int .i64 0), (.slice none 0 0)] true (.agg #[(.int .i64 U.channel), (.int .i64 U.frame), (.int .i64 U.version), (.int .i64 U.item), (.int .i64 U.index), (.bool U.key), (.string (bstr U.data)), (.int .i64 U.regions), (.int .i64 U.gain), (.string (bstr U.caption)), (.int .i64 U.os), (.int .i64 U.of), (.slice Bx U.al.length cx)]) [bx b_20 28 [(.int .i64 U.channel), (.int .i64 U.frame), (.int .i64 U.version), (.int .i64 U.item), (.int .i64 U.index), (.bool U.key), (.string (bstr U.data)), (.int .i64 U.regions), (.int .i64 U.gain), (.string (bstr U.caption)), (.int .i64 U.os), (.int .i64 U.of), (.slice Bx U.al.length cx)] true, (bytesB bb_9 5 (lu.set p x) cap_10), bx b_1 28 [(.int .i64 u.channel), (.int .i64 u.frame), (.int .i64 u.version), (.int .i64 u.item), (.int .i64 u.index), (.bool u.key), (.string (bstr u.data)), (.int .i64 u.regions), (.int .i64 u.gain), (.string (bstr u.caption)), (.int .i64 u.os), (.int .i64 u.of), (.slice u.A u.al.length u.c)] true] rfl (by kernel_rfl) (by kernel_rfl) (by kernel_rfl) rfl (by kernel_rfl) (by kernel_rfl) (by kernel_rfl) (by kernel_rfl) (by kernel_rfl) ?_
        intro w_23 a H HP
        refine ⟨.inr ((HP.tail rfl)), ?_⟩
        refine An.pure H (.inr ((HP.tail rfl))) 10 15 (.int .i64 0) rfl (by kernel_rfl) (by kernel_rfl) (fun _ _ _ h => h) (fun _ => by kernel_rfl) ?_
        intro a H
        refine An.done (by kernel_rfl) ?_
        have H := H.keep (L' := [(15, (.int .i64 0)), (51, (.pointer (some ⟨bb_9, 0 + p * 1, none⟩))), (50, (.int .u8 ((x.toNat : Nat) : Int))), (49, (.int .i64 ((p : Nat) : Int))), (48, (.slice (some ⟨bb_9, 0, none⟩) lu.length cap_10)), (13, (.bool true)), (2, (.int .i64 ((p : Nat) : Int))), (41, (.int .i64 ((p : Nat) : Int))), (40, (.int .i64 ((lu.length : Nat) : Int))), (39, (.slice (some ⟨bb_9, 0, none⟩) lu.length cap_10)), (38, (.int .i64 at0)), (12, (.slice (some ⟨bb_9, 0, none⟩) lu.length cap_10)), (37, (.slice (some ⟨bb_9, 0, none⟩) lu.length cap_10)), (36, (.string (bstr lu))), (30, (.bool false)), (29, (.bool false)), (28, (.string (bstr lu))), (27, (.bool false)), (26, (.bool false)), (25, (.int .i64 0)), (10, (.string (bstr lu))), (11, (.int .i64 0)), (9, (.bool true)), (8, (.bool false)), (0, (.int .i64 c)), (3, (.int .u8 ((x.toNat : Nat) : Int)))]) (by kernel_rfl)
        refine then_normal ?_
        refine wp_seq ?_
        refine w_region ?_
        refine H.val 60 (.bool true) (by kernel_rfl) (by kernel_rfl) ?_
        intro a H
        refine H.val 61 (.bool true) (by kernel_rfl) (by kernel_rfl) ?_
        intro a H
        refine H.val 62 (.int .i64 0) (by kernel_rfl) (by kernel_rfl) ?_
        intro a H
        refine H.val 63 (.bool true) (by kernel_rfl) (by kernel_rfl) ?_
        intro a H
        refine H.val 64 (.bool true) (by kernel_rfl) (by kernel_rfl) ?_
        intro a H
        refine H.val 65 (.bool true) (by kernel_rfl) (by kernel_rfl) ?_
        intro a H
        refine H.val 66 (.bool true) (by kernel_rfl) (by kernel_rfl) ?_
        intro a H
        refine H.val 67 (.bool true) (by kernel_rfl) (by kernel_rfl) ?_
        intro a H
        refine H.val 68 (.bool true) (by kernel_rfl) (by kernel_rfl) ?_
        intro a H
        refine H.val 69 (.bool true) (by kernel_rfl) (by kernel_rfl) ?_
        intro a H
        refine H.skip 70 (by kernel_rfl) ?_
        intro a H
        refine H.skip 71 (by kernel_rfl) ?_
        intro a H
        refine H.val 72 (.bool true) (by kernel_rfl) (by kernel_rfl) ?_
        intro a H
        refine H.val 73 (.bool true) (by kernel_rfl) (by kernel_rfl) ?_
        intro a H
        refine H.val 8 (.bool true) (by kernel_rfl) (by kernel_rfl) ?_
        intro a H
        refine wpList_nil ?_
        have H := H.keep (L' := [(8, (.bool true)), (15, (.int .i64 0)), (51, (.pointer (some ⟨bb_9, 0 + p * 1, none⟩))), (50, (.int .u8 ((x.toNat : Nat) : Int))), (49, (.int .i64 ((p : Nat) : Int))), (48, (.slice (some ⟨bb_9, 0, none⟩) lu.length cap_10)), (13, (.bool true)), (2, (.int .i64 ((p : Nat) : Int))), (41, (.int .i64 ((p : Nat) : Int))), (40, (.int .i64 ((lu.length : Nat) : Int))), (39, (.slice (some ⟨bb_9, 0, none⟩) lu.length cap_10)), (38, (.int .i64 at0)), (12, (.slice (some ⟨bb_9, 0, none⟩) lu.length cap_10)), (37, (.slice (some ⟨bb_9, 0, none⟩) lu.length cap_10)), (36, (.string (bstr lu))), (30, (.bool false)), (29, (.bool false)), (28, (.string (bstr lu))), (27, (.bool false)), (26, (.bool false)), (25, (.int .i64 0)), (10, (.string (bstr lu))), (11, (.int .i64 0)), (9, (.bool true)), (0, (.int .i64 c)), (3, (.int .u8 ((x.toNat : Nat) : Int)))]) (by kernel_rfl)
        refine then_normal ?_
        refine wp_ret ?_
        refine H.ret1 (fn := Tryd.f9) Tryd.results9 (RV.tmp_ (v := (.bool true)) (by kernel_rfl)) ?_
        exact ⟨rfl, (HP.below (by kernel_rfl))⟩
    · refine Op.alloc H HP 14 (fun b => (.pointer (some ⟨b, 0, none⟩))) 28 [(.int .i64 0), (.int .i64 0), (.int .i64 0), (.int .i64 0), (.int .i64 0), (.bool false), (.string (bstr ([]))), (.int .i64 0), (.int .i64 0), (.string (bstr ([]))), (.int .i64 0), (.int .i64 0), (.slice none 0 0)] rfl (by kernel_rfl) (fun w => by kernel_rfl) ?_
      intro b_24 w_25 a H HP
      refine ⟨.inr ((HP.tail rfl)), ?_⟩
      refine An.one 1 (by kernel_rfl) ?_
      refine Op.call H 54 rfl (by kernel_rfl) (Eq.trans (by kernel_rfl : _ = (callFunc 14 #[(.int .i64 c)]).run Tryd.prog w_25) (Tryd.call14 _ _)) (rate_any c w_25 hc) ?_
      rintro e w_26 ⟨rfl, hb⟩
      refine ⟨_, rfl, ?_⟩
      intro a H
      have HP := HP.next hb
      refine ⟨.inr ((HP.tail rfl)), ?_⟩
      refine An.one 4 (by kernel_rfl) ?_
      refine Op.call H 57 rfl (by kernel_rfl) (Eq.trans (by kernel_rfl : _ = (callFunc 22 #[(.agg #[(.int .i64 ((rateP c).1)), (.int .i64 ((rateP c).2))]), (.string (bstr (lu.set p x)))]).run Tryd.prog w_26) (Tryd.call22 _ _)) ((by have hh := unpack_any (rateP c).1 (rateP c).2 (lu.set p x) w_26 (hL.below (HP.below (by kernel_rfl))) (by rw [List.length_set]; omega); rw [hun] at hh; exact unpSome hh)) ?_
      rintro e w_27 ⟨Bx, cx, rfl, hb⟩
      refine ⟨_, rfl, ?_⟩
      intro a H
      have HP := HP.next hb
      refine ⟨.inr ((HP.tail rfl)), ?_⟩
      refine An.pure H (.inr ((HP.tail rfl))) 5 52 (.tuple #[(.agg #[(.int .i64 U.channel), (.int .i64 U.frame), (.int .i64 U.version), (.int .i64 U.item), (.int .i64 U.index), (.bool U.key), (.string (bstr U.data)), (.int .i64 U.regions), (.int .i64 U.gain), (.string (bstr U.caption)), (.int .i64 U.os), (.int .i64 U.of), (.slice Bx U.al.length cx)]), (.int .i64 0)]) rfl (by kernel_rfl) (by kernel_rfl) (fun _ _ _ h => h) (fun _ => by kernel_rfl) ?_
      intro a H
      refine An.pure H (.inr ((HP.tail rfl))) 6 58 (.agg #[(.int .i64 U.channel), (.int .i64 U.frame), (.int .i64 U.version), (.int .i64 U.item), (.int .i64 U.index), (.bool U.key), (.string (bstr U.data)), (.int .i64 U.regions), (.int .i64 U.gain), (.string (bstr U.caption)), (.int .i64 U.os), (.int .i64 U.of), (.slice Bx U.al.length cx)]) rfl (by kernel_rfl) (by kernel_rfl) (fun _ _ _ h => h) (fun _ => by kernel_rfl) ?_
      intro a H
      refine An.pure H (.inr ((HP.tail rfl))) 7 59 (.int .i64 0) rfl (by kernel_rfl) (by kernel_rfl) (fun _ _ _ h => h) (fun _ => by kernel_rfl) ?_
      intro a H
      refine An.one 9 (by kernel_rfl) ?_
      refine Op.store H HP 0 b_24 0 13 28 [(.int .i64 0), (.int .i64 0), (.int .i64 0), (.int .i64 0), (.int .i64 0), (.bool false), (.string (bstr ([]))), (.int .i64 0), (.int .i64 0), (.string (bstr ([]))), (.int .i64 0), (.int .i64 0), (.slice none 0 0)] true (.agg #[(.int .i64 U.channel), (.int .i64 U.frame), (.int .i64 U.version), (.int .i64 U.item), (.int .i64 U.index), (.bool U.key), (.string (bstr U.data)), (.int .i64 U.regions), (.int .i64 U.gain), (.string (bstr U.caption)), (.int .i64 U.os), (.int .i64 U.of), (.slice Bx U.al.length cx)]) [bx b_24 28 [(.int .i64 U.channel), (.int .i64 U.frame), (.int .i64 U.version), (.int .i64 U.item), (.int .i64 U.index), (.bool U.key), (.string (bstr U.data)), (.int .i64 U.regions), (.int .i64 U.gain), (.string (bstr U.caption)), (.int .i64 U.os), (.int .i64 U.of), (.slice Bx U.al.length cx)] true, (bytesB bb_9 5 (lu.set p x) cap_10), bx b_1 28 [(.int .i64 u.channel), (.int .i64 u.frame), (.int .i64 u.version), (.int .i64 u.item), (.int .i64 u.index), (.bool u.key), (.string (bstr u.data)), (.int .i64 u.regions), (.int .i64 u.gain), (.string (bstr u.caption)), (.int .i64 u.os), (.int .i64 u.of), (.slice u.A u.al.length u.c)] true] rfl (by kernel_rfl) (by kernel_rfl) (by kernel_rfl) rfl (by kernel_rfl) (by kernel_rfl) (by kernel_rfl) (by kernel_rfl) (by kernel_rfl) ?_
      intro w_28 a H HP
      refine ⟨.inr ((HP.tail rfl)), ?_⟩
      refine An.pure H (.inr ((HP.tail rfl))) 10 15 (.int .i64 0) rfl (by kernel_rfl) (by kernel_rfl) (fun _ _ _ h => h) (fun _ => by kernel_rfl) ?_
      intro a H
      refine An.done (by kernel_rfl) ?_
      have H := H.keep (L' := [(15, (.int .i64 0)), (51, (.pointer (some ⟨bb_9, 0 + p * 1, none⟩))), (50, (.int .u8 ((x.toNat : Nat) : Int))), (49, (.int .i64 ((p : Nat) : Int))), (48, (.slice (some ⟨bb_9, 0, none⟩) lu.length cap_10)), (13, (.bool true)), (2, (.int .i64 ((p : Nat) : Int))), (41, (.int .i64 ((p : Nat) : Int))), (40, (.int .i64 ((lu.length : Nat) : Int))), (39, (.slice (some ⟨bb_9, 0, none⟩) lu.length cap_10)), (38, (.int .i64 at0)), (12, (.slice (some ⟨bb_9, 0, none⟩) lu.length cap_10)), (37, (.slice (some ⟨bb_9, 0, none⟩) lu.length cap_10)), (36, (.string (bstr lu))), (30, (.bool false)), (29, (.bool false)), (28, (.string (bstr lu))), (27, (.bool false)), (26, (.bool false)), (25, (.int .i64 0)), (10, (.string (bstr lu))), (11, (.int .i64 0)), (9, (.bool true)), (8, (.bool false)), (0, (.int .i64 c)), (3, (.int .u8 ((x.toNat : Nat) : Int)))]) (by kernel_rfl)
      refine then_normal ?_
      refine wp_seq ?_
      refine w_region ?_
      refine H.val 60 (.bool true) (by kernel_rfl) (by kernel_rfl) ?_
      intro a H
      refine H.val 61 (.bool true) (by kernel_rfl) (by kernel_rfl) ?_
      intro a H
      refine H.val 62 (.int .i64 0) (by kernel_rfl) (by kernel_rfl) ?_
      intro a H
      refine H.val 63 (.bool true) (by kernel_rfl) (by kernel_rfl) ?_
      intro a H
      refine H.val 64 (.bool true) (by kernel_rfl) (by kernel_rfl) ?_
      intro a H
      refine H.val 65 (.bool true) (by kernel_rfl) (by kernel_rfl) ?_
      intro a H
      refine H.val 66 (.bool true) (by kernel_rfl) (by kernel_rfl) ?_
      intro a H
      refine H.val 67 (.bool true) (by kernel_rfl) (by kernel_rfl) ?_
      intro a H
      refine H.val 68 (.bool true) (by kernel_rfl) (by kernel_rfl) ?_
      intro a H
      refine H.val 69 (.bool true) (by kernel_rfl) (by kernel_rfl) ?_
      intro a H
      refine H.skip 70 (by kernel_rfl) ?_
      intro a H
      refine H.skip 71 (by kernel_rfl) ?_
      intro a H
      refine H.val 72 (.bool true) (by kernel_rfl) (by kernel_rfl) ?_
      intro a H
      refine H.val 73 (.bool true) (by kernel_rfl) (by kernel_rfl) ?_
      intro a H
      refine H.val 8 (.bool true) (by kernel_rfl) (by kernel_rfl) ?_
      intro a H
      refine wpList_nil ?_
      have H := H.keep (L' := [(8, (.bool true)), (15, (.int .i64 0)), (51, (.pointer (some ⟨bb_9, 0 + p * 1, none⟩))), (50, (.int .u8 ((x.toNat : Nat) : Int))), (49, (.int .i64 ((p : Nat) : Int))), (48, (.slice (some ⟨bb_9, 0, none⟩) lu.length cap_10)), (13, (.bool true)), (2, (.int .i64 ((p : Nat) : Int))), (41, (.int .i64 ((p : Nat) : Int))), (40, (.int .i64 ((lu.length : Nat) : Int))), (39, (.slice (some ⟨bb_9, 0, none⟩) lu.length cap_10)), (38, (.int .i64 at0)), (12, (.slice (some ⟨bb_9, 0, none⟩) lu.length cap_10)), (37, (.slice (some ⟨bb_9, 0, none⟩) lu.length cap_10)), (36, (.string (bstr lu))), (30, (.bool false)), (29, (.bool false)), (28, (.string (bstr lu))), (27, (.bool false)), (26, (.bool false)), (25, (.int .i64 0)), (10, (.string (bstr lu))), (11, (.int .i64 0)), (9, (.bool true)), (0, (.int .i64 c)), (3, (.int .u8 ((x.toNat : Nat) : Int)))]) (by kernel_rfl)
      refine then_normal ?_
      refine wp_ret ?_
      refine H.ret1 (fn := Tryd.f9) Tryd.results9 (RV.tmp_ (v := (.bool true)) (by kernel_rfl)) ?_
      exact ⟨rfl, (HP.below (by kernel_rfl))⟩
set_option maxRecDepth 100000 in
set_option maxHeartbeats 4000000 in
theorem dmg_f (c : Int) (u U : Un) (at0 : Int) (x : UInt8) (w : World) (hU : shortU u = U) (hL : Laid w) (hc : -9223372036854775808 ≤ c ∧ c ≤ 9223372036854775807) (hat : -9223372036854775808 ≤ at0 ∧ at0 ≤ 9223372036854775807) (huu : IsAlts w u.A u.al.length u.al) (hcu : u.al.length ≤ u.c) (hAu : u.A = none → u.c = 0) (lu : List UInt8) (hZu : ∀ B c', packP (rateP c).1 (rateP c).2 ({ U with A := B, c := c' } : Un) = some lu) (p : Nat) (hp : pickI at0 ((lu.length : Nat) : Int) = ((p : Nat) : Int)) (hpl : p < lu.length) (hsame : ((((lu.getD p 0).toNat : Nat) : Int) == ((x.toNat : Nat) : Int)) = false) (hun : unpackP (rateP c).1 (rateP c).2 (lu.set p x) = none) :
    Calls Tryd.prog 9 #[.int .i64 c, u.val, .int .i64 at0, .int .u8 ((x.toNat : Nat) : Int)] w fun e w' => e = .returned (.bool true) ∧ Below w.heap.size w w' := by
  have HP := Hp.start w
  obtain ⟨hlu, hlu1, hlu2⟩ := pack_len (hZu none 0)
  have hne : lu ≠ [] := fun e => by subst e; simp at hlu; omega
  refine w_enter 74 [(0, (.int .i64 c)), (1, (.agg #[(.int .i64 u.channel), (.int .i64 u.frame), (.int .i64 u.version), (.int .i64 u.item), (.int .i64 u.index), (.bool u.key), (.string (bstr u.data)), (.int .i64 u.regions), (.int .i64 u.gain), (.string (bstr u.caption)), (.int .i64 u.os), (.int .i64 u.of), (.slice u.A u.al.length u.c)])), (2, (.int .i64 at0)), (3, (.int .u8 ((x.toNat : Nat) : Int)))] Tryd.func9 rfl Tryd.ntmps9 (by kernel_rfl) (by kernel_rfl) ?_
  intro a H
  refine wp_seq ?_
  refine w_region ?_
  refine H.alloc HP 5 (fun b => (.pointer (some ⟨b, 0, none⟩))) 28 [(.int .i64 u.channel), (.int .i64 u.frame), (.int .i64 u.version), (.int .i64 u.item), (.int .i64 u.index), (.bool u.key), (.string (bstr u.data)), (.int .i64 u.regions), (.int .i64 u.gain), (.string (bstr u.caption)), (.int .i64 u.os), (.int .i64 u.of), (.slice u.A u.al.length u.c)] (by kernel_rfl) (fun w => by kernel_rfl) ?_
  intro b_1 w_2 a H HP
  refine H.val 8 (.bool false) (by kernel_rfl) (by kernel_rfl) ?_
  intro a H
  refine wpList_nil ?_
  refine then_normal ?_
  refine wp_seq ?_
  refine w_region ?_
  refine H.call 16 (by kernel_rfl) (Eq.trans (by kernel_rfl : _ = (callFunc 13 #[]).run Tryd.prog w_2) (Tryd.call13 _ _)) (sane_any w_2 (hL.below (HP.below (by kernel_rfl)))) ?_
  rintro e w_3 ⟨rfl, hb⟩
  refine ⟨_, rfl, ?_⟩
  intro a H
  have HP := HP.next hb
  refine H.val 9 (.bool true) (by kernel_rfl) (by kernel_rfl) ?_
  intro a H
  refine wpList_nil ?_
  refine then_normal ?_
  refine w_cut (fun a wv => Sl 74 [(10, (.string (bstr lu))), (11, (.int .i64 0)), (9, (.bool true)), (8, (.bool false)), (0, (.int .i64 c)), (2, (.int .i64 at0)), (3, (.int .u8 ((x.toNat : Nat) : Int)))] a ∧ Hp w wv [bx b_1 28 [(.int .i64 u.channel), (.int .i64 u.frame), (.int .i64 u.version), (.int .i64 u.item), (.int .i64 u.index), (.bool u.key), (.string (bstr u.data)), (.int .i64 u.regions), (.int .i64 u.gain), (.string (bstr u.caption)), (.int .i64 u.os), (.int .i64 u.of), (.slice u.A u.al.length u.c)] true] []) ?_ ?_
  ·
    refine An.start (fun v => Hp w v [bx b_1 28 [(.int .i64 u.channel), (.int .i64 u.frame), (.int .i64 u.version), (.int .i64 u.item), (.int .i64 u.index), (.bool u.key), (.string (bstr u.data)), (.int .i64 u.regions), (.int .i64 u.gain), (.string (bstr u.caption)), (.int .i64 u.os), (.int .i64 u.of), (.slice u.A u.al.length u.c)] true] []) 10 10 HP wide_follows rfl ?_
    intro w_4 HP
    refine An.pure H (.inr (HP)) 0 18 (.int .i64 c) rfl (by kernel_rfl) (by kernel_rfl) (fun _ _ _ h => h) (fun _ => by kernel_rfl) ?_
    intro a H
    refine An.val H (HP) 2 20 (.agg #[(.int .i64 u.channel), (.int .i64 u.frame), (.int .i64 u.version), (.int .i64 u.item), (.int .i64 u.index), (.bool u.key), (.string (bstr u.data)), (.int .i64 u.regions), (.int .i64 u.gain), (.string (bstr u.caption)), (.int .i64 u.os), (.int .i64 u.of), (.slice u.A u.al.length u.c)]) rfl (by kernel_rfl) (by kernel_rfl) (fun _ _ _ h => h) (fun _ hS => ex_loadN (vs := [(.int .i64 u.channel), (.int .i64 u.frame), (.int .i64 u.version), (.int .i64 u.item), (.int .i64 u.index), (.bool u.key), (.string (bstr u.data)), (.int .i64 u.regions), (.int .i64 u.gain), (.string (bstr u.caption)), (.int .i64 u.os), (.int .i64 u.of), (.slice u.A u.al.length u.c)]) (by kernel_rfl) (by kernel_rfl) (by kernel_rfl) rfl (hS.cells 0 rfl 0 13 (by kernel_rfl))) ?_
    intro a H
    refine An.one 1 (by kernel_rfl) ?_
    refine Op.call H 19 rfl (by kernel_rfl) (Eq.trans (by kernel_rfl : _ = (callFunc 14 #[(.int .i64 c)]).run Tryd.prog w_4) (Tryd.call14 _ _)) (rate_any c w_4 hc) ?_
    rintro e w_5 ⟨rfl, hb⟩
    refine ⟨_, rfl, ?_⟩
    intro a H
    have HP := HP.next hb
    refine ⟨.inr (HP), ?_⟩
    refine An.one 3 (by kernel_rfl) ?_
    refine Op.call H 21 rfl (by kernel_rfl) (Eq.trans (by kernel_rfl : _ = (callFunc 15 #[(.agg #[(.int .i64 u.channel), (.int .i64 u.frame), (.int .i64 u.version), (.int .i64 u.item), (.int .i64 u.index), (.bool u.key), (.string (bstr u.data)), (.int .i64 u.regions), (.int .i64 u.gain), (.string (bstr u.caption)), (.int .i64 u.os), (.int .i64 u.of), (.slice u.A u.al.length u.c)])]).run Tryd.prog w_5) (Tryd.call15 _ _)) (short_anyU hU (short_any u w_5 (huu.below (HP.below (by kernel_rfl))) hcu hAu)) ?_
    rintro e w_6 ⟨Bu, cu, rfl, halu, hcau, hcbu, hccu, hfru, hb⟩
    refine ⟨_, rfl, ?_⟩
    intro a H
    have HP := (HP.next hb).keepF ⟨rowFp U.al.length Bu, fun w => IsAlts w Bu U.al.length U.al⟩ halu (fun _ _ h hk hs => ⟨h.1, h.2.keep hk hs⟩) (fun j hj => row_sep HP halu.2 hfru hj)
    refine ⟨.inr (HP.untop), ?_⟩
    refine An.one 4 (by kernel_rfl) ?_
    refine Op.call H 22 rfl (by kernel_rfl) (Eq.trans (by kernel_rfl : _ = (callFunc 16 #[(.agg #[(.int .i64 ((rateP c).1)), (.int .i64 ((rateP c).2))]), (.agg #[(.int .i64 U.channel), (.int .i64 U.frame), (.int .i64 U.version), (.int .i64 U.item), (.int .i64 U.index), (.bool U.key), (.string (bstr U.data)), (.int .i64 U.regions), (.int .i64 U.gain), (.string (bstr U.caption)), (.int .i64 U.os), (.int .i64 U.of), (.slice Bu U.al.length cu)])]).run Tryd.prog w_6) (Tryd.call16 _ _)) ((by have hh := pack_any ((rateP c).1) ((rateP c).2) (⟨U.channel, U.frame, U.version, U.item, U.index, U.key, U.data, U.regions, U.gain, U.caption, U.os, U.of, Bu, cu, U.al⟩ : Un) w_6 (hL.below (HP.below (by kernel_rfl))) (HP.fact 0 rfl) (Nat.le_trans hcau hcbu); rw [hZu Bu cu] at hh; exact hh)) ?_
    rintro e w_7 ⟨rfl, hb⟩
    refine ⟨_, rfl, ?_⟩
    intro a H
    have HP := HP.next hb
    refine ⟨.inr (HP.untop), ?_⟩
    refine An.pure H (.inr (HP.untop)) 5 17 (.tuple #[(.string (bstr lu)), (.int .i64 0)]) rfl (by kernel_rfl) (by kernel_rfl) (fun _ _ _ h => h) (fun _ => by kernel_rfl) ?_
    intro a H
    refine An.pure H (.inr (HP.untop)) 6 23 (.string (bstr lu)) rfl (by kernel_rfl) (by kernel_rfl) (fun _ _ _ h => h) (fun _ => by kernel_rfl) ?_
    intro a H
    refine An.pure H (.inr (HP.untop)) 7 24 (.int .i64 0) rfl (by kernel_rfl) (by kernel_rfl) (fun _ _ _ h => h) (fun _ => by kernel_rfl) ?_
    intro a H
    refine An.pure H (.inr (HP.untop)) 8 10 (.string (bstr lu)) rfl (by kernel_rfl) (by kernel_rfl) (fun _ _ _ h => h) (fun _ => by kernel_rfl) ?_
    intro a H
    refine An.pure H (.inr (HP.untop)) 9 11 (.int .i64 0) rfl (by kernel_rfl) (by kernel_rfl) (fun _ _ _ h => h) (fun _ => by kernel_rfl) ?_
    intro a H
    refine An.done (by kernel_rfl) ?_
    have H := H.keep (L' := [(11, (.int .i64 0)), (10, (.string (bstr lu))), (9, (.bool true)), (16, (.bool true)), (8, (.bool false)), (5, (.pointer (some ⟨b_1, 0, none⟩))), (0, (.int .i64 c)), (1, (.agg #[(.int .i64 u.channel), (.int .i64 u.frame), (.int .i64 u.version), (.int .i64 u.item), (.int .i64 u.index), (.bool u.key), (.string (bstr u.data)), (.int .i64 u.regions), (.int .i64 u.gain), (.string (bstr u.caption)), (.int .i64 u.os), (.int .i64 u.of), (.slice u.A u.al.length u.c)])), (2, (.int .i64 at0)), (3, (.int .u8 ((x.toNat : Nat) : Int)))]) (by kernel_rfl)
    refine then_normal ?_
    exact ⟨H.keep (by kernel_rfl), HP.untop⟩
  ·
    rintro a w_8 ⟨H, HP⟩
    refine wp_seq ?_
    refine wp_seq ?_
    refine w_region ?_
    refine H.val 25 (.int .i64 0) (by kernel_rfl) (by kernel_rfl) ?_
    intro a H
    refine H.val 26 (.bool false) (by kernel_rfl) (by kernel_rfl) ?_
    intro a H
    refine H.val 27 (.bool false) (by kernel_rfl) (by kernel_rfl) ?_
    intro a H
    refine H.val 28 (.string (bstr lu)) (by kernel_rfl) (by kernel_rfl) ?_
    intro a H
    refine H.valE 29 (.bool ((bstr lu).toList == (bstr []).toList)) (.bool false) (by kernel_rfl) (by kernel_rfl) ((congrArg Value.bool ((bstr_eq _ _).trans (beq_eq_false_iff_ne.2 hne)))) ?_
    intro a H
    refine H.val 30 (.bool false) (by kernel_rfl) (by kernel_rfl) ?_
    intro a H
    refine wpList_nil ?_
    refine then_normal ?_
    refine w_iff H rfl ?_
    refine wp_skip ?_
    refine then_normal ?_
    refine wp_seq ?_
    refine w_region ?_
    refine H.val 36 (.string (bstr lu)) (by kernel_rfl) (by kernel_rfl) ?_
    intro a H
    refine H.s2b HP 37 lu (e := 5) (by kernel_rfl) (by kernel_rfl) (by kernel_rfl) (by kernel_rfl) (by kernel_rfl) ?_
    intro bb_9 cap_10 w_11 a H HP
    refine H.val 12 (.slice (some ⟨bb_9, 0, none⟩) lu.length cap_10) (by kernel_rfl) (by kernel_rfl) ?_
    intro a H
    refine wpList_nil ?_
    refine then_normal ?_
    refine wp_seq ?_
    refine w_region ?_
    refine H.val 38 (.int .i64 at0) (by kernel_rfl) (by kernel_rfl) ?_
    intro a H
    refine H.val 39 (.slice (some ⟨bb_9, 0, none⟩) lu.length cap_10) (by kernel_rfl) (by kernel_rfl) ?_
    intro a H
    refine H.val 40 (.int .i64 ((lu.length : Nat) : Int)) (by kernel_rfl) (by kernel_rfl) ?_
    intro a H
    refine H.call 41 (by kernel_rfl) (Eq.trans (by kernel_rfl : _ = (callFunc 27 #[(.int .i64 at0), (.int .i64 ((lu.length : Nat) : Int))]).run Tryd.prog w_11) (Tryd.call27 _ _)) ((by have hh := pick_any at0 ((lu.length : Nat) : Int) w_11 hat (by omega); rw [hp] at hh; exact hh)) ?_
    rintro e w_12 ⟨rfl, rfl⟩
    refine ⟨_, rfl, ?_⟩
    intro a H
    refine H.val 2 (.int .i64 ((p : Nat) : Int)) (by kernel_rfl) (by kernel_rfl) ?_
    intro a H
    refine wpList_nil ?_
    refine then_normal ?_
    refine wp_seq ?_
    refine w_region ?_
    refine H.val 42 (.slice (some ⟨bb_9, 0, none⟩) lu.length cap_10) (by kernel_rfl) (by kernel_rfl) ?_
    intro a H
    refine H.val 43 (.int .i64 ((p : Nat) : Int)) (by kernel_rfl) (by kernel_rfl) ?_
    intro a H
    refine H.val 44 (.pointer (some ⟨bb_9, 0 + p * 1, none⟩)) (by kernel_rfl) (ex_index (b := bb_9) (off := 0) (len := lu.length) (cap := cap_10) (e := 5) (k := 1) (ik := .i64) (i := ((p : Nat) : Int)) (m := p) (by kernel_rfl) (by kernel_rfl) (by omega) (by omega) (by kernel_rfl) (by kernel_rfl)) ?_
    intro a H
    refine H.val 45 (.int .u8 (((lu.getD p 0).toNat : Nat) : Int)) (by kernel_rfl) (ex_load1 (p := ⟨bb_9, 0 + p * 1, none⟩) (by kernel_rfl) (by kernel_rfl) (by rw [show 0 + p * 1 = p by omega]; exact bytesB_cell (HP.held 0 rfl) hpl)) ?_
    intro a H
    refine H.val 46 (.int .u8 ((x.toNat : Nat) : Int)) (by kernel_rfl) (by kernel_rfl) ?_
    intro a H
    refine H.valE 47 (.bool ((((lu.getD p 0).toNat : Nat) : Int) == ((x.toNat : Nat) : Int))) (.bool false) (by kernel_rfl) (by kernel_rfl) ((congrArg Value.bool (hsame))) ?_
    intro a H
    refine H.val 13 (.bool false) (by kernel_rfl) (by kernel_rfl) ?_
    intro a H
    refine wpList_nil ?_
    have H := H.keep (L' := [(13, (.bool false)), (2, (.int .i64 ((p : Nat) : Int))), (41, (.int .i64 ((p : Nat) : Int))), (40, (.int .i64 ((lu.length : Nat) : Int))), (39, (.slice (some ⟨bb_9, 0, none⟩) lu.length cap_10)), (38, (.int .i64 at0)), (12, (.slice (some ⟨bb_9, 0, none⟩) lu.length cap_10)), (37, (.slice (some ⟨bb_9, 0, none⟩) lu.length cap_10)), (36, (.string (bstr lu))), (30, (.bool false)), (29, (.bool false)), (28, (.string (bstr lu))), (27, (.bool false)), (26, (.bool false)), (25, (.int .i64 0)), (10, (.string (bstr lu))), (11, (.int .i64 0)), (9, (.bool true)), (8, (.bool false)), (0, (.int .i64 c)), (3, (.int .u8 ((x.toNat : Nat) : Int)))]) (by kernel_rfl)
    refine then_normal ?_
    refine wp_seq ?_
    refine w_region ?_
    refine H.val 48 (.slice (some ⟨bb_9, 0, none⟩) lu.length cap_10) (by kernel_rfl) (by kernel_rfl) ?_
    intro a H
    refine H.val 49 (.int .i64 ((p : Nat) : Int)) (by kernel_rfl) (by kernel_rfl) ?_
    intro a H
    refine H.val 50 (.int .u8 ((x.toNat : Nat) : Int)) (by kernel_rfl) (by kernel_rfl) ?_
    intro a H
    refine H.val 51 (.pointer (some ⟨bb_9, 0 + p * 1, none⟩)) (by kernel_rfl) (ex_index (b := bb_9) (off := 0) (len := lu.length) (cap := cap_10) (e := 5) (k := 1) (ik := .i64) (i := ((p : Nat) : Int)) (m := p) (by kernel_rfl) (by kernel_rfl) (by omega) (by omega) (by kernel_rfl) (by kernel_rfl)) ?_
    intro a H
    refine H.storeB (e := 5) HP 0 bb_9 p lu cap_10 x (by kernel_rfl) ((by kernel_rfl : _ = Value.pointer (some ⟨bb_9, 0 + p * 1, none⟩)).trans (by rw [show 0 + p * 1 = p by omega])) (by kernel_rfl) (by kernel_rfl) (by kernel_rfl) hpl ?_
    intro w_13 a H HP
    refine wpList_nil ?_
    have HP : Hp w w_13 [(bytesB bb_9 5 (lu.set p x) cap_10), bx b_1 28 [(.int .i64 u.channel), (.int .i64 u.frame), (.int .i64 u.version), (.int .i64 u.item), (.int .i64 u.index), (.bool u.key), (.string (bstr u.data)), (.int .i64 u.regions), (.int .i64 u.gain), (.string (bstr u.caption)), (.int .i64 u.os), (.int .i64 u.of), (.slice u.A u.al.length u.c)] true] [] := HP
    refine then_normal ?_
    refine wp_seq ?_
    refine An.start (fun v => Hp w v [(bytesB bb_9 5 (lu.set p x) cap_10), bx b_1 28 [(.int .i64 u.channel), (.int .i64 u.frame), (.int .i64 u.version), (.int .i64 u.item), (.int .i64 u.index), (.bool u.key), (.string (bstr u.data)), (.int .i64 u.regions), (.int .i64 u.gain), (.string (bstr u.caption)), (.int .i64 u.os), (.int .i64 u.of), (.slice u.A u.al.length u.c)] true] []) 11 11 HP wide_follows rfl ?_
    intro w_14 HP
    refine An.pure H (.inr (HP)) 0 53 (.int .i64 c) rfl (by kernel_rfl) (by kernel_rfl) (fun _ _ _ h => h) (fun _ => by kernel_rfl) ?_
    intro a H
    refine An.pure H (.inr (HP)) 2 55 (.slice (some ⟨bb_9, 0, none⟩) lu.length cap_10) rfl (by kernel_rfl) (by kernel_rfl) (fun _ _ _ h => h) (fun _ => by kernel_rfl) ?_
    intro a H
    refine An.val H (HP) 3 56 (.string (bstr (lu.set p x))) rfl (by kernel_rfl) (by kernel_rfl) (fun _ _ _ h => h) (fun _ hS => ex_b2sR (l := lu.set p x) (e := 5) (m := lu.length) (c := cap_10) (by kernel_rfl) (by have hh := bytesB_rd (hS.held 0 rfl); rw [List.length_set] at hh; exact hh) (by kernel_rfl) (by kernel_rfl) (by kernel_rfl)) ?_
    intro a H
    refine An.two 1 8 (by kernel_rfl) ?_ ?_
    · refine Op.call H 54 rfl (by kernel_rfl) (Eq.trans (by kernel_rfl : _ = (callFunc 14 #[(.int .i64 c)]).run Tryd.prog w_14) (Tryd.call14 _ _)) (rate_any c w_14 hc) ?_
      rintro e w_15 ⟨rfl, hb⟩
      refine ⟨_, rfl, ?_⟩
      intro a H
      have HP := HP.next hb
      refine ⟨.inr (HP), ?_⟩
      refine An.two 4 8 (by kernel_rfl) ?_ ?_
      · refine Op.call H 57 rfl (by kernel_rfl) (Eq.trans (by kernel_rfl : _ = (callFunc 22 #[(.agg #[(.int .i64 ((rateP c).1)), (.int .i64 ((rateP c).2))]), (.string (bstr (lu.set p x)))]).run Tryd.prog w_15) (Tryd.call22 _ _)) ((by have hh := unpack_any (rateP c).1 (rateP c).2 (lu.set p x) w_15 (hL.below (HP.below (by kernel_rfl))) (by rw [List.length_set]; omega); rw [hun] at hh; exact hh)) ?_
        rintro e w_16 ⟨rfl, hb⟩
        refine ⟨_, rfl, ?_⟩
        intro a H
        have HP := HP.next hb
        refine ⟨.inr (HP), ?_⟩
        refine An.pure H (.inr (HP)) 5 52 (.tuple #[(.agg #[(.int .i64 0), (.int .i64 0), (.int .i64 0), (.int .i64 0), (.int .i64 0), (.bool false), (.string (bstr ([]))), (.int .i64 0), (.int .i64 0), (.string (bstr ([]))), (.int .i64 0), (.int .i64 0), (.slice none 0 0)]), (.int .i64 180)]) rfl (by kernel_rfl) (by kernel_rfl) (fun _ _ _ h => h) (fun _ => by kernel_rfl) ?_
        intro a H
        refine An.pure H (.inr (HP)) 6 58 (.agg #[(.int .i64 0), (.int .i64 0), (.int .i64 0), (.int .i64 0), (.int .i64 0), (.bool false), (.string (bstr ([]))), (.int .i64 0), (.int .i64 0), (.string (bstr ([]))), (.int .i64 0), (.int .i64 0), (.slice none 0 0)]) rfl (by kernel_rfl) (by kernel_rfl) (fun _ _ _ h => h) (fun _ => by kernel_rfl) ?_
        intro a H
        refine An.pure H (.inr (HP)) 7 59 (.int .i64 180) rfl (by kernel_rfl) (by kernel_rfl) (fun _ _ _ h => h) (fun _ => by kernel_rfl) ?_
        intro a H
        refine An.one 8 (by kernel_rfl) ?_
        refine Op.alloc H HP 14 (fun b => (.pointer (some ⟨b, 0, none⟩))) 28 [(.int .i64 0), (.int .i64 0), (.int .i64 0), (.int .i64 0), (.int .i64 0), (.bool false), (.string (bstr ([]))), (.int .i64 0), (.int .i64 0), (.string (bstr ([]))), (.int .i64 0), (.int .i64 0), (.slice none 0 0)] rfl (by kernel_rfl) (fun w => by kernel_rfl) ?_
        intro b_17 w_18 a H HP
        refine ⟨.inr ((HP.tail rfl)), ?_⟩
        refine An.one 9 (by kernel_rfl) ?_
        refine Op.store H HP 0 b_17 0 13 28 [(.int .i64 0), (.int .i64 0), (.int .i64 0), (.int .i64 0), (.int .i64 0), (.bool false), (.string (bstr ([]))), (.int .i64 0), (.int .i64 0), (.string (bstr ([]))), (.int .i64 0), (.int .i64 0), (.slice none 0 0)] true (.agg #[(.int .i64 0), (.int .i64 0), (.int .i64 0), (.int .i64 0), (.int .i64 0), (.bool false), (.string (bstr ([]))), (.int .i64 0), (.int .i64 0), (.string (bstr ([]))), (.int .i64 0), (.int .i64 0), (.slice none 0 0)]) [bx b_17 28 [(.int .i64 0), (.int .i64 0), (.int .i64 0), (.int .i64 0), (.int .i64 0), (.bool false), (.string (bstr ([]))), (.int .i64 0), (.int .i64 0), (.string (bstr ([]))), (.int .i64 0), (.int .i64 0), (.slice none 0 0)] true, (bytesB bb_9 5 (lu.set p x) cap_10), bx b_1 28 [(.int .i64 u.channel), (.int .i64 u.frame), (.int .i64 u.version), (.int .i64 u.item), (.int .i64 u.index), (.bool u.key), (.string (bstr u.data)), (.int .i64 u.regions), (.int .i64 u.gain), (.string (bstr u.caption)), (.int .i64 u.os), (.int .i64 u.of), (.slice u.A u.al.length u.c)] true] rfl (by kernel_rfl) (by kernel_rfl) (by kernel_rfl) rfl (by kernel_rfl) (by kernel_rfl) (by kernel_rfl) (by kernel_rfl) (by kernel_rfl) ?_
        intro w_19 a H HP
        refine ⟨.inr ((HP.tail rfl)), ?_⟩
        refine An.pure H (.inr ((HP.tail rfl))) 10 15 (.int .i64 180) rfl (by kernel_rfl) (by kernel_rfl) (fun _ _ _ h => h) (fun _ => by kernel_rfl) ?_
        intro a H
        refine An.done (by kernel_rfl) ?_
        have H := H.keep (L' := [(15, (.int .i64 180)), (51, (.pointer (some ⟨bb_9, 0 + p * 1, none⟩))), (50, (.int .u8 ((x.toNat : Nat) : Int))), (49, (.int .i64 ((p : Nat) : Int))), (48, (.slice (some ⟨bb_9, 0, none⟩) lu.length cap_10)), (13, (.bool false)), (2, (.int .i64 ((p : Nat) : Int))), (41, (.int .i64 ((p : Nat) : Int))), (40, (.int .i64 ((lu.length : Nat) : Int))), (39, (.slice (some ⟨bb_9, 0, none⟩) lu.length cap_10)), (38, (.int .i64 at0)), (12, (.slice (some ⟨bb_9, 0, none⟩) lu.length cap_10)), (37, (.slice (some ⟨bb_9, 0, none⟩) lu.length cap_10)), (36, (.string (bstr lu))), (30, (.bool false)), (29, (.bool false)), (28, (.string (bstr lu))), (27, (.bool false)), (26, (.bool false)), (25, (.int .i64 0)), (10, (.string (bstr lu))), (11, (.int .i64 0)), (9, (.bool true)), (8, (.bool false)), (0, (.int .i64 c)), (3, (.int .u8 ((x.toNat : Nat) : Int)))]) (by kernel_rfl)
        refine then_normal ?_
        refine wp_seq ?_
        refine w_region ?_
        refine H.val 60 (.bool true) (by kernel_rfl) (by kernel_rfl) ?_
        intro a H
        refine H.val 61 (.bool true) (by kernel_rfl) (by kernel_rfl) ?_
        intro a H
        refine H.val 62 (.int .i64 180) (by kernel_rfl) (by kernel_rfl) ?_
        intro a H
        refine H.val 63 (.bool false) (by kernel_rfl) (by kernel_rfl) ?_
        intro a H
        refine H.val 64 (.bool false) (by kernel_rfl) (by kernel_rfl) ?_
        intro a H
        refine H.val 65 (.bool true) (by kernel_rfl) (by kernel_rfl) ?_
        intro a H
        refine H.val 66 (.bool true) (by kernel_rfl) (by kernel_rfl) ?_
        intro a H
        refine H.val 67 (.bool true) (by kernel_rfl) (by kernel_rfl) ?_
        intro a H
        refine H.val 68 (.bool false) (by kernel_rfl) (by kernel_rfl) ?_
        intro a H
        refine H.val 69 (.bool false) (by kernel_rfl) (by kernel_rfl) ?_
        intro a H
        refine H.val 70 (.int .i64 180) (by kernel_rfl) (by kernel_rfl) ?_
        intro a H
        refine H.val 71 (.bool true) (by kernel_rfl) (by kernel_rfl) ?_
        intro a H
        refine H.val 72 (.bool true) (by kernel_rfl) (by kernel_rfl) ?_
        intro a H
        refine H.val 73 (.bool true) (by kernel_rfl) (by kernel_rfl) ?_
        intro a H
        refine H.val 8 (.bool true) (by kernel_rfl) (by kernel_rfl) ?_
        intro a H
        refine wpList_nil ?_
        have H := H.keep (L' := [(8, (.bool true)), (15, (.int .i64 180)), (51, (.pointer (some ⟨bb_9, 0 + p * 1, none⟩))), (50, (.int .u8 ((x.toNat : Nat) : Int))), (49, (.int .i64 ((p : Nat) : Int))), (48, (.slice (some ⟨bb_9, 0, none⟩) lu.length cap_10)), (13, (.bool false)), (2, (.int .i64 ((p : Nat) : Int))), (41, (.int .i64 ((p : Nat) : Int))), (40, (.int .i64 ((lu.length : Nat) : Int))), (39, (.slice (some ⟨bb_9, 0, none⟩) lu.length cap_10)), (38, (.int .i64 at0)), (12, (.slice (some ⟨bb_9, 0, none⟩) lu.length cap_10)), (37, (.slice (some ⟨bb_9, 0, none⟩) lu.length cap_10)), (36, (.string (bstr lu))), (30, (.bool false)), (29, (.bool false)), (28, (.string (bstr lu))), (27, (.bool false)), (26, (.bool false)), (25, (.int .i64 0)), (10, (.string (bstr lu))), (11, (.int .i64 0)), (9, (.bool true)), (0, (.int .i64 c)), (3, (.int .u8 ((x.toNat : Nat) : Int)))]) (by kernel_rfl)
        refine then_normal ?_
        refine wp_ret ?_
        refine H.ret1 (fn := Tryd.f9) Tryd.results9 (RV.tmp_ (v := (.bool true)) (by kernel_rfl)) ?_
        exact ⟨rfl, (HP.below (by kernel_rfl))⟩
      · refine Op.alloc H HP 14 (fun b => (.pointer (some ⟨b, 0, none⟩))) 28 [(.int .i64 0), (.int .i64 0), (.int .i64 0), (.int .i64 0), (.int .i64 0), (.bool false), (.string (bstr ([]))), (.int .i64 0), (.int .i64 0), (.string (bstr ([]))), (.int .i64 0), (.int .i64 0), (.slice none 0 0)] rfl (by kernel_rfl) (fun w => by kernel_rfl) ?_
        intro b_20 w_21 a H HP
        refine ⟨.inr ((HP.tail rfl)), ?_⟩
        refine An.one 4 (by kernel_rfl) ?_
        refine Op.call H 57 rfl (by kernel_rfl) (Eq.trans (by kernel_rfl : _ = (callFunc 22 #[(.agg #[(.int .i64 ((rateP c).1)), (.int .i64 ((rateP c).2))]), (.string (bstr (lu.set p x)))]).run Tryd.prog w_21) (Tryd.call22 _ _)) ((by have hh := unpack_any (rateP c).1 (rateP c).2 (lu.set p x) w_21 (hL.below (HP.below (by kernel_rfl))) (by rw [List.length_set]; omega); rw [hun] at hh; exact hh)) ?_
        rintro e w_22 ⟨rfl, hb⟩
        refine ⟨_, rfl, ?_⟩
        intro a H
        have HP := HP.next hb
        refine ⟨.inr ((HP.tail rfl)), ?_⟩
        refine An.pure H (.inr ((HP.tail rfl))) 5 52 (.tuple #[(.agg #[(.int .i64 0), (.int .i64 0), (.int .i64 0), (.int .i64 0), (.int .i64 0), (.bool false), (.string (bstr ([]))), (.int .i64 0), (.int .i64 0), (.string (bstr ([]))), (.int .i64 0), (.int .i64 0), (.slice none 0 0)]), (.int .i64 180)]) rfl (by kernel_rfl) (by kernel_rfl) (fun _ _ _ h => h) (fun _ => by kernel_rfl) ?_
        intro a H
        refine An.pure H (.inr ((HP.tail rfl))) 6 58 (.agg #[(.int .i64 0), (.int .i64 0), (.int .i64 0), (.int .i64 0), (.int .i64 0), (.bool false), (.string (bstr ([]))), (.int .i64 0), (.int .i64 0), (.string (bstr ([]))), (.int .i64 0), (.int .i64 0), (.slice none 0 0)]) rfl (by kernel_rfl) (by kernel_rfl) (fun _ _ _ h => h) (fun _ => by kernel_rfl) ?_
        intro a H
        refine An.pure H (.inr ((HP.tail rfl))) 7 59 (.int .i64 180) rfl (by kernel_rfl) (by kernel_rfl) (fun _ _ _ h => h) (fun _ => by kernel_rfl) ?_
        intro a H
        refine An.one 9 (by kernel_rfl) ?_
        refine Op.store H HP 0 b_20 0 13 28 [(.int .i64 0), (.int .i64 0), (.int .i64 0), (.int .i64 0), (.int .i64 0), (.bool false), (.string (bstr ([]))), (.int .i64 0), (.int .i64 0), (.string (bstr ([]))), (.int .i64 0), (.int .i64 0), (.slice none 0 0)] true (.agg #[(.int .i64 0), (.int .i64 0), (.int .i64 0), (.int .i64 0), (.int .i64 0), (.bool false), (.string (bstr ([]))), (.int .i64 0), (.int .i64 0), (.string (bstr ([]))), (.int .i64 0), (.int .i64 0), (.slice none 0 0)]) [bx b_20 28 [(.int .i64 0), (.int .i64 0), (.int .i64 0), (.int .i64 0), (.int .i64 0), (.bool false), (.string (bstr ([]))), (.int .i64 0), (.int .i64 0), (.string (bstr ([]))), (.int .i64 0), (.int .i64 0), (.slice none 0 0)] true, (bytesB bb_9 5 (lu.set p x) cap_10), bx b_1 28 [(.int .i64 u.channel), (.int .i64 u.frame), (.int .i64 u.version), (.int .i64 u.item), (.int .i64 u.index), (.bool u.key), (.string (bstr u.data)), (.int .i64 u.regions), (.int .i64 u.gain), (.string (bstr u.caption)), (.int .i64 u.os), (.int .i64 u.of), (.slice u.A u.al.length u.c)] true] rfl (by kernel_rfl) (by kernel_rfl) (by kernel_rfl) rfl (by kernel_rfl) (by kernel_rfl) (by kernel_rfl) (by kernel_rfl) (by kernel_rfl) ?_
        intro w_23 a H HP
        refine ⟨.inr ((HP.tail rfl)), ?_⟩
        refine An.pure H (.inr ((HP.tail rfl))) 10 15 (.int .i64 180) rfl (by kernel_rfl) (by kernel_rfl) (fun _ _ _ h => h) (fun _ => by kernel_rfl) ?_
        intro a H
        refine An.done (by kernel_rfl) ?_
        have H := H.keep (L' := [(15, (.int .i64 180)), (51, (.pointer (some ⟨bb_9, 0 + p * 1, none⟩))), (50, (.int .u8 ((x.toNat : Nat) : Int))), (49, (.int .i64 ((p : Nat) : Int))), (48, (.slice (some ⟨bb_9, 0, none⟩) lu.length cap_10)), (13, (.bool false)), (2, (.int .i64 ((p : Nat) : Int))), (41, (.int .i64 ((p : Nat) : Int))), (40, (.int .i64 ((lu.length : Nat) : Int))), (39, (.slice (some ⟨bb_9, 0, none⟩) lu.length cap_10)), (38, (.int .i64 at0)), (12, (.slice (some ⟨bb_9, 0, none⟩) lu.length cap_10)), (37, (.slice (some ⟨bb_9, 0, none⟩) lu.length cap_10)), (36, (.string (bstr lu))), (30, (.bool false)), (29, (.bool false)), (28, (.string (bstr lu))), (27, (.bool false)), (26, (.bool false)), (25, (.int .i64 0)), (10, (.string (bstr lu))), (11, (.int .i64 0)), (9, (.bool true)), (8, (.bool false)), (0, (.int .i64 c)), (3, (.int .u8 ((x.toNat : Nat) : Int)))]) (by kernel_rfl)
        refine then_normal ?_
        refine wp_seq ?_
        refine w_region ?_
        refine H.val 60 (.bool true) (by kernel_rfl) (by kernel_rfl) ?_
        intro a H
        refine H.val 61 (.bool true) (by kernel_rfl) (by kernel_rfl) ?_
        intro a H
        refine H.val 62 (.int .i64 180) (by kernel_rfl) (by kernel_rfl) ?_
        intro a H
        refine H.val 63 (.bool false) (by kernel_rfl) (by kernel_rfl) ?_
        intro a H
        refine H.val 64 (.bool false) (by kernel_rfl) (by kernel_rfl) ?_
        intro a H
        refine H.val 65 (.bool true) (by kernel_rfl) (by kernel_rfl) ?_
        intro a H
        refine H.val 66 (.bool true) (by kernel_rfl) (by kernel_rfl) ?_
        intro a H
        refine H.val 67 (.bool true) (by kernel_rfl) (by kernel_rfl) ?_
        intro a H
        refine H.val 68 (.bool false) (by kernel_rfl) (by kernel_rfl) ?_
        intro a H
        refine H.val 69 (.bool false) (by kernel_rfl) (by kernel_rfl) ?_
        intro a H
        refine H.val 70 (.int .i64 180) (by kernel_rfl) (by kernel_rfl) ?_
        intro a H
        refine H.val 71 (.bool true) (by kernel_rfl) (by kernel_rfl) ?_
        intro a H
        refine H.val 72 (.bool true) (by kernel_rfl) (by kernel_rfl) ?_
        intro a H
        refine H.val 73 (.bool true) (by kernel_rfl) (by kernel_rfl) ?_
        intro a H
        refine H.val 8 (.bool true) (by kernel_rfl) (by kernel_rfl) ?_
        intro a H
        refine wpList_nil ?_
        have H := H.keep (L' := [(8, (.bool true)), (15, (.int .i64 180)), (51, (.pointer (some ⟨bb_9, 0 + p * 1, none⟩))), (50, (.int .u8 ((x.toNat : Nat) : Int))), (49, (.int .i64 ((p : Nat) : Int))), (48, (.slice (some ⟨bb_9, 0, none⟩) lu.length cap_10)), (13, (.bool false)), (2, (.int .i64 ((p : Nat) : Int))), (41, (.int .i64 ((p : Nat) : Int))), (40, (.int .i64 ((lu.length : Nat) : Int))), (39, (.slice (some ⟨bb_9, 0, none⟩) lu.length cap_10)), (38, (.int .i64 at0)), (12, (.slice (some ⟨bb_9, 0, none⟩) lu.length cap_10)), (37, (.slice (some ⟨bb_9, 0, none⟩) lu.length cap_10)), (36, (.string (bstr lu))), (30, (.bool false)), (29, (.bool false)), (28, (.string (bstr lu))), (27, (.bool false)), (26, (.bool false)), (25, (.int .i64 0)), (10, (.string (bstr lu))), (11, (.int .i64 0)), (9, (.bool true)), (0, (.int .i64 c)), (3, (.int .u8 ((x.toNat : Nat) : Int)))]) (by kernel_rfl)
        refine then_normal ?_
        refine wp_ret ?_
        refine H.ret1 (fn := Tryd.f9) Tryd.results9 (RV.tmp_ (v := (.bool true)) (by kernel_rfl)) ?_
        exact ⟨rfl, (HP.below (by kernel_rfl))⟩
    · refine Op.alloc H HP 14 (fun b => (.pointer (some ⟨b, 0, none⟩))) 28 [(.int .i64 0), (.int .i64 0), (.int .i64 0), (.int .i64 0), (.int .i64 0), (.bool false), (.string (bstr ([]))), (.int .i64 0), (.int .i64 0), (.string (bstr ([]))), (.int .i64 0), (.int .i64 0), (.slice none 0 0)] rfl (by kernel_rfl) (fun w => by kernel_rfl) ?_
      intro b_24 w_25 a H HP
      refine ⟨.inr ((HP.tail rfl)), ?_⟩
      refine An.one 1 (by kernel_rfl) ?_
      refine Op.call H 54 rfl (by kernel_rfl) (Eq.trans (by kernel_rfl : _ = (callFunc 14 #[(.int .i64 c)]).run Tryd.prog w_25) (Tryd.call14 _ _)) (rate_any c w_25 hc) ?_
      rintro e w_26 ⟨rfl, hb⟩
      refine ⟨_, rfl, ?_⟩
      intro a H
      have HP := HP.next hb
      refine ⟨.inr ((HP.tail rfl)), ?_⟩
      refine An.one 4 (by kernel_rfl) ?_
      refine Op.call H 57 rfl (by kernel_rfl) (Eq.trans (by kernel_rfl : _ = (callFunc 22 #[(.agg #[(.int .i64 ((rateP c).1)), (.int .i64 ((rateP c).2))]), (.string (bstr (lu.set p x)))]).run Tryd.prog w_26) (Tryd.call22 _ _)) ((by have hh := unpack_any (rateP c).1 (rateP c).2 (lu.set p x) w_26 (hL.below (HP.below (by kernel_rfl))) (by rw [List.length_set]; omega); rw [hun] at hh; exact hh)) ?_
      rintro e w_27 ⟨rfl, hb⟩
      refine ⟨_, rfl, ?_⟩
      intro a H
      have HP := HP.next hb
      refine ⟨.inr ((HP.tail rfl)), ?_⟩
      refine An.pure H (.inr ((HP.tail rfl))) 5 52 (.tuple #[(.agg #[(.int .i64 0), (.int .i64 0), (.int .i64 0), (.int .i64 0), (.int .i64 0), (.bool false), (.string (bstr ([]))), (.int .i64 0), (.int .i64 0), (.string (bstr ([]))), (.int .i64 0), (.int .i64 0), (.slice none 0 0)]), (.int .i64 180)]) rfl (by kernel_rfl) (by kernel_rfl) (fun _ _ _ h => h) (fun _ => by kernel_rfl) ?_
      intro a H
      refine An.pure H (.inr ((HP.tail rfl))) 6 58 (.agg #[(.int .i64 0), (.int .i64 0), (.int .i64 0), (.int .i64 0), (.int .i64 0), (.bool false), (.string (bstr ([]))), (.int .i64 0), (.int .i64 0), (.string (bstr ([]))), (.int .i64 0), (.int .i64 0), (.slice none 0 0)]) rfl (by kernel_rfl) (by kernel_rfl) (fun _ _ _ h => h) (fun _ => by kernel_rfl) ?_
      intro a H
      refine An.pure H (.inr ((HP.tail rfl))) 7 59 (.int .i64 180) rfl (by kernel_rfl) (by kernel_rfl) (fun _ _ _ h => h) (fun _ => by kernel_rfl) ?_
      intro a H
      refine An.one 9 (by kernel_rfl) ?_
      refine Op.store H HP 0 b_24 0 13 28 [(.int .i64 0), (.int .i64 0), (.int .i64 0), (.int .i64 0), (.int .i64 0), (.bool false), (.string (bstr ([]))), (.int .i64 0), (.int .i64 0), (.string (bstr ([]))), (.int .i64 0), (.int .i64 0), (.slice none 0 0)] true (.agg #[(.int .i64 0), (.int .i64 0), (.int .i64 0), (.int .i64 0), (.int .i64 0), (.bool false), (.string (bstr ([]))), (.int .i64 0), (.int .i64 0), (.string (bstr ([]))), (.int .i64 0), (.int .i64 0), (.slice none 0 0)]) [bx b_24 28 [(.int .i64 0), (.int .i64 0), (.int .i64 0), (.int .i64 0), (.int .i64 0), (.bool false), (.string (bstr ([]))), (.int .i64 0), (.int .i64 0), (.string (bstr ([]))), (.int .i64 0), (.int .i64 0), (.slice none 0 0)] true, (bytesB bb_9 5 (lu.set p x) cap_10), bx b_1 28 [(.int .i64 u.channel), (.int .i64 u.frame), (.int .i64 u.version), (.int .i64 u.item), (.int .i64 u.index), (.bool u.key), (.string (bstr u.data)), (.int .i64 u.regions), (.int .i64 u.gain), (.string (bstr u.caption)), (.int .i64 u.os), (.int .i64 u.of), (.slice u.A u.al.length u.c)] true] rfl (by kernel_rfl) (by kernel_rfl) (by kernel_rfl) rfl (by kernel_rfl) (by kernel_rfl) (by kernel_rfl) (by kernel_rfl) (by kernel_rfl) ?_
      intro w_28 a H HP
      refine ⟨.inr ((HP.tail rfl)), ?_⟩
      refine An.pure H (.inr ((HP.tail rfl))) 10 15 (.int .i64 180) rfl (by kernel_rfl) (by kernel_rfl) (fun _ _ _ h => h) (fun _ => by kernel_rfl) ?_
      intro a H
      refine An.done (by kernel_rfl) ?_
      have H := H.keep (L' := [(15, (.int .i64 180)), (51, (.pointer (some ⟨bb_9, 0 + p * 1, none⟩))), (50, (.int .u8 ((x.toNat : Nat) : Int))), (49, (.int .i64 ((p : Nat) : Int))), (48, (.slice (some ⟨bb_9, 0, none⟩) lu.length cap_10)), (13, (.bool false)), (2, (.int .i64 ((p : Nat) : Int))), (41, (.int .i64 ((p : Nat) : Int))), (40, (.int .i64 ((lu.length : Nat) : Int))), (39, (.slice (some ⟨bb_9, 0, none⟩) lu.length cap_10)), (38, (.int .i64 at0)), (12, (.slice (some ⟨bb_9, 0, none⟩) lu.length cap_10)), (37, (.slice (some ⟨bb_9, 0, none⟩) lu.length cap_10)), (36, (.string (bstr lu))), (30, (.bool false)), (29, (.bool false)), (28, (.string (bstr lu))), (27, (.bool false)), (26, (.bool false)), (25, (.int .i64 0)), (10, (.string (bstr lu))), (11, (.int .i64 0)), (9, (.bool true)), (8, (.bool false)), (0, (.int .i64 c)), (3, (.int .u8 ((x.toNat : Nat) : Int)))]) (by kernel_rfl)
      refine then_normal ?_
      refine wp_seq ?_
      refine w_region ?_
      refine H.val 60 (.bool true) (by kernel_rfl) (by kernel_rfl) ?_
      intro a H
      refine H.val 61 (.bool true) (by kernel_rfl) (by kernel_rfl) ?_
      intro a H
      refine H.val 62 (.int .i64 180) (by kernel_rfl) (by kernel_rfl) ?_
      intro a H
      refine H.val 63 (.bool false) (by kernel_rfl) (by kernel_rfl) ?_
      intro a H
      refine H.val 64 (.bool false) (by kernel_rfl) (by kernel_rfl) ?_
      intro a H
      refine H.val 65 (.bool true) (by kernel_rfl) (by kernel_rfl) ?_
      intro a H
      refine H.val 66 (.bool true) (by kernel_rfl) (by kernel_rfl) ?_
      intro a H
      refine H.val 67 (.bool true) (by kernel_rfl) (by kernel_rfl) ?_
      intro a H
      refine H.val 68 (.bool false) (by kernel_rfl) (by kernel_rfl) ?_
      intro a H
      refine H.val 69 (.bool false) (by kernel_rfl) (by kernel_rfl) ?_
      intro a H
      refine H.val 70 (.int .i64 180) (by kernel_rfl) (by kernel_rfl) ?_
      intro a H
      refine H.val 71 (.bool true) (by kernel_rfl) (by kernel_rfl) ?_
      intro a H
      refine H.val 72 (.bool true) (by kernel_rfl) (by kernel_rfl) ?_
      intro a H
      refine H.val 73 (.bool true) (by kernel_rfl) (by kernel_rfl) ?_
      intro a H
      refine H.val 8 (.bool true) (by kernel_rfl) (by kernel_rfl) ?_
      intro a H
      refine wpList_nil ?_
      have H := H.keep (L' := [(8, (.bool true)), (15, (.int .i64 180)), (51, (.pointer (some ⟨bb_9, 0 + p * 1, none⟩))), (50, (.int .u8 ((x.toNat : Nat) : Int))), (49, (.int .i64 ((p : Nat) : Int))), (48, (.slice (some ⟨bb_9, 0, none⟩) lu.length cap_10)), (13, (.bool false)), (2, (.int .i64 ((p : Nat) : Int))), (41, (.int .i64 ((p : Nat) : Int))), (40, (.int .i64 ((lu.length : Nat) : Int))), (39, (.slice (some ⟨bb_9, 0, none⟩) lu.length cap_10)), (38, (.int .i64 at0)), (12, (.slice (some ⟨bb_9, 0, none⟩) lu.length cap_10)), (37, (.slice (some ⟨bb_9, 0, none⟩) lu.length cap_10)), (36, (.string (bstr lu))), (30, (.bool false)), (29, (.bool false)), (28, (.string (bstr lu))), (27, (.bool false)), (26, (.bool false)), (25, (.int .i64 0)), (10, (.string (bstr lu))), (11, (.int .i64 0)), (9, (.bool true)), (0, (.int .i64 c)), (3, (.int .u8 ((x.toNat : Nat) : Int)))]) (by kernel_rfl)
      refine then_normal ?_
      refine wp_ret ?_
      refine H.ret1 (fn := Tryd.f9) Tryd.results9 (RV.tmp_ (v := (.bool true)) (by kernel_rfl)) ?_
      exact ⟨rfl, (HP.below (by kernel_rfl))⟩
theorem damaged_all (c : Int) (u : Un) (at0 : Int) (x : UInt8) (w : World) (hL : Laid w) (hc : -9223372036854775808 ≤ c ∧ c ≤ 9223372036854775807) (hat : -9223372036854775808 ≤ at0 ∧ at0 ≤ 9223372036854775807) (huu : IsAlts w u.A u.al.length u.al) (hcu : u.al.length ≤ u.c) (hAu : u.A = none → u.c = 0) :
    Calls Tryd.prog 9 #[.int .i64 c, u.val, .int .i64 at0, .int .u8 ((x.toNat : Nat) : Int)] w fun e w' => e = .returned (.bool true) ∧ Below w.heap.size w w' := by
  cases hu' : packP (rateP c).1 (rateP c).2 (shortU u) with
  | none => exact dmg_n c u _ at0 x w rfl hL hc hat huu hcu hAu (fun _ _ => hu')
  | some lu =>
    obtain ⟨hlu, hlu1, hlu2⟩ := pack_len hu'
    have hpk := pickI_lt at0 ((lu.length : Nat) : Int) (by omega)
    obtain ⟨p, hp⟩ : ∃ p : Nat, pickI at0 ((lu.length : Nat) : Int) = ((p : Nat) : Int) := ⟨(pickI at0 ((lu.length : Nat) : Int)).toNat, by omega⟩
    have hpl : p < lu.length := by omega
    by_cases hs : lu.getD p 0 = x
    · refine dmg_t c u _ at0 x w rfl hL hc hat huu hcu hAu lu (fun _ _ => hu') p hp hpl (by rw [hs]; exact beq_self_eq_true _) ?_
      have : lu.set p x = lu := by rw [← hs]; exact set_getD hpl
      rw [this]
      exact unpack_pack hu'
    · refine dmg_f c u _ at0 x w rfl hL hc hat huu hcu hAu lu (fun _ _ => hu') p hp hpl ?_ (damaged_law hu' hpl hs)
      rw [beq_eq_false_iff_ne]
      intro e
      exact hs (UInt8.toNat_inj.1 (by omega))
end Go.Proofs.YtgdjpaeclicdfaaDoor
