/- TransportInjective: the walk. -/
import Derived.Test.YtgdjpaeclicdfaaDoorTrL
import Derived.Test.YtgdjpaeclicdfaaDoorTrK
namespace Go.Proofs.YtgdjpaeclicdfaaDoor
open Go.ChangeShapes Go.WideShapes Go.ChangeAt Go.RowKit
set_option linter.unusedVariables false
set_option linter.unusedSimpArgs false

theorem code_some {Z : Option (List UInt8)} (h : (if Z.isSome = true then 0 else 180 : Int) = 0) : ∃ l, Z = some l := by
  cases Z with
  | none => exact absurd h (by decide)
  | some l => exact ⟨l, rfl⟩
theorem inj_law {rn rd : Int} {u v : Un} {Zu Zv : Option (List UInt8)} (hu : ∀ B c, packP rn rd ({ u with A := B, c := c } : Un) = Zu) (hv : ∀ B c, packP rn rd ({ v with A := B, c := c } : Un) = Zv) (h1 : (if Zu.isSome = true then 0 else 180 : Int) = 0) (h2 : (if Zv.isSome = true then 0 else 180 : Int) = 0) : ((Zu.getD [] == Zv.getD []) == sameU u v) = true := by
  obtain ⟨l, rfl⟩ := code_some h1
  obtain ⟨m, rfl⟩ := code_some h2
  have h1 := hu none 0
  have h2 := hv none 0
  rw [beq_iff_eq, Bool.eq_iff_iff, beq_iff_eq, same_bare]
  simp only [Option.getD_some]
  constructor
  · intro h; subst h; exact pack_inj h1 h2
  · intro h
    have : packP rn rd (bareU u) = packP rn rd (bareU v) := by rw [h]
    exact Option.some.inj ((h1.symm.trans this).trans h2)
set_option maxRecDepth 100000 in
set_option maxHeartbeats 4000000 in
theorem injective_any (c : Int) (u v : Un) (w : World) (hL : Laid w) (hc : -9223372036854775808 ≤ c ∧ c ≤ 9223372036854775807) (huu : IsAlts w u.A u.al.length u.al) (hcu : u.al.length ≤ u.c) (hAu : u.A = none → u.c = 0) (huv : IsAlts w v.A v.al.length v.al) (hcv : v.al.length ≤ v.c) (hAv : v.A = none → v.c = 0) :
    Calls Tryd.prog 6 #[.int .i64 c, u.val, v.val] w fun e w' => e = .returned (.bool true) ∧ Below w.heap.size w w' := by
  have HP := Hp.start w
  obtain ⟨Zu, hZu0⟩ : ∃ Z, packP (rateP c).1 (rateP c).2 (shortU u) = Z := ⟨_, rfl⟩
  obtain ⟨Zv, hZv0⟩ : ∃ Z, packP (rateP c).1 (rateP c).2 (shortU v) = Z := ⟨_, rfl⟩
  have hZu : ∀ B c', packP (rateP c).1 (rateP c).2 ({ shortU u with A := B, c := c' } : Un) = Zu := fun _ _ => hZu0
  have hZv : ∀ B c', packP (rateP c).1 (rateP c).2 ({ shortU v with A := B, c := c' } : Un) = Zv := fun _ _ => hZv0
  refine w_enter 49 [(0, (.int .i64 c)), (1, (.agg #[(.int .i64 u.channel), (.int .i64 u.frame), (.int .i64 u.version), (.int .i64 u.item), (.int .i64 u.index), (.bool u.key), (.string (bstr u.data)), (.int .i64 u.regions), (.int .i64 u.gain), (.string (bstr u.caption)), (.int .i64 u.os), (.int .i64 u.of), (.slice u.A u.al.length u.c)])), (2, (.agg #[(.int .i64 v.channel), (.int .i64 v.frame), (.int .i64 v.version), (.int .i64 v.item), (.int .i64 v.index), (.bool v.key), (.string (bstr v.data)), (.int .i64 v.regions), (.int .i64 v.gain), (.string (bstr v.caption)), (.int .i64 v.os), (.int .i64 v.of), (.slice v.A v.al.length v.c)]))] Tryd.func6 rfl Tryd.ntmps6 (by kernel_rfl) (by kernel_rfl) ?_
  intro a H
  refine wp_seq ?_
  refine w_region ?_
  refine H.alloc HP 4 (fun b => (.pointer (some ⟨b, 0, none⟩))) 28 [(.int .i64 u.channel), (.int .i64 u.frame), (.int .i64 u.version), (.int .i64 u.item), (.int .i64 u.index), (.bool u.key), (.string (bstr u.data)), (.int .i64 u.regions), (.int .i64 u.gain), (.string (bstr u.caption)), (.int .i64 u.os), (.int .i64 u.of), (.slice u.A u.al.length u.c)] (by kernel_rfl) (fun w => by kernel_rfl) ?_
  intro b_1 w_2 a H HP
  refine H.alloc HP 5 (fun b => (.pointer (some ⟨b, 0, none⟩))) 28 [(.int .i64 v.channel), (.int .i64 v.frame), (.int .i64 v.version), (.int .i64 v.item), (.int .i64 v.index), (.bool v.key), (.string (bstr v.data)), (.int .i64 v.regions), (.int .i64 v.gain), (.string (bstr v.caption)), (.int .i64 v.os), (.int .i64 v.of), (.slice v.A v.al.length v.c)] (by kernel_rfl) (fun w => by kernel_rfl) ?_
  intro b_3 w_4 a H HP
  refine H.val 6 (.bool false) (by kernel_rfl) (by kernel_rfl) ?_
  intro a H
  refine wpList_nil ?_
  refine then_normal ?_
  refine wp_seq ?_
  refine w_region ?_
  refine H.call 13 (by kernel_rfl) (Eq.trans (by kernel_rfl : _ = (callFunc 13 #[]).run Tryd.prog w_4) (Tryd.call13 _ _)) (sane_any w_4 (hL.below (HP.below (by kernel_rfl)))) ?_
  rintro e w_5 ⟨rfl, hb⟩
  refine ⟨_, rfl, ?_⟩
  intro a H
  have HP := HP.next hb
  refine H.val 7 (.bool true) (by kernel_rfl) (by kernel_rfl) ?_
  intro a H
  refine wpList_nil ?_
  refine then_normal ?_
  refine wp_seq ?_
  refine w_region ?_
  refine H.val 14 (.int .i64 c) (by kernel_rfl) (by kernel_rfl) ?_
  intro a H
  refine H.call 15 (by kernel_rfl) (Eq.trans (by kernel_rfl : _ = (callFunc 14 #[(.int .i64 c)]).run Tryd.prog w_5) (Tryd.call14 _ _)) (rate_any c w_5 hc) ?_
  rintro e w_6 ⟨rfl, hb⟩
  refine ⟨_, rfl, ?_⟩
  intro a H
  have HP := HP.next hb
  refine H.alloc HP 8 (fun b => (.pointer (some ⟨b, 0, none⟩))) 23 [(.int .i64 0), (.int .i64 0)] (by kernel_rfl) (fun w => by kernel_rfl) ?_
  intro b_7 w_8 a H HP
  refine H.store HP 0 b_7 0 2 23 [(.int .i64 0), (.int .i64 0)] true (.agg #[(.int .i64 ((rateP c).1)), (.int .i64 ((rateP c).2))]) [bx b_7 23 [(.int .i64 ((rateP c).1)), (.int .i64 ((rateP c).2))] true, bx b_3 28 [(.int .i64 v.channel), (.int .i64 v.frame), (.int .i64 v.version), (.int .i64 v.item), (.int .i64 v.index), (.bool v.key), (.string (bstr v.data)), (.int .i64 v.regions), (.int .i64 v.gain), (.string (bstr v.caption)), (.int .i64 v.os), (.int .i64 v.of), (.slice v.A v.al.length v.c)] true, bx b_1 28 [(.int .i64 u.channel), (.int .i64 u.frame), (.int .i64 u.version), (.int .i64 u.item), (.int .i64 u.index), (.bool u.key), (.string (bstr u.data)), (.int .i64 u.regions), (.int .i64 u.gain), (.string (bstr u.caption)), (.int .i64 u.os), (.int .i64 u.of), (.slice u.A u.al.length u.c)] true] (by kernel_rfl) (by kernel_rfl) (by kernel_rfl) rfl (by kernel_rfl) (by kernel_rfl) (by kernel_rfl) (by kernel_rfl) (by kernel_rfl) ?_
  intro w_9 a H HP
  refine wpList_nil ?_
  refine then_normal ?_
  refine wp_seq ?_
  refine w_region ?_
  refine H.val 16 (.agg #[(.int .i64 u.channel), (.int .i64 u.frame), (.int .i64 u.version), (.int .i64 u.item), (.int .i64 u.index), (.bool u.key), (.string (bstr u.data)), (.int .i64 u.regions), (.int .i64 u.gain), (.string (bstr u.caption)), (.int .i64 u.os), (.int .i64 u.of), (.slice u.A u.al.length u.c)]) (by kernel_rfl) (ex_loadN (vs := [(.int .i64 u.channel), (.int .i64 u.frame), (.int .i64 u.version), (.int .i64 u.item), (.int .i64 u.index), (.bool u.key), (.string (bstr u.data)), (.int .i64 u.regions), (.int .i64 u.gain), (.string (bstr u.caption)), (.int .i64 u.os), (.int .i64 u.of), (.slice u.A u.al.length u.c)]) (by kernel_rfl) (by kernel_rfl) (by kernel_rfl) rfl (HP.cells 2 rfl 0 13 (by kernel_rfl))) ?_
  intro a H
  refine H.call 17 (by kernel_rfl) (Eq.trans (by kernel_rfl : _ = (callFunc 15 #[(.agg #[(.int .i64 u.channel), (.int .i64 u.frame), (.int .i64 u.version), (.int .i64 u.item), (.int .i64 u.index), (.bool u.key), (.string (bstr u.data)), (.int .i64 u.regions), (.int .i64 u.gain), (.string (bstr u.caption)), (.int .i64 u.os), (.int .i64 u.of), (.slice u.A u.al.length u.c)])]).run Tryd.prog w_9) (Tryd.call15 _ _)) (short_any u w_9 (huu.below (HP.below (by kernel_rfl))) hcu hAu) ?_
  rintro e w_10 ⟨Bu, cu, rfl, halu, hcau, hcbu, hccu, hfru, hb⟩
  refine ⟨_, rfl, ?_⟩
  intro a H
  have HP := (HP.next hb).keepF ⟨rowFp (shortU u).al.length Bu, fun w => IsAlts w Bu (shortU u).al.length (shortU u).al⟩ halu (fun _ _ h hk hs => ⟨h.1, h.2.keep hk hs⟩) (fun j hj => row_sep HP halu.2 hfru hj)
  refine H.store HP 2 b_1 0 13 28 [(.int .i64 u.channel), (.int .i64 u.frame), (.int .i64 u.version), (.int .i64 u.item), (.int .i64 u.index), (.bool u.key), (.string (bstr u.data)), (.int .i64 u.regions), (.int .i64 u.gain), (.string (bstr u.caption)), (.int .i64 u.os), (.int .i64 u.of), (.slice u.A u.al.length u.c)] true (.agg #[(.int .i64 ((shortU u).channel)), (.int .i64 ((shortU u).frame)), (.int .i64 ((shortU u).version)), (.int .i64 ((shortU u).item)), (.int .i64 ((shortU u).index)), (.bool ((shortU u).key)), (.string (bstr ((shortU u).data))), (.int .i64 ((shortU u).regions)), (.int .i64 ((shortU u).gain)), (.string (bstr ((shortU u).caption))), (.int .i64 ((shortU u).os)), (.int .i64 ((shortU u).of)), (.slice Bu ((shortU u).al.length) cu)]) [bx b_7 23 [(.int .i64 ((rateP c).1)), (.int .i64 ((rateP c).2))] true, bx b_3 28 [(.int .i64 v.channel), (.int .i64 v.frame), (.int .i64 v.version), (.int .i64 v.item), (.int .i64 v.index), (.bool v.key), (.string (bstr v.data)), (.int .i64 v.regions), (.int .i64 v.gain), (.string (bstr v.caption)), (.int .i64 v.os), (.int .i64 v.of), (.slice v.A v.al.length v.c)] true, bx b_1 28 [(.int .i64 ((shortU u).channel)), (.int .i64 ((shortU u).frame)), (.int .i64 ((shortU u).version)), (.int .i64 ((shortU u).item)), (.int .i64 ((shortU u).index)), (.bool ((shortU u).key)), (.string (bstr ((shortU u).data))), (.int .i64 ((shortU u).regions)), (.int .i64 ((shortU u).gain)), (.string (bstr ((shortU u).caption))), (.int .i64 ((shortU u).os)), (.int .i64 ((shortU u).of)), (.slice Bu ((shortU u).al.length) cu)] true] (by kernel_rfl) (by kernel_rfl) (by kernel_rfl) rfl (by kernel_rfl) (by kernel_rfl) (by kernel_rfl) (by kernel_rfl) (by kernel_rfl) ?_
  intro w_11 a H HP
  refine wpList_nil ?_
  refine then_normal ?_
  refine wp_seq ?_
  refine w_region ?_
  refine H.val 18 (.agg #[(.int .i64 v.channel), (.int .i64 v.frame), (.int .i64 v.version), (.int .i64 v.item), (.int .i64 v.index), (.bool v.key), (.string (bstr v.data)), (.int .i64 v.regions), (.int .i64 v.gain), (.string (bstr v.caption)), (.int .i64 v.os), (.int .i64 v.of), (.slice v.A v.al.length v.c)]) (by kernel_rfl) (ex_loadN (vs := [(.int .i64 v.channel), (.int .i64 v.frame), (.int .i64 v.version), (.int .i64 v.item), (.int .i64 v.index), (.bool v.key), (.string (bstr v.data)), (.int .i64 v.regions), (.int .i64 v.gain), (.string (bstr v.caption)), (.int .i64 v.os), (.int .i64 v.of), (.slice v.A v.al.length v.c)]) (by kernel_rfl) (by kernel_rfl) (by kernel_rfl) rfl (HP.cells 1 rfl 0 13 (by kernel_rfl))) ?_
  intro a H
  refine H.call 19 (by kernel_rfl) (Eq.trans (by kernel_rfl : _ = (callFunc 15 #[(.agg #[(.int .i64 v.channel), (.int .i64 v.frame), (.int .i64 v.version), (.int .i64 v.item), (.int .i64 v.index), (.bool v.key), (.string (bstr v.data)), (.int .i64 v.regions), (.int .i64 v.gain), (.string (bstr v.caption)), (.int .i64 v.os), (.int .i64 v.of), (.slice v.A v.al.length v.c)])]).run Tryd.prog w_11) (Tryd.call15 _ _)) (short_any v w_11 (huv.below (HP.below (by kernel_rfl))) hcv hAv) ?_
  rintro e w_12 ⟨Bv, cv, rfl, halv, hcav, hcbv, hccv, hfrv, hb⟩
  refine ⟨_, rfl, ?_⟩
  intro a H
  have HP := (HP.next hb).keepF ⟨rowFp (shortU v).al.length Bv, fun w => IsAlts w Bv (shortU v).al.length (shortU v).al⟩ halv (fun _ _ h hk hs => ⟨h.1, h.2.keep hk hs⟩) (fun j hj => row_sep HP halv.2 hfrv hj)
  refine H.store HP 1 b_3 0 13 28 [(.int .i64 v.channel), (.int .i64 v.frame), (.int .i64 v.version), (.int .i64 v.item), (.int .i64 v.index), (.bool v.key), (.string (bstr v.data)), (.int .i64 v.regions), (.int .i64 v.gain), (.string (bstr v.caption)), (.int .i64 v.os), (.int .i64 v.of), (.slice v.A v.al.length v.c)] true (.agg #[(.int .i64 ((shortU v).channel)), (.int .i64 ((shortU v).frame)), (.int .i64 ((shortU v).version)), (.int .i64 ((shortU v).item)), (.int .i64 ((shortU v).index)), (.bool ((shortU v).key)), (.string (bstr ((shortU v).data))), (.int .i64 ((shortU v).regions)), (.int .i64 ((shortU v).gain)), (.string (bstr ((shortU v).caption))), (.int .i64 ((shortU v).os)), (.int .i64 ((shortU v).of)), (.slice Bv ((shortU v).al.length) cv)]) [bx b_7 23 [(.int .i64 ((rateP c).1)), (.int .i64 ((rateP c).2))] true, bx b_3 28 [(.int .i64 ((shortU v).channel)), (.int .i64 ((shortU v).frame)), (.int .i64 ((shortU v).version)), (.int .i64 ((shortU v).item)), (.int .i64 ((shortU v).index)), (.bool ((shortU v).key)), (.string (bstr ((shortU v).data))), (.int .i64 ((shortU v).regions)), (.int .i64 ((shortU v).gain)), (.string (bstr ((shortU v).caption))), (.int .i64 ((shortU v).os)), (.int .i64 ((shortU v).of)), (.slice Bv ((shortU v).al.length) cv)] true, bx b_1 28 [(.int .i64 ((shortU u).channel)), (.int .i64 ((shortU u).frame)), (.int .i64 ((shortU u).version)), (.int .i64 ((shortU u).item)), (.int .i64 ((shortU u).index)), (.bool ((shortU u).key)), (.string (bstr ((shortU u).data))), (.int .i64 ((shortU u).regions)), (.int .i64 ((shortU u).gain)), (.string (bstr ((shortU u).caption))), (.int .i64 ((shortU u).os)), (.int .i64 ((shortU u).of)), (.slice Bu ((shortU u).al.length) cu)] true] (by kernel_rfl) (by kernel_rfl) (by kernel_rfl) rfl (by kernel_rfl) (by kernel_rfl) (by kernel_rfl) (by kernel_rfl) (by kernel_rfl) ?_
  intro w_13 a H HP
  refine wpList_nil ?_
  refine then_normal ?_
  refine wp_seq ?_
  refine w_region ?_
  refine H.val 21 (.agg #[(.int .i64 ((rateP c).1)), (.int .i64 ((rateP c).2))]) (by kernel_rfl) (ex_loadN (vs := [(.int .i64 ((rateP c).1)), (.int .i64 ((rateP c).2))]) (by kernel_rfl) (by kernel_rfl) (by kernel_rfl) rfl (HP.cells 0 rfl 0 2 (by kernel_rfl))) ?_
  intro a H
  refine H.val 22 (.agg #[(.int .i64 ((shortU u).channel)), (.int .i64 ((shortU u).frame)), (.int .i64 ((shortU u).version)), (.int .i64 ((shortU u).item)), (.int .i64 ((shortU u).index)), (.bool ((shortU u).key)), (.string (bstr ((shortU u).data))), (.int .i64 ((shortU u).regions)), (.int .i64 ((shortU u).gain)), (.string (bstr ((shortU u).caption))), (.int .i64 ((shortU u).os)), (.int .i64 ((shortU u).of)), (.slice Bu ((shortU u).al.length) cu)]) (by kernel_rfl) (ex_loadN (vs := [(.int .i64 ((shortU u).channel)), (.int .i64 ((shortU u).frame)), (.int .i64 ((shortU u).version)), (.int .i64 ((shortU u).item)), (.int .i64 ((shortU u).index)), (.bool ((shortU u).key)), (.string (bstr ((shortU u).data))), (.int .i64 ((shortU u).regions)), (.int .i64 ((shortU u).gain)), (.string (bstr ((shortU u).caption))), (.int .i64 ((shortU u).os)), (.int .i64 ((shortU u).of)), (.slice Bu ((shortU u).al.length) cu)]) (by kernel_rfl) (by kernel_rfl) (by kernel_rfl) rfl (HP.cells 2 rfl 0 13 (by kernel_rfl))) ?_
  intro a H
  refine H.call 23 (by kernel_rfl) (Eq.trans (by kernel_rfl : _ = (callFunc 16 #[(.agg #[(.int .i64 ((rateP c).1)), (.int .i64 ((rateP c).2))]), (.agg #[(.int .i64 ((shortU u).channel)), (.int .i64 ((shortU u).frame)), (.int .i64 ((shortU u).version)), (.int .i64 ((shortU u).item)), (.int .i64 ((shortU u).index)), (.bool ((shortU u).key)), (.string (bstr ((shortU u).data))), (.int .i64 ((shortU u).regions)), (.int .i64 ((shortU u).gain)), (.string (bstr ((shortU u).caption))), (.int .i64 ((shortU u).os)), (.int .i64 ((shortU u).of)), (.slice Bu ((shortU u).al.length) cu)])]).run Tryd.prog w_13) (Tryd.call16 _ _)) ((by have hh := pack_any ((rateP c).1) ((rateP c).2) ({ shortU u with A := Bu, c := cu } : Un) w_13 (hL.below (HP.below (by kernel_rfl))) (HP.fact 1 rfl) (Nat.le_trans hcau hcbu); rw [hZu Bu cu, packV_eq] at hh; exact hh)) ?_
  rintro e w_14 ⟨rfl, hb⟩
  refine ⟨_, rfl, ?_⟩
  intro a H
  have HP := HP.next hb
  refine H.val 20 (.tuple #[(.string (bstr (Zu.getD []))), (.int .i64 (if Zu.isSome = true then 0 else 180 : Int))]) (by kernel_rfl) (by kernel_rfl) ?_
  intro a H
  refine H.val 24 (.string (bstr (Zu.getD []))) (by kernel_rfl) (by kernel_rfl) ?_
  intro a H
  refine H.val 25 (.int .i64 (if Zu.isSome = true then 0 else 180 : Int)) (by kernel_rfl) (by kernel_rfl) ?_
  intro a H
  refine H.val 9 (.string (bstr (Zu.getD []))) (by kernel_rfl) (by kernel_rfl) ?_
  intro a H
  refine H.val 10 (.int .i64 (if Zu.isSome = true then 0 else 180 : Int)) (by kernel_rfl) (by kernel_rfl) ?_
  intro a H
  refine wpList_nil ?_
  have H := H.keep (L' := [(10, (.int .i64 (if Zu.isSome = true then 0 else 180 : Int))), (9, (.string (bstr (Zu.getD [])))), (19, (.agg #[(.int .i64 ((shortU v).channel)), (.int .i64 ((shortU v).frame)), (.int .i64 ((shortU v).version)), (.int .i64 ((shortU v).item)), (.int .i64 ((shortU v).index)), (.bool ((shortU v).key)), (.string (bstr ((shortU v).data))), (.int .i64 ((shortU v).regions)), (.int .i64 ((shortU v).gain)), (.string (bstr ((shortU v).caption))), (.int .i64 ((shortU v).os)), (.int .i64 ((shortU v).of)), (.slice Bv ((shortU v).al.length) cv)])), (18, (.agg #[(.int .i64 v.channel), (.int .i64 v.frame), (.int .i64 v.version), (.int .i64 v.item), (.int .i64 v.index), (.bool v.key), (.string (bstr v.data)), (.int .i64 v.regions), (.int .i64 v.gain), (.string (bstr v.caption)), (.int .i64 v.os), (.int .i64 v.of), (.slice v.A v.al.length v.c)])), (17, (.agg #[(.int .i64 ((shortU u).channel)), (.int .i64 ((shortU u).frame)), (.int .i64 ((shortU u).version)), (.int .i64 ((shortU u).item)), (.int .i64 ((shortU u).index)), (.bool ((shortU u).key)), (.string (bstr ((shortU u).data))), (.int .i64 ((shortU u).regions)), (.int .i64 ((shortU u).gain)), (.string (bstr ((shortU u).caption))), (.int .i64 ((shortU u).os)), (.int .i64 ((shortU u).of)), (.slice Bu ((shortU u).al.length) cu)])), (16, (.agg #[(.int .i64 u.channel), (.int .i64 u.frame), (.int .i64 u.version), (.int .i64 u.item), (.int .i64 u.index), (.bool u.key), (.string (bstr u.data)), (.int .i64 u.regions), (.int .i64 u.gain), (.string (bstr u.caption)), (.int .i64 u.os), (.int .i64 u.of), (.slice u.A u.al.length u.c)])), (8, (.pointer (some ⟨b_7, 0, none⟩))), (15, (.agg #[(.int .i64 ((rateP c).1)), (.int .i64 ((rateP c).2))])), (14, (.int .i64 c)), (7, (.bool true)), (13, (.bool true)), (6, (.bool false)), (5, (.pointer (some ⟨b_3, 0, none⟩))), (4, (.pointer (some ⟨b_1, 0, none⟩))), (0, (.int .i64 c)), (1, (.agg #[(.int .i64 u.channel), (.int .i64 u.frame), (.int .i64 u.version), (.int .i64 u.item), (.int .i64 u.index), (.bool u.key), (.string (bstr u.data)), (.int .i64 u.regions), (.int .i64 u.gain), (.string (bstr u.caption)), (.int .i64 u.os), (.int .i64 u.of), (.slice u.A u.al.length u.c)])), (2, (.agg #[(.int .i64 v.channel), (.int .i64 v.frame), (.int .i64 v.version), (.int .i64 v.item), (.int .i64 v.index), (.bool v.key), (.string (bstr v.data)), (.int .i64 v.regions), (.int .i64 v.gain), (.string (bstr v.caption)), (.int .i64 v.os), (.int .i64 v.of), (.slice v.A v.al.length v.c)]))]) (by kernel_rfl)
  refine then_normal ?_
  refine wp_seq ?_
  refine w_region ?_
  refine H.val 27 (.agg #[(.int .i64 ((rateP c).1)), (.int .i64 ((rateP c).2))]) (by kernel_rfl) (ex_loadN (vs := [(.int .i64 ((rateP c).1)), (.int .i64 ((rateP c).2))]) (by kernel_rfl) (by kernel_rfl) (by kernel_rfl) rfl (HP.cells 0 rfl 0 2 (by kernel_rfl))) ?_
  intro a H
  refine H.val 28 (.agg #[(.int .i64 ((shortU v).channel)), (.int .i64 ((shortU v).frame)), (.int .i64 ((shortU v).version)), (.int .i64 ((shortU v).item)), (.int .i64 ((shortU v).index)), (.bool ((shortU v).key)), (.string (bstr ((shortU v).data))), (.int .i64 ((shortU v).regions)), (.int .i64 ((shortU v).gain)), (.string (bstr ((shortU v).caption))), (.int .i64 ((shortU v).os)), (.int .i64 ((shortU v).of)), (.slice Bv ((shortU v).al.length) cv)]) (by kernel_rfl) (ex_loadN (vs := [(.int .i64 ((shortU v).channel)), (.int .i64 ((shortU v).frame)), (.int .i64 ((shortU v).version)), (.int .i64 ((shortU v).item)), (.int .i64 ((shortU v).index)), (.bool ((shortU v).key)), (.string (bstr ((shortU v).data))), (.int .i64 ((shortU v).regions)), (.int .i64 ((shortU v).gain)), (.string (bstr ((shortU v).caption))), (.int .i64 ((shortU v).os)), (.int .i64 ((shortU v).of)), (.slice Bv ((shortU v).al.length) cv)]) (by kernel_rfl) (by kernel_rfl) (by kernel_rfl) rfl (HP.cells 1 rfl 0 13 (by kernel_rfl))) ?_
  intro a H
  refine H.call 29 (by kernel_rfl) (Eq.trans (by kernel_rfl : _ = (callFunc 16 #[(.agg #[(.int .i64 ((rateP c).1)), (.int .i64 ((rateP c).2))]), (.agg #[(.int .i64 ((shortU v).channel)), (.int .i64 ((shortU v).frame)), (.int .i64 ((shortU v).version)), (.int .i64 ((shortU v).item)), (.int .i64 ((shortU v).index)), (.bool ((shortU v).key)), (.string (bstr ((shortU v).data))), (.int .i64 ((shortU v).regions)), (.int .i64 ((shortU v).gain)), (.string (bstr ((shortU v).caption))), (.int .i64 ((shortU v).os)), (.int .i64 ((shortU v).of)), (.slice Bv ((shortU v).al.length) cv)])]).run Tryd.prog w_14) (Tryd.call16 _ _)) ((by have hh := pack_any ((rateP c).1) ((rateP c).2) ({ shortU v with A := Bv, c := cv } : Un) w_14 (hL.below (HP.below (by kernel_rfl))) (HP.fact 0 rfl) (Nat.le_trans hcav hcbv); rw [hZv Bv cv, packV_eq] at hh; exact hh)) ?_
  rintro e w_15 ⟨rfl, hb⟩
  refine ⟨_, rfl, ?_⟩
  intro a H
  have HP := HP.next hb
  refine H.val 26 (.tuple #[(.string (bstr (Zv.getD []))), (.int .i64 (if Zv.isSome = true then 0 else 180 : Int))]) (by kernel_rfl) (by kernel_rfl) ?_
  intro a H
  refine H.val 30 (.string (bstr (Zv.getD []))) (by kernel_rfl) (by kernel_rfl) ?_
  intro a H
  refine H.val 31 (.int .i64 (if Zv.isSome = true then 0 else 180 : Int)) (by kernel_rfl) (by kernel_rfl) ?_
  intro a H
  refine H.val 11 (.string (bstr (Zv.getD []))) (by kernel_rfl) (by kernel_rfl) ?_
  intro a H
  refine H.val 12 (.int .i64 (if Zv.isSome = true then 0 else 180 : Int)) (by kernel_rfl) (by kernel_rfl) ?_
  intro a H
  refine wpList_nil ?_
  have H := H.keep (L' := [(12, (.int .i64 (if Zv.isSome = true then 0 else 180 : Int))), (11, (.string (bstr (Zv.getD [])))), (10, (.int .i64 (if Zu.isSome = true then 0 else 180 : Int))), (9, (.string (bstr (Zu.getD [])))), (19, (.agg #[(.int .i64 ((shortU v).channel)), (.int .i64 ((shortU v).frame)), (.int .i64 ((shortU v).version)), (.int .i64 ((shortU v).item)), (.int .i64 ((shortU v).index)), (.bool ((shortU v).key)), (.string (bstr ((shortU v).data))), (.int .i64 ((shortU v).regions)), (.int .i64 ((shortU v).gain)), (.string (bstr ((shortU v).caption))), (.int .i64 ((shortU v).os)), (.int .i64 ((shortU v).of)), (.slice Bv ((shortU v).al.length) cv)])), (18, (.agg #[(.int .i64 v.channel), (.int .i64 v.frame), (.int .i64 v.version), (.int .i64 v.item), (.int .i64 v.index), (.bool v.key), (.string (bstr v.data)), (.int .i64 v.regions), (.int .i64 v.gain), (.string (bstr v.caption)), (.int .i64 v.os), (.int .i64 v.of), (.slice v.A v.al.length v.c)])), (17, (.agg #[(.int .i64 ((shortU u).channel)), (.int .i64 ((shortU u).frame)), (.int .i64 ((shortU u).version)), (.int .i64 ((shortU u).item)), (.int .i64 ((shortU u).index)), (.bool ((shortU u).key)), (.string (bstr ((shortU u).data))), (.int .i64 ((shortU u).regions)), (.int .i64 ((shortU u).gain)), (.string (bstr ((shortU u).caption))), (.int .i64 ((shortU u).os)), (.int .i64 ((shortU u).of)), (.slice Bu ((shortU u).al.length) cu)])), (16, (.agg #[(.int .i64 u.channel), (.int .i64 u.frame), (.int .i64 u.version), (.int .i64 u.item), (.int .i64 u.index), (.bool u.key), (.string (bstr u.data)), (.int .i64 u.regions), (.int .i64 u.gain), (.string (bstr u.caption)), (.int .i64 u.os), (.int .i64 u.of), (.slice u.A u.al.length u.c)])), (8, (.pointer (some ⟨b_7, 0, none⟩))), (15, (.agg #[(.int .i64 ((rateP c).1)), (.int .i64 ((rateP c).2))])), (14, (.int .i64 c)), (7, (.bool true)), (13, (.bool true)), (6, (.bool false)), (5, (.pointer (some ⟨b_3, 0, none⟩))), (4, (.pointer (some ⟨b_1, 0, none⟩))), (0, (.int .i64 c)), (1, (.agg #[(.int .i64 u.channel), (.int .i64 u.frame), (.int .i64 u.version), (.int .i64 u.item), (.int .i64 u.index), (.bool u.key), (.string (bstr u.data)), (.int .i64 u.regions), (.int .i64 u.gain), (.string (bstr u.caption)), (.int .i64 u.os), (.int .i64 u.of), (.slice u.A u.al.length u.c)])), (2, (.agg #[(.int .i64 v.channel), (.int .i64 v.frame), (.int .i64 v.version), (.int .i64 v.item), (.int .i64 v.index), (.bool v.key), (.string (bstr v.data)), (.int .i64 v.regions), (.int .i64 v.gain), (.string (bstr v.caption)), (.int .i64 v.os), (.int .i64 v.of), (.slice v.A v.al.length v.c)]))]) (by kernel_rfl)
  refine then_normal ?_
  refine wp_seq ?_
  refine wp_seq ?_
  refine w_region ?_
  refine H.val 32 (.int .i64 (if Zu.isSome = true then 0 else 180 : Int)) (by kernel_rfl) (by kernel_rfl) ?_
  intro a H
  refine H.val 33 (.bool ((if Zu.isSome = true then 0 else 180 : Int) != 0)) (by kernel_rfl) (by kernel_rfl) ?_
  intro a H
  refine H.val 34 (.bool ((if Zu.isSome = true then 0 else 180 : Int) != 0)) (by kernel_rfl) (by kernel_rfl) ?_
  intro a H
  refine H.split 34 rfl (fun g34 H => ?_) (fun g34 H => ?_)
  · have g34p := bne_iff_ne.1 g34
    refine H.skip 35 (by kernel_rfl) ?_
    intro a H
    refine H.skip 36 (by kernel_rfl) ?_
    intro a H
    refine H.val 37 (.bool true) (by kernel_rfl) (by kernel_rfl) ?_
    intro a H
    refine wpList_nil ?_
    have H := H.keep (L' := [(37, (.bool true)), (12, (.int .i64 (if Zv.isSome = true then 0 else 180 : Int))), (11, (.string (bstr (Zv.getD [])))), (10, (.int .i64 (if Zu.isSome = true then 0 else 180 : Int))), (9, (.string (bstr (Zu.getD [])))), (19, (.agg #[(.int .i64 ((shortU v).channel)), (.int .i64 ((shortU v).frame)), (.int .i64 ((shortU v).version)), (.int .i64 ((shortU v).item)), (.int .i64 ((shortU v).index)), (.bool ((shortU v).key)), (.string (bstr ((shortU v).data))), (.int .i64 ((shortU v).regions)), (.int .i64 ((shortU v).gain)), (.string (bstr ((shortU v).caption))), (.int .i64 ((shortU v).os)), (.int .i64 ((shortU v).of)), (.slice Bv ((shortU v).al.length) cv)])), (18, (.agg #[(.int .i64 v.channel), (.int .i64 v.frame), (.int .i64 v.version), (.int .i64 v.item), (.int .i64 v.index), (.bool v.key), (.string (bstr v.data)), (.int .i64 v.regions), (.int .i64 v.gain), (.string (bstr v.caption)), (.int .i64 v.os), (.int .i64 v.of), (.slice v.A v.al.length v.c)])), (17, (.agg #[(.int .i64 ((shortU u).channel)), (.int .i64 ((shortU u).frame)), (.int .i64 ((shortU u).version)), (.int .i64 ((shortU u).item)), (.int .i64 ((shortU u).index)), (.bool ((shortU u).key)), (.string (bstr ((shortU u).data))), (.int .i64 ((shortU u).regions)), (.int .i64 ((shortU u).gain)), (.string (bstr ((shortU u).caption))), (.int .i64 ((shortU u).os)), (.int .i64 ((shortU u).of)), (.slice Bu ((shortU u).al.length) cu)])), (16, (.agg #[(.int .i64 u.channel), (.int .i64 u.frame), (.int .i64 u.version), (.int .i64 u.item), (.int .i64 u.index), (.bool u.key), (.string (bstr u.data)), (.int .i64 u.regions), (.int .i64 u.gain), (.string (bstr u.caption)), (.int .i64 u.os), (.int .i64 u.of), (.slice u.A u.al.length u.c)])), (8, (.pointer (some ⟨b_7, 0, none⟩))), (15, (.agg #[(.int .i64 ((rateP c).1)), (.int .i64 ((rateP c).2))])), (14, (.int .i64 c)), (7, (.bool true)), (13, (.bool true)), (6, (.bool false)), (5, (.pointer (some ⟨b_3, 0, none⟩))), (4, (.pointer (some ⟨b_1, 0, none⟩))), (0, (.int .i64 c)), (1, (.agg #[(.int .i64 u.channel), (.int .i64 u.frame), (.int .i64 u.version), (.int .i64 u.item), (.int .i64 u.index), (.bool u.key), (.string (bstr u.data)), (.int .i64 u.regions), (.int .i64 u.gain), (.string (bstr u.caption)), (.int .i64 u.os), (.int .i64 u.of), (.slice u.A u.al.length u.c)])), (2, (.agg #[(.int .i64 v.channel), (.int .i64 v.frame), (.int .i64 v.version), (.int .i64 v.item), (.int .i64 v.index), (.bool v.key), (.string (bstr v.data)), (.int .i64 v.regions), (.int .i64 v.gain), (.string (bstr v.caption)), (.int .i64 v.os), (.int .i64 v.of), (.slice v.A v.al.length v.c)]))]) (by kernel_rfl)
    refine then_normal ?_
    refine w_ift H rfl ?_
    refine wp_seq ?_
    refine w_region ?_
    refine H.val 38 (.bool true) (by kernel_rfl) (by kernel_rfl) ?_
    intro a H
    refine H.val 6 (.bool true) (by kernel_rfl) (by kernel_rfl) ?_
    intro a H
    refine wpList_nil ?_
    refine then_normal ?_
    refine wp_ret ?_
    refine then_ret ?_
    refine H.ret1 (fn := Tryd.f6) Tryd.results6 (RV.tmp_ (v := (.bool true)) (by kernel_rfl)) ?_
    exact ⟨rfl, (HP.below (by kernel_rfl))⟩
  · have g34p := eq_of_bne_false g34
    refine H.val 35 (.int .i64 (if Zv.isSome = true then 0 else 180 : Int)) (by kernel_rfl) (by kernel_rfl) ?_
    intro a H
    refine H.val 36 (.bool ((if Zv.isSome = true then 0 else 180 : Int) != 0)) (by kernel_rfl) (by kernel_rfl) ?_
    intro a H
    refine H.val 37 (.bool ((if Zv.isSome = true then 0 else 180 : Int) != 0)) (by kernel_rfl) (by kernel_rfl) ?_
    intro a H
    refine wpList_nil ?_
    have H := H.keep (L' := [(37, (.bool ((if Zv.isSome = true then 0 else 180 : Int) != 0))), (12, (.int .i64 (if Zv.isSome = true then 0 else 180 : Int))), (11, (.string (bstr (Zv.getD [])))), (10, (.int .i64 (if Zu.isSome = true then 0 else 180 : Int))), (9, (.string (bstr (Zu.getD [])))), (19, (.agg #[(.int .i64 ((shortU v).channel)), (.int .i64 ((shortU v).frame)), (.int .i64 ((shortU v).version)), (.int .i64 ((shortU v).item)), (.int .i64 ((shortU v).index)), (.bool ((shortU v).key)), (.string (bstr ((shortU v).data))), (.int .i64 ((shortU v).regions)), (.int .i64 ((shortU v).gain)), (.string (bstr ((shortU v).caption))), (.int .i64 ((shortU v).os)), (.int .i64 ((shortU v).of)), (.slice Bv ((shortU v).al.length) cv)])), (18, (.agg #[(.int .i64 v.channel), (.int .i64 v.frame), (.int .i64 v.version), (.int .i64 v.item), (.int .i64 v.index), (.bool v.key), (.string (bstr v.data)), (.int .i64 v.regions), (.int .i64 v.gain), (.string (bstr v.caption)), (.int .i64 v.os), (.int .i64 v.of), (.slice v.A v.al.length v.c)])), (17, (.agg #[(.int .i64 ((shortU u).channel)), (.int .i64 ((shortU u).frame)), (.int .i64 ((shortU u).version)), (.int .i64 ((shortU u).item)), (.int .i64 ((shortU u).index)), (.bool ((shortU u).key)), (.string (bstr ((shortU u).data))), (.int .i64 ((shortU u).regions)), (.int .i64 ((shortU u).gain)), (.string (bstr ((shortU u).caption))), (.int .i64 ((shortU u).os)), (.int .i64 ((shortU u).of)), (.slice Bu ((shortU u).al.length) cu)])), (16, (.agg #[(.int .i64 u.channel), (.int .i64 u.frame), (.int .i64 u.version), (.int .i64 u.item), (.int .i64 u.index), (.bool u.key), (.string (bstr u.data)), (.int .i64 u.regions), (.int .i64 u.gain), (.string (bstr u.caption)), (.int .i64 u.os), (.int .i64 u.of), (.slice u.A u.al.length u.c)])), (8, (.pointer (some ⟨b_7, 0, none⟩))), (15, (.agg #[(.int .i64 ((rateP c).1)), (.int .i64 ((rateP c).2))])), (14, (.int .i64 c)), (7, (.bool true)), (13, (.bool true)), (6, (.bool false)), (5, (.pointer (some ⟨b_3, 0, none⟩))), (4, (.pointer (some ⟨b_1, 0, none⟩))), (0, (.int .i64 c)), (1, (.agg #[(.int .i64 u.channel), (.int .i64 u.frame), (.int .i64 u.version), (.int .i64 u.item), (.int .i64 u.index), (.bool u.key), (.string (bstr u.data)), (.int .i64 u.regions), (.int .i64 u.gain), (.string (bstr u.caption)), (.int .i64 u.os), (.int .i64 u.of), (.slice u.A u.al.length u.c)])), (2, (.agg #[(.int .i64 v.channel), (.int .i64 v.frame), (.int .i64 v.version), (.int .i64 v.item), (.int .i64 v.index), (.bool v.key), (.string (bstr v.data)), (.int .i64 v.regions), (.int .i64 v.gain), (.string (bstr v.caption)), (.int .i64 v.os), (.int .i64 v.of), (.slice v.A v.al.length v.c)]))]) (by kernel_rfl)
    refine then_normal ?_
    refine w_if H rfl (fun g37 => ?_) (fun g37 => ?_)
    · have g37p := bne_iff_ne.1 g37
      refine wp_seq ?_
      refine w_region ?_
      refine H.val 38 (.bool true) (by kernel_rfl) (by kernel_rfl) ?_
      intro a H
      refine H.val 6 (.bool true) (by kernel_rfl) (by kernel_rfl) ?_
      intro a H
      refine wpList_nil ?_
      refine then_normal ?_
      refine wp_ret ?_
      refine then_ret ?_
      refine H.ret1 (fn := Tryd.f6) Tryd.results6 (RV.tmp_ (v := (.bool true)) (by kernel_rfl)) ?_
      exact ⟨rfl, (HP.below (by kernel_rfl))⟩
    · have g37p := eq_of_bne_false g37
      refine wp_skip ?_
      refine then_normal ?_
      refine wp_seq ?_
      refine w_region ?_
      refine H.val 39 (.bool true) (by kernel_rfl) (by kernel_rfl) ?_
      intro a H
      refine H.val 40 (.bool true) (by kernel_rfl) (by kernel_rfl) ?_
      intro a H
      refine H.val 41 (.string (bstr (Zu.getD []))) (by kernel_rfl) (by kernel_rfl) ?_
      intro a H
      refine H.val 42 (.string (bstr (Zv.getD []))) (by kernel_rfl) (by kernel_rfl) ?_
      intro a H
      refine H.valE 43 (.bool ((bstr (Zu.getD [])).toList == (bstr (Zv.getD [])).toList)) (.bool ((Zu.getD []) == (Zv.getD []))) (by kernel_rfl) (by kernel_rfl) ((congrArg Value.bool (bstr_eq _ _))) ?_
      intro a H
      refine H.val 44 (.agg #[(.int .i64 ((shortU u).channel)), (.int .i64 ((shortU u).frame)), (.int .i64 ((shortU u).version)), (.int .i64 ((shortU u).item)), (.int .i64 ((shortU u).index)), (.bool ((shortU u).key)), (.string (bstr ((shortU u).data))), (.int .i64 ((shortU u).regions)), (.int .i64 ((shortU u).gain)), (.string (bstr ((shortU u).caption))), (.int .i64 ((shortU u).os)), (.int .i64 ((shortU u).of)), (.slice Bu ((shortU u).al.length) cu)]) (by kernel_rfl) (ex_loadN (vs := [(.int .i64 ((shortU u).channel)), (.int .i64 ((shortU u).frame)), (.int .i64 ((shortU u).version)), (.int .i64 ((shortU u).item)), (.int .i64 ((shortU u).index)), (.bool ((shortU u).key)), (.string (bstr ((shortU u).data))), (.int .i64 ((shortU u).regions)), (.int .i64 ((shortU u).gain)), (.string (bstr ((shortU u).caption))), (.int .i64 ((shortU u).os)), (.int .i64 ((shortU u).of)), (.slice Bu ((shortU u).al.length) cu)]) (by kernel_rfl) (by kernel_rfl) (by kernel_rfl) rfl (HP.cells 2 rfl 0 13 (by kernel_rfl))) ?_
      intro a H
      refine H.val 45 (.agg #[(.int .i64 ((shortU v).channel)), (.int .i64 ((shortU v).frame)), (.int .i64 ((shortU v).version)), (.int .i64 ((shortU v).item)), (.int .i64 ((shortU v).index)), (.bool ((shortU v).key)), (.string (bstr ((shortU v).data))), (.int .i64 ((shortU v).regions)), (.int .i64 ((shortU v).gain)), (.string (bstr ((shortU v).caption))), (.int .i64 ((shortU v).os)), (.int .i64 ((shortU v).of)), (.slice Bv ((shortU v).al.length) cv)]) (by kernel_rfl) (ex_loadN (vs := [(.int .i64 ((shortU v).channel)), (.int .i64 ((shortU v).frame)), (.int .i64 ((shortU v).version)), (.int .i64 ((shortU v).item)), (.int .i64 ((shortU v).index)), (.bool ((shortU v).key)), (.string (bstr ((shortU v).data))), (.int .i64 ((shortU v).regions)), (.int .i64 ((shortU v).gain)), (.string (bstr ((shortU v).caption))), (.int .i64 ((shortU v).os)), (.int .i64 ((shortU v).of)), (.slice Bv ((shortU v).al.length) cv)]) (by kernel_rfl) (by kernel_rfl) (by kernel_rfl) rfl (HP.cells 1 rfl 0 13 (by kernel_rfl))) ?_
      intro a H
      refine H.call 46 (by kernel_rfl) (Eq.trans (by kernel_rfl : _ = (callFunc 20 #[(.agg #[(.int .i64 ((shortU u).channel)), (.int .i64 ((shortU u).frame)), (.int .i64 ((shortU u).version)), (.int .i64 ((shortU u).item)), (.int .i64 ((shortU u).index)), (.bool ((shortU u).key)), (.string (bstr ((shortU u).data))), (.int .i64 ((shortU u).regions)), (.int .i64 ((shortU u).gain)), (.string (bstr ((shortU u).caption))), (.int .i64 ((shortU u).os)), (.int .i64 ((shortU u).of)), (.slice Bu ((shortU u).al.length) cu)]), (.agg #[(.int .i64 ((shortU v).channel)), (.int .i64 ((shortU v).frame)), (.int .i64 ((shortU v).version)), (.int .i64 ((shortU v).item)), (.int .i64 ((shortU v).index)), (.bool ((shortU v).key)), (.string (bstr ((shortU v).data))), (.int .i64 ((shortU v).regions)), (.int .i64 ((shortU v).gain)), (.string (bstr ((shortU v).caption))), (.int .i64 ((shortU v).os)), (.int .i64 ((shortU v).of)), (.slice Bv ((shortU v).al.length) cv)])]).run Tryd.prog w_15) (Tryd.call20 _ _)) (usame_any ({ shortU u with A := Bu, c := cu } : Un) ({ shortU v with A := Bv, c := cv } : Un) w_15 (HP.fact 1 rfl) (HP.fact 0 rfl) (Nat.le_trans hcau hcbu)) ?_
      rintro e w_16 ⟨rfl, hb⟩
      refine ⟨_, rfl, ?_⟩
      intro a H
      have HP := HP.next hb
      refine H.val 47 (.bool (((Zu.getD []) == (Zv.getD [])) == (sameU (shortU u) (shortU v)))) (by kernel_rfl) (by kernel_rfl) ?_
      intro a H
      refine H.val 48 (.bool (((Zu.getD []) == (Zv.getD [])) == (sameU (shortU u) (shortU v)))) (by kernel_rfl) (by kernel_rfl) ?_
      intro a H
      refine H.val 6 (.bool (((Zu.getD []) == (Zv.getD [])) == (sameU (shortU u) (shortU v)))) (by kernel_rfl) (by kernel_rfl) ?_
      intro a H
      refine wpList_nil ?_
      have H := H.keep (L' := [(6, (.bool (((Zu.getD []) == (Zv.getD [])) == (sameU (shortU u) (shortU v))))), (37, (.bool ((if Zv.isSome = true then 0 else 180 : Int) != 0))), (12, (.int .i64 (if Zv.isSome = true then 0 else 180 : Int))), (11, (.string (bstr (Zv.getD [])))), (10, (.int .i64 (if Zu.isSome = true then 0 else 180 : Int))), (9, (.string (bstr (Zu.getD [])))), (19, (.agg #[(.int .i64 ((shortU v).channel)), (.int .i64 ((shortU v).frame)), (.int .i64 ((shortU v).version)), (.int .i64 ((shortU v).item)), (.int .i64 ((shortU v).index)), (.bool ((shortU v).key)), (.string (bstr ((shortU v).data))), (.int .i64 ((shortU v).regions)), (.int .i64 ((shortU v).gain)), (.string (bstr ((shortU v).caption))), (.int .i64 ((shortU v).os)), (.int .i64 ((shortU v).of)), (.slice Bv ((shortU v).al.length) cv)])), (18, (.agg #[(.int .i64 v.channel), (.int .i64 v.frame), (.int .i64 v.version), (.int .i64 v.item), (.int .i64 v.index), (.bool v.key), (.string (bstr v.data)), (.int .i64 v.regions), (.int .i64 v.gain), (.string (bstr v.caption)), (.int .i64 v.os), (.int .i64 v.of), (.slice v.A v.al.length v.c)])), (17, (.agg #[(.int .i64 ((shortU u).channel)), (.int .i64 ((shortU u).frame)), (.int .i64 ((shortU u).version)), (.int .i64 ((shortU u).item)), (.int .i64 ((shortU u).index)), (.bool ((shortU u).key)), (.string (bstr ((shortU u).data))), (.int .i64 ((shortU u).regions)), (.int .i64 ((shortU u).gain)), (.string (bstr ((shortU u).caption))), (.int .i64 ((shortU u).os)), (.int .i64 ((shortU u).of)), (.slice Bu ((shortU u).al.length) cu)])), (16, (.agg #[(.int .i64 u.channel), (.int .i64 u.frame), (.int .i64 u.version), (.int .i64 u.item), (.int .i64 u.index), (.bool u.key), (.string (bstr u.data)), (.int .i64 u.regions), (.int .i64 u.gain), (.string (bstr u.caption)), (.int .i64 u.os), (.int .i64 u.of), (.slice u.A u.al.length u.c)])), (8, (.pointer (some ⟨b_7, 0, none⟩))), (15, (.agg #[(.int .i64 ((rateP c).1)), (.int .i64 ((rateP c).2))])), (14, (.int .i64 c)), (7, (.bool true)), (13, (.bool true)), (5, (.pointer (some ⟨b_3, 0, none⟩))), (4, (.pointer (some ⟨b_1, 0, none⟩))), (0, (.int .i64 c)), (1, (.agg #[(.int .i64 u.channel), (.int .i64 u.frame), (.int .i64 u.version), (.int .i64 u.item), (.int .i64 u.index), (.bool u.key), (.string (bstr u.data)), (.int .i64 u.regions), (.int .i64 u.gain), (.string (bstr u.caption)), (.int .i64 u.os), (.int .i64 u.of), (.slice u.A u.al.length u.c)])), (2, (.agg #[(.int .i64 v.channel), (.int .i64 v.frame), (.int .i64 v.version), (.int .i64 v.item), (.int .i64 v.index), (.bool v.key), (.string (bstr v.data)), (.int .i64 v.regions), (.int .i64 v.gain), (.string (bstr v.caption)), (.int .i64 v.os), (.int .i64 v.of), (.slice v.A v.al.length v.c)]))]) (by kernel_rfl)
      refine then_normal ?_
      refine wp_ret ?_
      refine H.ret1 (fn := Tryd.f6) Tryd.results6 (RV.tmp_ (v := (.bool (((Zu.getD []) == (Zv.getD [])) == (sameU (shortU u) (shortU v))))) (by kernel_rfl)) ?_
      have hR : (((Zu.getD []) == (Zv.getD [])) == (sameU (shortU u) (shortU v))) = true := inj_law hZu hZv g34p g37p
      exact ⟨congrArg (fun b => Ending.returned (Value.bool b)) hR, (HP.below (by kernel_rfl))⟩
end Go.Proofs.YtgdjpaeclicdfaaDoor
