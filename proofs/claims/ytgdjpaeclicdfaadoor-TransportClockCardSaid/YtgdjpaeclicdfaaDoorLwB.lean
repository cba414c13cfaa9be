/- TransportClock: the walk. -/
import Derived.Test.YtgdjpaeclicdfaaDoorLwA
namespace Go.Proofs.YtgdjpaeclicdfaaDoor
open Go.ChangeShapes Go.WideShapes Go.ChangeAt Go.RowKit
set_option linter.unusedVariables false
set_option linter.unusedSimpArgs false

/-- The number that the first j bytes of the first payload say. -/
def tkV (l : List UInt8) : Nat → Nat
  | 0 => 0
  | j + 1 => tkV l j * 256 + (l.getD (j + 5) 0).toNat
theorem tkV_succ (l : List UInt8) (j : Nat) : tkV l (j + 1) = tkV l j * 256 + (l.getD (j + 5) 0).toNat := rfl
theorem tkV_lt (l : List UInt8) {j : Nat} (hj : j ≤ 5) : tkV l j < 1099511627776 := by
  have h : ∀ j, tkV l j < 256 ^ j := by
    intro j
    induction j with
    | zero => simp [tkV]
    | succ j ih =>
      have := byte_lt (l.getD (j + 5) 0)
      rw [tkV_succ, Nat.pow_succ]
      omega
  have h1 : 256 ^ j ≤ 256 ^ 5 := Nat.pow_le_pow_right (by omega) hj
  have := h j
  omega
theorem clock_law {rn rd : Int} {u : Un} {l : List UInt8} (h : packP rn rd u = some l) : ((tkV l 5 : Nat) : Int) = ticksP rn rd u.frame := by
  obtain ⟨hr, hv, rfl⟩ := packP_some h
  have hp := streamU_pos rn rd u
  obtain ⟨tk, htk, hb⟩ := ticks_nat rn rd u.frame
  have hn := pktN_pos (rn := rn) (rd := rd) (u := u)
  have hg : ∀ k, k < 5 → (pkL (streamU rn rd u) u.channel.toNat u.frame.toNat).flatten.getD (k + 5) 0 = (clockP tk).getD k 0 := by
    intro k hk
    have := pk_pay (S := streamU rn rd u) (ch := u.channel.toNat) (fr := u.frame.toNat) (j := 0) (k := k) (by omega) (by omega)
    rw [show 64 * 0 + (5 + k) = k + 5 by omega, show 59 * 0 + k = k by omega] at this
    rw [this, streamU_eq, htk, Int.toNat_natCast]
    simp only [List.getD]
    rw [List.getElem?_append_left (by simpa [clockP] using hk)]
  have g0 := hg 0 (by omega)
  have g1 := hg 1 (by omega)
  have g2 := hg 2 (by omega)
  have g3 := hg 3 (by omega)
  have g4 := hg 4 (by omega)
  rw [htk]
  simp only [tkV, g0, g1, g2, g3, g4]
  simp only [clockP, List.getD_cons_zero, List.getD_cons_succ]
  rw [toNat_of (by omega), toNat_of (by omega), toNat_of (by omega), toNat_of (by omega), toNat_of (by omega)]
  omega
set_option maxRecDepth 100000 in
set_option maxHeartbeats 4000000 in
theorem clocklaw_any (c : Int) (u : Un) (w : World) (hL : Laid w) (hc : -9223372036854775808 ≤ c ∧ c ≤ 9223372036854775807) (huu : IsAlts w u.A u.al.length u.al) (hcu : u.al.length ≤ u.c) (hAu : u.A = none → u.c = 0) :
    Calls Tryd.prog 8 #[.int .i64 c, u.val] w fun e w' => e = .returned (.bool true) ∧ Below w.heap.size w w' := by
  have HP := Hp.start w
  obtain ⟨Zu, hZu0⟩ : ∃ Z, packP (rateP c).1 (rateP c).2 (shortU u) = Z := ⟨_, rfl⟩
  have hZu : ∀ B c', packP (rateP c).1 (rateP c).2 ({ shortU u with A := B, c := c' } : Un) = Zu := fun _ _ => hZu0
  refine w_enter 47 [(0, (.int .i64 c)), (1, (.agg #[(.int .i64 u.channel), (.int .i64 u.frame), (.int .i64 u.version), (.int .i64 u.item), (.int .i64 u.index), (.bool u.key), (.string (bstr u.data)), (.int .i64 u.regions), (.int .i64 u.gain), (.string (bstr u.caption)), (.int .i64 u.os), (.int .i64 u.of), (.slice u.A u.al.length u.c)]))] Tryd.func8 rfl Tryd.ntmps8 (by kernel_rfl) (by kernel_rfl) ?_
  intro a H
  refine wp_seq ?_
  refine w_region ?_
  refine H.alloc HP 3 (fun b => (.pointer (some ⟨b, 0, none⟩))) 28 [(.int .i64 u.channel), (.int .i64 u.frame), (.int .i64 u.version), (.int .i64 u.item), (.int .i64 u.index), (.bool u.key), (.string (bstr u.data)), (.int .i64 u.regions), (.int .i64 u.gain), (.string (bstr u.caption)), (.int .i64 u.os), (.int .i64 u.of), (.slice u.A u.al.length u.c)] (by kernel_rfl) (fun w => by kernel_rfl) ?_
  intro b_1 w_2 a H HP
  refine H.val 4 (.bool false) (by kernel_rfl) (by kernel_rfl) ?_
  intro a H
  refine wpList_nil ?_
  refine then_normal ?_
  refine wp_seq ?_
  refine w_region ?_
  refine H.call 10 (by kernel_rfl) (Eq.trans (by kernel_rfl : _ = (callFunc 13 #[]).run Tryd.prog w_2) (Tryd.call13 _ _)) (sane_any w_2 (hL.below (HP.below (by kernel_rfl)))) ?_
  rintro e w_3 ⟨rfl, hb⟩
  refine ⟨_, rfl, ?_⟩
  intro a H
  have HP := HP.next hb
  refine H.val 5 (.bool true) (by kernel_rfl) (by kernel_rfl) ?_
  intro a H
  refine wpList_nil ?_
  refine then_normal ?_
  refine wp_seq ?_
  refine w_region ?_
  refine H.val 11 (.agg #[(.int .i64 u.channel), (.int .i64 u.frame), (.int .i64 u.version), (.int .i64 u.item), (.int .i64 u.index), (.bool u.key), (.string (bstr u.data)), (.int .i64 u.regions), (.int .i64 u.gain), (.string (bstr u.caption)), (.int .i64 u.os), (.int .i64 u.of), (.slice u.A u.al.length u.c)]) (by kernel_rfl) (ex_loadN (vs := [(.int .i64 u.channel), (.int .i64 u.frame), (.int .i64 u.version), (.int .i64 u.item), (.int .i64 u.index), (.bool u.key), (.string (bstr u.data)), (.int .i64 u.regions), (.int .i64 u.gain), (.string (bstr u.caption)), (.int .i64 u.os), (.int .i64 u.of), (.slice u.A u.al.length u.c)]) (by kernel_rfl) (by kernel_rfl) (by kernel_rfl) rfl (HP.cells 0 rfl 0 13 (by kernel_rfl))) ?_
  intro a H
  refine H.call 12 (by kernel_rfl) (Eq.trans (by kernel_rfl : _ = (callFunc 15 #[(.agg #[(.int .i64 u.channel), (.int .i64 u.frame), (.int .i64 u.version), (.int .i64 u.item), (.int .i64 u.index), (.bool u.key), (.string (bstr u.data)), (.int .i64 u.regions), (.int .i64 u.gain), (.string (bstr u.caption)), (.int .i64 u.os), (.int .i64 u.of), (.slice u.A u.al.length u.c)])]).run Tryd.prog w_3) (Tryd.call15 _ _)) (short_any u w_3 (huu.below (HP.below (by kernel_rfl))) hcu hAu) ?_
  rintro e w_4 ⟨Bu, cu, rfl, halu, hcau, hcbu, hccu, hfru, hb⟩
  refine ⟨_, rfl, ?_⟩
  intro a H
  have HP := (HP.next hb).keepF ⟨rowFp (shortU u).al.length Bu, fun w => IsAlts w Bu (shortU u).al.length (shortU u).al⟩ halu (fun _ _ h hk hs => ⟨h.1, h.2.keep hk hs⟩) (fun j hj => row_sep HP halu.2 hfru hj)
  refine H.store HP 0 b_1 0 13 28 [(.int .i64 u.channel), (.int .i64 u.frame), (.int .i64 u.version), (.int .i64 u.item), (.int .i64 u.index), (.bool u.key), (.string (bstr u.data)), (.int .i64 u.regions), (.int .i64 u.gain), (.string (bstr u.caption)), (.int .i64 u.os), (.int .i64 u.of), (.slice u.A u.al.length u.c)] true (.agg #[(.int .i64 ((shortU u).channel)), (.int .i64 ((shortU u).frame)), (.int .i64 ((shortU u).version)), (.int .i64 ((shortU u).item)), (.int .i64 ((shortU u).index)), (.bool ((shortU u).key)), (.string (bstr ((shortU u).data))), (.int .i64 ((shortU u).regions)), (.int .i64 ((shortU u).gain)), (.string (bstr ((shortU u).caption))), (.int .i64 ((shortU u).os)), (.int .i64 ((shortU u).of)), (.slice Bu ((shortU u).al.length) cu)]) [bx b_1 28 [(.int .i64 ((shortU u).channel)), (.int .i64 ((shortU u).frame)), (.int .i64 ((shortU u).version)), (.int .i64 ((shortU u).item)), (.int .i64 ((shortU u).index)), (.bool ((shortU u).key)), (.string (bstr ((shortU u).data))), (.int .i64 ((shortU u).regions)), (.int .i64 ((shortU u).gain)), (.string (bstr ((shortU u).caption))), (.int .i64 ((shortU u).os)), (.int .i64 ((shortU u).of)), (.slice Bu ((shortU u).al.length) cu)] true] (by kernel_rfl) (by kernel_rfl) (by kernel_rfl) rfl (by kernel_rfl) (by kernel_rfl) (by kernel_rfl) (by kernel_rfl) (by kernel_rfl) ?_
  intro w_5 a H HP
  refine wpList_nil ?_
  refine then_normal ?_
  refine wp_seq ?_
  refine An.start (fun v => Hp w v [bx b_1 28 [(.int .i64 ((shortU u).channel)), (.int .i64 ((shortU u).frame)), (.int .i64 ((shortU u).version)), (.int .i64 ((shortU u).item)), (.int .i64 ((shortU u).index)), (.bool ((shortU u).key)), (.string (bstr ((shortU u).data))), (.int .i64 ((shortU u).regions)), (.int .i64 ((shortU u).gain)), (.string (bstr ((shortU u).caption))), (.int .i64 ((shortU u).os)), (.int .i64 ((shortU u).of)), (.slice Bu ((shortU u).al.length) cu)] true] [⟨rowFp (shortU u).al.length Bu, fun w => IsAlts w Bu (shortU u).al.length (shortU u).al⟩]) 9 9 HP wide_follows rfl ?_
  intro w_6 HP
  refine An.pure H (.inr (HP)) 0 14 (.int .i64 c) rfl (by kernel_rfl) (by kernel_rfl) (fun _ _ _ h => h) (fun _ => by kernel_rfl) ?_
  intro a H
  refine An.val H (HP) 2 16 (.agg #[(.int .i64 ((shortU u).channel)), (.int .i64 ((shortU u).frame)), (.int .i64 ((shortU u).version)), (.int .i64 ((shortU u).item)), (.int .i64 ((shortU u).index)), (.bool ((shortU u).key)), (.string (bstr ((shortU u).data))), (.int .i64 ((shortU u).regions)), (.int .i64 ((shortU u).gain)), (.string (bstr ((shortU u).caption))), (.int .i64 ((shortU u).os)), (.int .i64 ((shortU u).of)), (.slice Bu ((shortU u).al.length) cu)]) rfl (by kernel_rfl) (by kernel_rfl) (fun _ _ _ h => h) (fun _ hS => ex_loadN (vs := [(.int .i64 ((shortU u).channel)), (.int .i64 ((shortU u).frame)), (.int .i64 ((shortU u).version)), (.int .i64 ((shortU u).item)), (.int .i64 ((shortU u).index)), (.bool ((shortU u).key)), (.string (bstr ((shortU u).data))), (.int .i64 ((shortU u).regions)), (.int .i64 ((shortU u).gain)), (.string (bstr ((shortU u).caption))), (.int .i64 ((shortU u).os)), (.int .i64 ((shortU u).of)), (.slice Bu ((shortU u).al.length) cu)]) (by kernel_rfl) (by kernel_rfl) (by kernel_rfl) rfl (hS.cells 0 rfl 0 13 (by kernel_rfl))) ?_
  intro a H
  refine An.one 1 (by kernel_rfl) ?_
  refine Op.call H 15 rfl (by kernel_rfl) (Eq.trans (by kernel_rfl : _ = (callFunc 14 #[(.int .i64 c)]).run Tryd.prog w_6) (Tryd.call14 _ _)) (rate_any c w_6 hc) ?_
  rintro e w_7 ⟨rfl, hb⟩
  refine ⟨_, rfl, ?_⟩
  intro a H
  have HP := HP.next hb
  refine ⟨.inr (HP), ?_⟩
  refine An.one 3 (by kernel_rfl) ?_
  refine Op.call H 17 rfl (by kernel_rfl) (Eq.trans (by kernel_rfl : _ = (callFunc 16 #[(.agg #[(.int .i64 ((rateP c).1)), (.int .i64 ((rateP c).2))]), (.agg #[(.int .i64 ((shortU u).channel)), (.int .i64 ((shortU u).frame)), (.int .i64 ((shortU u).version)), (.int .i64 ((shortU u).item)), (.int .i64 ((shortU u).index)), (.bool ((shortU u).key)), (.string (bstr ((shortU u).data))), (.int .i64 ((shortU u).regions)), (.int .i64 ((shortU u).gain)), (.string (bstr ((shortU u).caption))), (.int .i64 ((shortU u).os)), (.int .i64 ((shortU u).of)), (.slice Bu ((shortU u).al.length) cu)])]).run Tryd.prog w_7) (Tryd.call16 _ _)) ((by have hh := pack_any ((rateP c).1) ((rateP c).2) ({ shortU u with A := Bu, c := cu } : Un) w_7 (hL.below (HP.below (by kernel_rfl))) (HP.fact 0 rfl) (Nat.le_trans hcau hcbu); rw [hZu Bu cu, packV_eq] at hh; exact hh)) ?_
  rintro e w_8 ⟨rfl, hb⟩
  refine ⟨_, rfl, ?_⟩
  intro a H
  have HP := HP.next hb
  refine ⟨.inr (HP), ?_⟩
  refine An.pure H (.inr (HP)) 4 13 (.tuple #[(.string (bstr (Zu.getD []))), (.int .i64 (if Zu.isSome = true then 0 else 180 : Int))]) rfl (by kernel_rfl) (by kernel_rfl) (fun _ _ _ h => h) (fun _ => by kernel_rfl) ?_
  intro a H
  refine An.pure H (.inr (HP)) 5 18 (.string (bstr (Zu.getD []))) rfl (by kernel_rfl) (by kernel_rfl) (fun _ _ _ h => h) (fun _ => by kernel_rfl) ?_
  intro a H
  refine An.pure H (.inr (HP)) 6 19 (.int .i64 (if Zu.isSome = true then 0 else 180 : Int)) rfl (by kernel_rfl) (by kernel_rfl) (fun _ _ _ h => h) (fun _ => by kernel_rfl) ?_
  intro a H
  refine An.pure H (.inr (HP)) 7 6 (.string (bstr (Zu.getD []))) rfl (by kernel_rfl) (by kernel_rfl) (fun _ _ _ h => h) (fun _ => by kernel_rfl) ?_
  intro a H
  refine An.pure H (.inr (HP)) 8 7 (.int .i64 (if Zu.isSome = true then 0 else 180 : Int)) rfl (by kernel_rfl) (by kernel_rfl) (fun _ _ _ h => h) (fun _ => by kernel_rfl) ?_
  intro a H
  refine An.done (by kernel_rfl) ?_
  have H := H.keep (L' := [(7, (.int .i64 (if Zu.isSome = true then 0 else 180 : Int))), (6, (.string (bstr (Zu.getD [])))), (12, (.agg #[(.int .i64 ((shortU u).channel)), (.int .i64 ((shortU u).frame)), (.int .i64 ((shortU u).version)), (.int .i64 ((shortU u).item)), (.int .i64 ((shortU u).index)), (.bool ((shortU u).key)), (.string (bstr ((shortU u).data))), (.int .i64 ((shortU u).regions)), (.int .i64 ((shortU u).gain)), (.string (bstr ((shortU u).caption))), (.int .i64 ((shortU u).os)), (.int .i64 ((shortU u).of)), (.slice Bu ((shortU u).al.length) cu)])), (11, (.agg #[(.int .i64 u.channel), (.int .i64 u.frame), (.int .i64 u.version), (.int .i64 u.item), (.int .i64 u.index), (.bool u.key), (.string (bstr u.data)), (.int .i64 u.regions), (.int .i64 u.gain), (.string (bstr u.caption)), (.int .i64 u.os), (.int .i64 u.of), (.slice u.A u.al.length u.c)])), (5, (.bool true)), (10, (.bool true)), (4, (.bool false)), (3, (.pointer (some ⟨b_1, 0, none⟩))), (0, (.int .i64 c)), (1, (.agg #[(.int .i64 u.channel), (.int .i64 u.frame), (.int .i64 u.version), (.int .i64 u.item), (.int .i64 u.index), (.bool u.key), (.string (bstr u.data)), (.int .i64 u.regions), (.int .i64 u.gain), (.string (bstr u.caption)), (.int .i64 u.os), (.int .i64 u.of), (.slice u.A u.al.length u.c)]))]) (by kernel_rfl)
  refine then_normal ?_
  refine wp_seq ?_
  refine wp_seq ?_
  refine w_region ?_
  refine H.val 20 (.int .i64 (if Zu.isSome = true then 0 else 180 : Int)) (by kernel_rfl) (by kernel_rfl) ?_
  intro a H
  refine H.val 21 (.bool ((if Zu.isSome = true then 0 else 180 : Int) != 0)) (by kernel_rfl) (by kernel_rfl) ?_
  intro a H
  refine wpList_nil ?_
  refine then_normal ?_
  refine w_if H rfl (fun g21 => ?_) (fun g21 => ?_)
  · have g21p := bne_iff_ne.1 g21
    refine wp_seq ?_
    refine w_region ?_
    refine H.val 22 (.bool true) (by kernel_rfl) (by kernel_rfl) ?_
    intro a H
    refine H.val 4 (.bool true) (by kernel_rfl) (by kernel_rfl) ?_
    intro a H
    refine wpList_nil ?_
    refine then_normal ?_
    refine wp_ret ?_
    refine then_ret ?_
    refine H.ret1 (fn := Tryd.f8) Tryd.results8 (RV.tmp_ (v := (.bool true)) (by kernel_rfl)) ?_
    exact ⟨rfl, (HP.below (by kernel_rfl))⟩
  · have g21p := eq_of_bne_false g21
    refine wp_skip ?_
    refine then_normal ?_
    refine wp_seq ?_
    refine wp_seq ?_
    obtain ⟨l, hl⟩ := code_some g21p
    have H := H.as 6 (.string (bstr l)) rfl (by rw [hl]; rfl)
    have hpk := (hZu none 0).trans hl
    obtain ⟨hln, hn1, hn13⟩ := pack_len hpk
    obtain ⟨_, hvu, _⟩ := packP_some hpk
    obtain ⟨hfu, _⟩ := validU_facts hvu
    have hfr0 : 0 ≤ (shortU u).frame ∧ (shortU u).frame ≤ 100000000 := ⟨hfu.2.2.1, hfu.2.2.2.1⟩
    clear hfu
    refine w_region ?_
    refine H.val 23 (.string (bstr l)) (by kernel_rfl) (by kernel_rfl) ?_
    intro a H
    refine H.val 24 (.int .i64 ((l.length : Nat) : Int)) (by kernel_rfl) (by kernel_rfl) ?_
    intro a H
    refine H.valE 25 (.bool (decide (((l.length : Nat) : Int) < 10))) (.bool false) (by kernel_rfl) (by kernel_rfl) ((congrArg Value.bool (decide_eq_false (by omega)))) ?_
    intro a H
    refine wpList_nil ?_
    refine then_normal ?_
    refine w_iff H rfl ?_
    refine wp_skip ?_
    refine then_normal ?_
    refine wp_seq ?_
    refine w_region ?_
    refine H.val 8 (.int .i64 0) (by kernel_rfl) (by kernel_rfl) ?_
    intro a H
    refine wpList_nil ?_
    refine then_normal ?_
    refine wp_seq ?_
    refine wp_seq ?_
    refine w_region ?_
    refine H.val 9 (.int .i64 5) (by kernel_rfl) (by kernel_rfl) ?_
    intro a H
    refine wpList_nil ?_
    refine then_normal ?_
    refine wp_block ?_
    refine w_loop (fun mm a wv => ∃ (j : Nat), 5 - j = mm ∧ Sl 47 [(9, (.int .i64 ((j + 5 : Nat) : Int))), (8, (.int .i64 ((tkV l j : Nat) : Int))), (0, (.int .i64 c)), (3, (.pointer (some ⟨b_1, 0, none⟩))), (4, (.bool false)), (5, (.bool true)), (6, (.string (bstr l)))] a ∧ Hp w wv [bx b_1 28 [(.int .i64 ((shortU u).channel)), (.int .i64 ((shortU u).frame)), (.int .i64 ((shortU u).version)), (.int .i64 ((shortU u).item)), (.int .i64 ((shortU u).index)), (.bool ((shortU u).key)), (.string (bstr ((shortU u).data))), (.int .i64 ((shortU u).regions)), (.int .i64 ((shortU u).gain)), (.string (bstr ((shortU u).caption))), (.int .i64 ((shortU u).os)), (.int .i64 ((shortU u).of)), (.slice Bu ((shortU u).al.length) cu)] true] [⟨rowFp (shortU u).al.length Bu, fun w => IsAlts w Bu (shortU u).al.length (shortU u).al⟩] ∧ (j ≤ 5)) (5 - 0) ?_ ?_
    · exact ⟨0, (by omega), H.keep (by kernel_rfl), HP, by omega⟩
    rintro mm a w_9 ⟨j, hmeas, H, HP, hj⟩
    have htb := tkV_lt l (j := j) hj
    have hbb := byte_lt (l.getD (j + 5) 0)
    refine wp_seq ?_
    refine wp_seq ?_
    refine w_region ?_
    refine H.val 26 (.int .i64 ((j + 5 : Nat) : Int)) (by kernel_rfl) (by kernel_rfl) ?_
    intro a H
    refine H.val 27 (.bool (decide (((j + 5 : Nat) : Int) < 10))) (by kernel_rfl) (by kernel_rfl) ?_
    intro a H
    refine wpList_nil ?_
    refine then_normal ?_
    refine w_if H rfl (fun g27 => ?_) (fun g27 => ?_)
    · have g27p := of_decide_eq_true g27
      refine wp_skip ?_
      refine then_normal ?_
      refine wp_seq ?_
      refine wp_block ?_
      refine w_region ?_
      refine H.val 30 (.int .i64 ((tkV l j : Nat) : Int)) (by kernel_rfl) (by kernel_rfl) ?_
      intro a H
      refine H.valE 31 (.int .i64 (IntKind.i64.wrap (((tkV l j : Nat) : Int) * 256))) (.int .i64 (((tkV l j : Nat) : Int) * 256)) (by kernel_rfl) (by kernel_rfl) ((by rw [wrap_ini64 _ (by omega)])) ?_
      intro a H
      refine H.val 32 (.string (bstr l)) (by kernel_rfl) (by kernel_rfl) ?_
      intro a H
      refine H.val 33 (.int .i64 ((j + 5 : Nat) : Int)) (by kernel_rfl) (by kernel_rfl) ?_
      intro a H
      refine H.val 34 (.int .u8 (((l.getD (j + 5) 0).toNat : Nat) : Int)) (by kernel_rfl) (ex_sindex (k := .i64) (l := l) (i := ((j + 5 : Nat) : Int)) (m := (j + 5)) (by kernel_rfl) (by kernel_rfl) (by kernel_rfl) (by omega) (by omega)) ?_
      intro a H
      refine H.valE 35 (.int .i64 (IntKind.i64.wrap (((l.getD (j + 5) 0).toNat : Nat) : Int))) (.int .i64 (((l.getD (j + 5) 0).toNat : Nat) : Int)) (by kernel_rfl) (by kernel_rfl) ((by rw [wrap_ini64 _ (by omega)])) ?_
      intro a H
      refine H.valE 36 (.int .i64 (IntKind.i64.wrap ((((tkV l j : Nat) : Int) * 256) + (((l.getD (j + 5) 0).toNat : Nat) : Int)))) (.int .i64 ((((tkV l j : Nat) : Int) * 256) + (((l.getD (j + 5) 0).toNat : Nat) : Int))) (by kernel_rfl) (by kernel_rfl) ((by rw [wrap_ini64 _ (by omega)])) ?_
      intro a H
      refine H.val 8 (.int .i64 ((((tkV l j : Nat) : Int) * 256) + (((l.getD (j + 5) 0).toNat : Nat) : Int))) (by kernel_rfl) (by kernel_rfl) ?_
      intro a H
      refine wpList_nil ?_
      have H := H.keep (L' := [(8, (.int .i64 ((((tkV l j : Nat) : Int) * 256) + (((l.getD (j + 5) 0).toNat : Nat) : Int)))), (27, (.bool (decide (((j + 5 : Nat) : Int) < 10)))), (26, (.int .i64 ((j + 5 : Nat) : Int))), (9, (.int .i64 ((j + 5 : Nat) : Int))), (0, (.int .i64 c)), (3, (.pointer (some ⟨b_1, 0, none⟩))), (4, (.bool false)), (5, (.bool true)), (6, (.string (bstr l)))]) (by kernel_rfl)
      refine inb_normal ?_
      refine then_normal ?_
      refine w_region ?_
      refine H.val 28 (.int .i64 ((j + 5 : Nat) : Int)) (by kernel_rfl) (by kernel_rfl) ?_
      intro a H
      refine H.valE 29 (.int .i64 (IntKind.i64.wrap (((j + 5 : Nat) : Int) + 1))) (.int .i64 (((j + 5 : Nat) : Int) + 1)) (by kernel_rfl) (by kernel_rfl) ((by rw [wrap_ini64 _ (by omega)])) ?_
      intro a H
      refine H.val 9 (.int .i64 (((j + 5 : Nat) : Int) + 1)) (by kernel_rfl) (by kernel_rfl) ?_
      intro a H
      refine wpList_nil ?_
      refine then_normal ?_
      have H := H.as 9 (.int .i64 ((j + 1 + 5 : Nat) : Int)) rfl (congrArg (Value.int .i64) (by omega))
      have H := H.as 8 (.int .i64 ((tkV l (j + 1) : Nat) : Int)) rfl (congrArg (Value.int .i64) (by rw [tkV_succ]; omega))
      refine ⟨_, ?_, j + 1, rfl, H.keep (by kernel_rfl), HP, by omega⟩
      omega
    · have g27p := of_decide_eq_false g27
      refine wp_exit ?_
      refine then_exit ?_
      refine then_exit ?_
      refine w_exit_here ?_
      refine then_normal ?_
      refine wp_seq ?_
      refine An.start (fun v => Hp w v [bx b_1 28 [(.int .i64 ((shortU u).channel)), (.int .i64 ((shortU u).frame)), (.int .i64 ((shortU u).version)), (.int .i64 ((shortU u).item)), (.int .i64 ((shortU u).index)), (.bool ((shortU u).key)), (.string (bstr ((shortU u).data))), (.int .i64 ((shortU u).regions)), (.int .i64 ((shortU u).gain)), (.string (bstr ((shortU u).caption))), (.int .i64 ((shortU u).os)), (.int .i64 ((shortU u).of)), (.slice Bu ((shortU u).al.length) cu)] true] [⟨rowFp (shortU u).al.length Bu, fun w => IsAlts w Bu (shortU u).al.length (shortU u).al⟩]) 11 11 HP wide_follows rfl ?_
      intro w_10 HP
      refine An.pure H (.inr (HP)) 0 37 (.bool true) rfl (by kernel_rfl) (by kernel_rfl) (fun _ _ _ h => h) (fun _ => by kernel_rfl) ?_
      intro a H
      refine An.pure H (.inr (HP)) 1 38 (.bool true) rfl (by kernel_rfl) (by kernel_rfl) (fun _ _ _ h => h) (fun _ => by kernel_rfl) ?_
      intro a H
      refine An.pure H (.inr (HP)) 2 39 (.int .i64 ((tkV l j : Nat) : Int)) rfl (by kernel_rfl) (by kernel_rfl) (fun _ _ _ h => h) (fun _ => by kernel_rfl) ?_
      intro a H
      refine An.pure H (.inr (HP)) 3 40 (.int .i64 c) rfl (by kernel_rfl) (by kernel_rfl) (fun _ _ _ h => h) (fun _ => by kernel_rfl) ?_
      intro a H
      refine An.pure H (.inr (HP)) 5 42 (.pointer (some ⟨b_1, 1, none⟩)) rfl (by kernel_rfl) (by kernel_rfl) (fun _ _ _ h => h) (fun _ => by kernel_rfl) ?_
      intro a H
      refine An.val H (HP) 6 43 (.int .i64 ((shortU u).frame)) rfl (by kernel_rfl) (by kernel_rfl) (fun _ _ _ h => h) (fun _ hS => ex_load1 (by kernel_rfl) (by kernel_rfl) (hS.cell 0 rfl 1 rfl)) ?_
      intro a H
      refine An.one 4 (by kernel_rfl) ?_
      refine Op.call H 41 rfl (by kernel_rfl) (Eq.trans (by kernel_rfl : _ = (callFunc 14 #[(.int .i64 c)]).run Tryd.prog w_10) (Tryd.call14 _ _)) (rate_any c w_10 hc) ?_
      rintro e w_11 ⟨rfl, hb⟩
      refine ⟨_, rfl, ?_⟩
      intro a H
      have HP := HP.next hb
      refine ⟨.inr (HP), ?_⟩
      refine An.one 7 (by kernel_rfl) ?_
      refine Op.call H 44 rfl (by kernel_rfl) (Eq.trans (by kernel_rfl : _ = (callFunc 26 #[(.agg #[(.int .i64 ((rateP c).1)), (.int .i64 ((rateP c).2))]), (.int .i64 ((shortU u).frame))]).run Tryd.prog w_11) (Tryd.call26 _ _)) (ticks_any (rateP c).1 (rateP c).2 (shortU u).frame w_11 (hL.below (HP.below (by kernel_rfl))) (rateP_ok c) hfr0) ?_
      rintro e w_12 ⟨rfl, hb⟩
      refine ⟨_, rfl, ?_⟩
      intro a H
      have HP := HP.next hb
      refine ⟨.inr (HP), ?_⟩
      refine An.pure H (.inr (HP)) 8 45 (.bool (((tkV l j : Nat) : Int) == (ticksP (rateP c).1 (rateP c).2 (shortU u).frame))) rfl (by kernel_rfl) (by kernel_rfl) (fun _ _ _ h => h) (fun _ => by kernel_rfl) ?_
      intro a H
      refine An.pure H (.inr (HP)) 9 46 (.bool (((tkV l j : Nat) : Int) == (ticksP (rateP c).1 (rateP c).2 (shortU u).frame))) rfl (by kernel_rfl) (by kernel_rfl) (fun _ _ _ h => h) (fun _ => by kernel_rfl) ?_
      intro a H
      refine An.pure H (.inr (HP)) 10 4 (.bool (((tkV l j : Nat) : Int) == (ticksP (rateP c).1 (rateP c).2 (shortU u).frame))) rfl (by kernel_rfl) (by kernel_rfl) (fun _ _ _ h => h) (fun _ => by kernel_rfl) ?_
      intro a H
      refine An.done (by kernel_rfl) ?_
      have H := H.keep (L' := [(4, (.bool (((tkV l j : Nat) : Int) == (ticksP (rateP c).1 (rateP c).2 (shortU u).frame)))), (27, (.bool (decide (((j + 5 : Nat) : Int) < 10)))), (26, (.int .i64 ((j + 5 : Nat) : Int))), (9, (.int .i64 ((j + 5 : Nat) : Int))), (8, (.int .i64 ((tkV l j : Nat) : Int))), (0, (.int .i64 c)), (3, (.pointer (some ⟨b_1, 0, none⟩))), (5, (.bool true)), (6, (.string (bstr l)))]) (by kernel_rfl)
      refine then_normal ?_
      refine wp_ret ?_
      refine H.ret1 (fn := Tryd.f8) Tryd.results8 (RV.tmp_ (v := (.bool (((tkV l j : Nat) : Int) == (ticksP (rateP c).1 (rateP c).2 (shortU u).frame)))) (by kernel_rfl)) ?_
      have hj5 : j = 5 := by omega
      have hR : (((tkV l j : Nat) : Int) == (ticksP (rateP c).1 (rateP c).2 (shortU u).frame)) = true := by rw [beq_iff_eq, hj5]; exact clock_law hpk
      exact ⟨congrArg (fun b => Ending.returned (Value.bool b)) hR, (HP.below (by kernel_rfl))⟩
end Go.Proofs.YtgdjpaeclicdfaaDoor
