/- Contracts of the reference: rates, integers, strings. -/
import Derived.Test.YtgdjpaeclicdfaaDoorTrK
import Derived.Test.YtgdjpaeclicdfaaDoorSymH
namespace Go.Proofs.YtgdjpaeclicdfaaDoor
open Go.ChangeShapes Go.WideShapes Go.ChangeAt Go.RowKit
set_option linter.unusedVariables false
set_option linter.unusedSimpArgs false

theorem rate_cells4 {w : World} {b t j : Nat} (h : Box w b t [(.int .i64 24000), (.int .i64 1001), (.int .i64 24), (.int .i64 0), (.int .i64 24), (.int .i64 1), (.int .i64 24), (.int .i64 0), (.int .i64 25), (.int .i64 1), (.int .i64 25), (.int .i64 0), (.int .i64 30000), (.int .i64 1001), (.int .i64 30), (.int .i64 2), (.int .i64 30), (.int .i64 1), (.int .i64 30), (.int .i64 0), (.int .i64 50), (.int .i64 1), (.int .i64 50), (.int .i64 0), (.int .i64 60000), (.int .i64 1001), (.int .i64 60), (.int .i64 4), (.int .i64 60), (.int .i64 1), (.int .i64 60), (.int .i64 0)].toArray) (hj : j = 0 ∨ j = 1 ∨ j = 2 ∨ j = 3 ∨ j = 4 ∨ j = 5 ∨ j = 6 ∨ j = 7) : cellsAt w b (0 + j * 4) [(.int .i64 ((rateTab.getD j (0, 0)).1)), (.int .i64 ((rateTab.getD j (0, 0)).2)), (.int .i64 ((rateBase.getD j (0, 0)).1)), (.int .i64 ((rateBase.getD j (0, 0)).2))] := by
 intro i v hv
 have hi : i = 0 ∨ i = 1 ∨ i = 2 ∨ i = 3 := by have := (List.getElem?_eq_some_iff.1 hv).1; simp at this; omega
 rcases hj with rfl | rfl | rfl | rfl | rfl | rfl | rfl | rfl <;> rcases hi with rfl | rfl | rfl | rfl <;> cases hv <;> exact h.cell rfl
theorem ex_b2sB {P : Program} {ρ : Operand → Value} {w : World} {x : Operand} {dst : Option Tmp} {ty e : TypeId} {pos : String} {af : Array Edge} {g : Option (Nat × Bool)} {src td : TypeId} {B : Option Addr} {c m : Nat} {l : List UInt8} (hx : ρ x = .slice B m c) (hr : Rd w 1 B m (Lib.byteCells l)) (hm : 1 ≤ m) (hs : P.underlying src = some (.slice e)) (he : P.underlying e = some (.int .u8)) (hd : P.underlying td = some .string) :
  (execOp ρ ⟨dst, .convert src td x, ty, pos, af, g⟩).run P w = .ok (.value (.string (bstr l))) w := by
 obtain ⟨b, off, rfl, _⟩ := hr.2.resolve_left (by omega)
 exact ex_b2sR hx hr hs he hd
theorem own_some {w : World} {base e n c : Nat} {B : Option Addr} {xs : List Value} (h : (ownR base e (.slice B n c) xs).F w) (hn : 1 ≤ xs.length) : ∃ b, B = some ⟨b, 0, none⟩ := by
 rcases h.2 with ⟨_, h3⟩ | ⟨g, cap, cur, hv, _⟩
 ·omega
 ·cases hv; exact ⟨g, rfl⟩
theorem vput_step {f z : Nat} (h : ¬ z < 128) : vput (f + 1) z = (z % 128 + 128) :: vput f (z / 128) := by
 rw [vput, if_neg h]
theorem byte_one {k : Nat} (h : k < 256) : Lib.byteCells [UInt8.ofNat k] = [Value.int .u8 ((k : Nat) : Int)] := by
 simp only [Lib.byteCells, List.map_cons, List.map_nil, ofNat_toNat h]
set_option maxRecDepth 100000 in
set_option maxHeartbeats 4000000 in
theorem rfind_any (n d : Int) (w : World) :
  Calls Tryd.prog 55 #[.agg #[.int .i64 n, .int .i64 d]] w fun e w' => ∃ i0 i1 i2 i3, e = .returned (.tuple #[.agg #[.int .i64 i0, .int .i64 i1, .int .i64 i2, .int .i64 i3], .bool (rateOk n d)]) ∧ Below w.heap.size w w' := by
 have HP := Hp.start w
 refine w_enter 38 [(0, (.agg #[(.int .i64 n), (.int .i64 d)]))] Tryd.func55 rfl Tryd.ntmps55 (by kernel_rfl) (by kernel_rfl) fun a H => ?_
 refine wp_seq (w_region ?_)
 refine H.alloc HP 1 (fun b => (.pointer (some ⟨b, 0, none⟩))) 23 [(.int .i64 n), (.int .i64 d)] (by kernel_rfl) (fun w => by kernel_rfl) fun b_1 w_2 a H HP => ?_
 refine H.alloc HP 2 (fun b => (.pointer (some ⟨b, 0, none⟩))) 53 [(.int .i64 0), (.int .i64 0), (.int .i64 0), (.int .i64 0)] (by kernel_rfl) (fun w => by kernel_rfl) fun b_3 w_4 a H HP => ?_
 refine H.v 3 (.bool false) fun a H => ?_
 refine wpList_nil (then_normal (wp_seq (w_region ?_)))
 refine H.call 6 (by kernel_rfl) (Eq.trans (by kernel_rfl : _ = (callFunc 28 #[]).run Tryd.prog w_4) (Tryd.call28 _ _)) (table_any w_4) ?_
 rintro e w_5 ⟨bt, rfl, hbt, hbx, hb⟩
 refine ⟨_, rfl, ?_⟩
 intro a H
 have HP := HP.gain hb (bx bt 53 [(.int .i64 24000), (.int .i64 1001), (.int .i64 24), (.int .i64 0), (.int .i64 24), (.int .i64 1), (.int .i64 24), (.int .i64 0), (.int .i64 25), (.int .i64 1), (.int .i64 25), (.int .i64 0), (.int .i64 30000), (.int .i64 1001), (.int .i64 30), (.int .i64 2), (.int .i64 30), (.int .i64 1), (.int .i64 30), (.int .i64 0), (.int .i64 50), (.int .i64 1), (.int .i64 50), (.int .i64 0), (.int .i64 60000), (.int .i64 1001), (.int .i64 60), (.int .i64 4), (.int .i64 60), (.int .i64 1), (.int .i64 60), (.int .i64 0)] true) hbx (bx_ok _ _ _ _) (fun k hk => by cases hk; exact hbx.lt) (fun k hk => by cases hk; exact hbt)
 refine H.v 4 (.slice (some ⟨bt, 0, none⟩) 8 8) fun a H => ?_
 refine wpList_nil (then_normal (wp_seq (wp_seq (w_region ?_))))
 refine H.v 5 (.int .i64 0) fun a H => ?_
 refine wpList_nil (then_normal (wp_block ?_))
 refine w_loop (fun mm a wv => ∃ (j : Nat), 8 - j = mm ∧ Sl 38 [(5, (.int .i64 ((j : Nat) : Int))), (4, (.slice (some ⟨bt, 0, none⟩) 8 8)), (1, (.pointer (some ⟨b_1, 0, none⟩))), (2, (.pointer (some ⟨b_3, 0, none⟩))), (3, (.bool false))] a ∧ Hp w wv [bx bt 53 [(.int .i64 24000), (.int .i64 1001), (.int .i64 24), (.int .i64 0), (.int .i64 24), (.int .i64 1), (.int .i64 24), (.int .i64 0), (.int .i64 25), (.int .i64 1), (.int .i64 25), (.int .i64 0), (.int .i64 30000), (.int .i64 1001), (.int .i64 30), (.int .i64 2), (.int .i64 30), (.int .i64 1), (.int .i64 30), (.int .i64 0), (.int .i64 50), (.int .i64 1), (.int .i64 50), (.int .i64 0), (.int .i64 60000), (.int .i64 1001), (.int .i64 60), (.int .i64 4), (.int .i64 60), (.int .i64 1), (.int .i64 60), (.int .i64 0)] true, bx b_3 53 [(.int .i64 0), (.int .i64 0), (.int .i64 0), (.int .i64 0)] true, bx b_1 23 [(.int .i64 n), (.int .i64 d)] true] [] ∧ (j ≤ 8) ∧ ((rateTab.take j).any (fun p => p.1 == n && p.2 == d) = false)) (8 - 0) ?_ ?_
 ·exact ⟨0, (by omega), H.keep (by kernel_rfl), HP, by omega, rfl⟩
 rintro mm a w_6 ⟨j, hmeas, H, HP, hj, hno⟩
 refine wp_seq (wp_seq (w_region ?_))
 refine H.v 7 (.int .i64 ((j : Nat) : Int)) fun a H => ?_
 refine H.v 8 (.slice (some ⟨bt, 0, none⟩) 8 8) fun a H => ?_
 refine H.v 9 (.int .i64 8) fun a H => ?_
 refine H.v 10 (.bool (decide (((j : Nat) : Int) < 8))) fun a H => ?_
 refine wpList_nil (then_normal ?_)
 refine w_if H rfl (fun g10 => ?_) (fun g10 => ?_)
 ·have g10p := of_decide_eq_true g10
  refine wp_skip (then_normal (wp_seq (wp_block (wp_seq ?_))))
  have hj8 : j = 0 ∨ j = 1 ∨ j = 2 ∨ j = 3 ∨ j = 4 ∨ j = 5 ∨ j = 6 ∨ j = 7 := by omega
  refine An.start (fun v => Hp w v [bx bt 53 [(.int .i64 24000), (.int .i64 1001), (.int .i64 24), (.int .i64 0), (.int .i64 24), (.int .i64 1), (.int .i64 24), (.int .i64 0), (.int .i64 25), (.int .i64 1), (.int .i64 25), (.int .i64 0), (.int .i64 30000), (.int .i64 1001), (.int .i64 30), (.int .i64 2), (.int .i64 30), (.int .i64 1), (.int .i64 30), (.int .i64 0), (.int .i64 50), (.int .i64 1), (.int .i64 50), (.int .i64 0), (.int .i64 60000), (.int .i64 1001), (.int .i64 60), (.int .i64 4), (.int .i64 60), (.int .i64 1), (.int .i64 60), (.int .i64 0)] true, bx b_3 53 [(.int .i64 0), (.int .i64 0), (.int .i64 0), (.int .i64 0)] true, bx b_1 23 [(.int .i64 n), (.int .i64 d)] true] []) 20 20 HP wide_follows rfl fun w_7 HP => ?_
  refine An.p H (.inr HP) 0 13 (.slice (some ⟨bt, 0, none⟩) 8 8) fun a H => ?_
  refine An.p H (.inr HP) 1 14 (.int .i64 ((j : Nat) : Int)) fun a H => ?_
  refine An.pure H (.inr (HP)) 2 15 (.pointer (some ⟨bt, 0 + j * 4, none⟩)) rfl (by kernel_rfl) (by kernel_rfl) (fun _ _ _ h => h) (fun _ => ex_index (b := bt) (off := 0) (len := 8) (cap := 8) (e := 53) (k := 4) (ik := .i64) (i := ((j : Nat) : Int)) (m := j) (by kernel_rfl) (by kernel_rfl) (by omega) (by omega) (by kernel_rfl) (by kernel_rfl)) fun a H => ?_
  refine An.p H (.inr HP) 3 16 (.pointer (some ⟨bt, 0 + j * 4, none⟩)) fun a H => ?_
  refine An.p H (.inr HP) 4 17 (.pointer (some ⟨bt, 0 + j * 4, none⟩)) fun a H => ?_
  refine An.val H (HP) 5 18 (.int .i64 ((rateTab.getD j (0, 0)).1)) rfl (by kernel_rfl) (by kernel_rfl) (fun _ _ _ h => h) (fun _ hS => ex_load1 (p := ⟨bt, 0 + j * 4 + 0, none⟩) (by kernel_rfl) (by kernel_rfl) (rate_cells4 (hS.at_ 0 rfl) hj8 0 _ rfl)) fun a H => ?_
  refine An.p H (.inr HP) 6 19 (.pointer (some ⟨b_1, 0, none⟩)) fun a H => ?_
  refine An.val H (HP) 7 20 (.int .i64 n) rfl (by kernel_rfl) (by kernel_rfl) (fun _ _ _ h => h) (fun _ hS => ex_load1 (by kernel_rfl) (by kernel_rfl) (hS.cell 2 rfl 0 rfl)) fun a H => ?_
  refine An.p H (.inr HP) 8 21 (.bool (((rateTab.getD j (0, 0)).1) == n)) fun a H => ?_
  refine An.p H (.inr HP) 9 22 (.bool (((rateTab.getD j (0, 0)).1) == n)) fun a H => ?_
  refine H.split 22 rfl (fun g22 H => ?_) (fun g22 H => ?_)
  ·have g22p := eq_of_beq g22
   refine An.p H (.inr HP) 10 23 (.slice (some ⟨bt, 0, none⟩) 8 8) fun a H => ?_
   refine An.p H (.inr HP) 11 24 (.int .i64 ((j : Nat) : Int)) fun a H => ?_
   refine An.pure H (.inr (HP)) 12 25 (.pointer (some ⟨bt, 0 + j * 4, none⟩)) rfl (by kernel_rfl) (by kernel_rfl) (fun _ _ _ h => h) (fun _ => ex_index (b := bt) (off := 0) (len := 8) (cap := 8) (e := 53) (k := 4) (ik := .i64) (i := ((j : Nat) : Int)) (m := j) (by kernel_rfl) (by kernel_rfl) (by omega) (by omega) (by kernel_rfl) (by kernel_rfl)) fun a H => ?_
   refine An.p H (.inr HP) 13 26 (.pointer (some ⟨bt, 0 + j * 4, none⟩)) fun a H => ?_
   refine An.p H (.inr HP) 14 27 (.pointer (some ⟨bt, 0 + j * 4 + 1, none⟩)) fun a H => ?_
   refine An.val H (HP) 15 28 (.int .i64 ((rateTab.getD j (0, 0)).2)) rfl (by kernel_rfl) (by kernel_rfl) (fun _ _ _ h => h) (fun _ hS => ex_load1 (p := ⟨bt, 0 + j * 4 + 1, none⟩) (by kernel_rfl) (by kernel_rfl) (rate_cells4 (hS.at_ 0 rfl) hj8 1 _ rfl)) fun a H => ?_
   refine An.p H (.inr HP) 16 29 (.pointer (some ⟨b_1, 1, none⟩)) fun a H => ?_
   refine An.val H (HP) 17 30 (.int .i64 d) rfl (by kernel_rfl) (by kernel_rfl) (fun _ _ _ h => h) (fun _ hS => ex_load1 (by kernel_rfl) (by kernel_rfl) (hS.cell 2 rfl 1 rfl)) fun a H => ?_
   refine An.p H (.inr HP) 18 31 (.bool (((rateTab.getD j (0, 0)).2) == d)) fun a H => ?_
   refine An.p H (.inr HP) 19 32 (.bool (((rateTab.getD j (0, 0)).2) == d)) fun a H => ?_
   refine An.done (by kernel_rfl) ?_
   have H := H.keep (L' := [(32, (.bool (((rateTab.getD j (0, 0)).2) == d))), (10, (.bool (decide (((j : Nat) : Int) < 8)))), (9, (.int .i64 8)), (8, (.slice (some ⟨bt, 0, none⟩) 8 8)), (7, (.int .i64 ((j : Nat) : Int))), (5, (.int .i64 ((j : Nat) : Int))), (4, (.slice (some ⟨bt, 0, none⟩) 8 8)), (1, (.pointer (some ⟨b_1, 0, none⟩))), (2, (.pointer (some ⟨b_3, 0, none⟩))), (3, (.bool false))]) (by kernel_rfl)
   refine then_normal ?_
   refine w_if H rfl (fun g32 => ?_) (fun g32 => ?_)
   ·have g32p := eq_of_beq g32
    refine wp_seq (w_region ?_)
    refine H.v 33 (.slice (some ⟨bt, 0, none⟩) 8 8) fun a H => ?_
    refine H.v 34 (.int .i64 ((j : Nat) : Int)) fun a H => ?_
    refine H.u 35 (.pointer (some ⟨bt, 0 + j * 4, none⟩)) (ex_index (b := bt) (off := 0) (len := 8) (cap := 8) (e := 53) (k := 4) (ik := .i64) (i := ((j : Nat) : Int)) (m := j) (by kernel_rfl) (by kernel_rfl) (by omega) (by omega) (by kernel_rfl) (by kernel_rfl)) fun a H => ?_
    refine H.u 36 (.agg #[(.int .i64 ((rateTab.getD j (0, 0)).1)), (.int .i64 ((rateTab.getD j (0, 0)).2)), (.int .i64 ((rateBase.getD j (0, 0)).1)), (.int .i64 ((rateBase.getD j (0, 0)).2))]) (ex_loadN (vs := [(.int .i64 ((rateTab.getD j (0, 0)).1)), (.int .i64 ((rateTab.getD j (0, 0)).2)), (.int .i64 ((rateBase.getD j (0, 0)).1)), (.int .i64 ((rateBase.getD j (0, 0)).2))]) (by kernel_rfl) (by kernel_rfl) (by kernel_rfl) rfl (rate_cells4 (HP.at_ 0 rfl) hj8)) fun a H => ?_
    refine H.store HP 1 b_3 0 4 53 _ true (.agg #[(.int .i64 ((rateTab.getD j (0, 0)).1)), (.int .i64 ((rateTab.getD j (0, 0)).2)), (.int .i64 ((rateBase.getD j (0, 0)).1)), (.int .i64 ((rateBase.getD j (0, 0)).2))]) [bx bt 53 [(.int .i64 24000), (.int .i64 1001), (.int .i64 24), (.int .i64 0), (.int .i64 24), (.int .i64 1), (.int .i64 24), (.int .i64 0), (.int .i64 25), (.int .i64 1), (.int .i64 25), (.int .i64 0), (.int .i64 30000), (.int .i64 1001), (.int .i64 30), (.int .i64 2), (.int .i64 30), (.int .i64 1), (.int .i64 30), (.int .i64 0), (.int .i64 50), (.int .i64 1), (.int .i64 50), (.int .i64 0), (.int .i64 60000), (.int .i64 1001), (.int .i64 60), (.int .i64 4), (.int .i64 60), (.int .i64 1), (.int .i64 60), (.int .i64 0)] true, bx b_3 53 [(.int .i64 ((rateTab.getD j (0, 0)).1)), (.int .i64 ((rateTab.getD j (0, 0)).2)), (.int .i64 ((rateBase.getD j (0, 0)).1)), (.int .i64 ((rateBase.getD j (0, 0)).2))] true, bx b_1 23 [(.int .i64 n), (.int .i64 d)] true] (by kernel_rfl) (by kernel_rfl) (by kernel_rfl) rfl (by kernel_rfl) (by kernel_rfl) (by kernel_rfl) (by kernel_rfl) (by kernel_rfl) fun w_8 a H HP => ?_
    refine H.v 3 (.bool true) fun a H => ?_
    refine wpList_nil (then_normal (wp_ret (inb_ret (then_ret (then_ret (inb_ret (then_ret ?_)))))))
    refine H.ret2 (fn := Tryd.f55) Tryd.results55 (RV.cellN (vs := [(.int .i64 ((rateTab.getD j (0, 0)).1)), (.int .i64 ((rateTab.getD j (0, 0)).2)), (.int .i64 ((rateBase.getD j (0, 0)).1)), (.int .i64 ((rateBase.getD j (0, 0)).2))]) (b := b_3) (off := 0) (k := 4) (by kernel_rfl) (by kernel_rfl) (by kernel_rfl) rfl (HP.cells 1 rfl 0 4 (by kernel_rfl))) (RV.tmp_ (v := (.bool true)) (by kernel_rfl)) ?_
    exact ⟨_, _, _, _, by rw [rateOk_hit (j := j) (by omega) (by rw [g22, g32]; rfl)], (HP.below (by kernel_rfl))⟩
   ·have g32p := ne_of_beq_false g32
    refine wp_skip (inb_normal (then_normal (w_region ?_)))
    refine H.v 11 (.int .i64 ((j : Nat) : Int)) fun a H => ?_
    refine H.valE 12 (.int .i64 (IntKind.i64.wrap (((j : Nat) : Int) + 1))) (.int .i64 (((j : Nat) : Int) + 1)) (by kernel_rfl) (by kernel_rfl) ((by rw [wrap_ini64 _ (by omega)])) fun a H => ?_
    refine H.v 5 (.int .i64 (((j : Nat) : Int) + 1)) fun a H => ?_
    refine wpList_nil (then_normal ?_)
    have H := H.as 5 (.int .i64 ((j + 1 : Nat) : Int)) rfl rfl
    refine ⟨_, ?_, j + 1, rfl, H.keep (by kernel_rfl), HP, by omega, any_snoc (by omega) hno (by rw [g22, g32]; rfl)⟩
    omega
  ·have g22p := ne_of_beq_false g22
   refine An.s H (.inr HP) 10 23 fun a H => ?_
   refine An.s H (.inr HP) 11 24 fun a H => ?_
   refine An.s H (.inr HP) 12 25 fun a H => ?_
   refine An.s H (.inr HP) 13 26 fun a H => ?_
   refine An.s H (.inr HP) 14 27 fun a H => ?_
   refine An.s H (.inr HP) 15 28 fun a H => ?_
   refine An.s H (.inr HP) 16 29 fun a H => ?_
   refine An.s H (.inr HP) 17 30 fun a H => ?_
   refine An.s H (.inr HP) 18 31 fun a H => ?_
   refine An.p H (.inr HP) 19 32 (.bool false) fun a H => ?_
   refine An.done (by kernel_rfl) ?_
   have H := H.keep (L' := [(32, (.bool false)), (10, (.bool (decide (((j : Nat) : Int) < 8)))), (9, (.int .i64 8)), (8, (.slice (some ⟨bt, 0, none⟩) 8 8)), (7, (.int .i64 ((j : Nat) : Int))), (5, (.int .i64 ((j : Nat) : Int))), (4, (.slice (some ⟨bt, 0, none⟩) 8 8)), (1, (.pointer (some ⟨b_1, 0, none⟩))), (2, (.pointer (some ⟨b_3, 0, none⟩))), (3, (.bool false))]) (by kernel_rfl)
   refine then_normal ?_
   refine w_iff H rfl ?_
   refine wp_skip (inb_normal (then_normal (w_region ?_)))
   refine H.v 11 (.int .i64 ((j : Nat) : Int)) fun a H => ?_
   refine H.valE 12 (.int .i64 (IntKind.i64.wrap (((j : Nat) : Int) + 1))) (.int .i64 (((j : Nat) : Int) + 1)) (by kernel_rfl) (by kernel_rfl) ((by rw [wrap_ini64 _ (by omega)])) fun a H => ?_
   refine H.v 5 (.int .i64 (((j : Nat) : Int) + 1)) fun a H => ?_
   refine wpList_nil (then_normal ?_)
   have H := H.as 5 (.int .i64 ((j + 1 : Nat) : Int)) rfl rfl
   refine ⟨_, ?_, j + 1, rfl, H.keep (by kernel_rfl), HP, by omega, any_snoc (by omega) hno (by rw [g22]; rfl)⟩
   omega
 ·have g10p := of_decide_eq_false g10
  refine wp_exit (then_exit (then_exit ?_))
  refine w_exit_here ?_
  refine then_normal (wp_seq (w_region ?_))
  refine H.v 37 (.agg #[(.int .i64 0), (.int .i64 0), (.int .i64 0), (.int .i64 0)]) fun a H => ?_
  refine H.store HP 1 b_3 0 4 53 _ true (.agg #[(.int .i64 0), (.int .i64 0), (.int .i64 0), (.int .i64 0)]) [bx bt 53 [(.int .i64 24000), (.int .i64 1001), (.int .i64 24), (.int .i64 0), (.int .i64 24), (.int .i64 1), (.int .i64 24), (.int .i64 0), (.int .i64 25), (.int .i64 1), (.int .i64 25), (.int .i64 0), (.int .i64 30000), (.int .i64 1001), (.int .i64 30), (.int .i64 2), (.int .i64 30), (.int .i64 1), (.int .i64 30), (.int .i64 0), (.int .i64 50), (.int .i64 1), (.int .i64 50), (.int .i64 0), (.int .i64 60000), (.int .i64 1001), (.int .i64 60), (.int .i64 4), (.int .i64 60), (.int .i64 1), (.int .i64 60), (.int .i64 0)] true, bx b_3 53 [(.int .i64 0), (.int .i64 0), (.int .i64 0), (.int .i64 0)] true, bx b_1 23 [(.int .i64 n), (.int .i64 d)] true] (by kernel_rfl) (by kernel_rfl) (by kernel_rfl) rfl (by kernel_rfl) (by kernel_rfl) (by kernel_rfl) (by kernel_rfl) (by kernel_rfl) fun w_9 a H HP => ?_
  refine H.v 3 (.bool false) fun a H => ?_
  refine wpList_nil (then_normal (wp_ret ?_))
  refine H.ret2 (fn := Tryd.f55) Tryd.results55 (RV.cellN (vs := [(.int .i64 0), (.int .i64 0), (.int .i64 0), (.int .i64 0)]) (b := b_3) (off := 0) (k := 4) (by kernel_rfl) (by kernel_rfl) (by kernel_rfl) rfl (HP.cells 1 rfl 0 4 (by kernel_rfl))) (RV.tmp_ (v := (.bool false)) (by kernel_rfl)) ?_
  exact ⟨_, _, _, _, by rw [rateOk_no (j := j) (by omega) hno], (HP.below (by kernel_rfl))⟩
set_option maxRecDepth 100000 in
set_option maxHeartbeats 4000000 in
theorem rvalid3_any (n d : Int) (w : World) :
  Calls Tryd.prog 33 #[.agg #[.int .i64 n, .int .i64 d]] w fun e w' => e = .returned (.bool (rateOk n d)) ∧ Below w.heap.size w w' := by
 have HP := Hp.start w
 refine w_enter 11 [(0, (.agg #[(.int .i64 n), (.int .i64 d)]))] Tryd.func33 rfl Tryd.ntmps33 (by kernel_rfl) (by kernel_rfl) fun a H => ?_
 refine wp_seq (w_region ?_)
 refine H.alloc HP 1 (fun b => (.pointer (some ⟨b, 0, none⟩))) 23 [(.int .i64 n), (.int .i64 d)] (by kernel_rfl) (fun w => by kernel_rfl) fun b_1 w_2 a H HP => ?_
 refine H.v 2 (.bool false) fun a H => ?_
 refine wpList_nil (then_normal (wp_seq (w_region ?_)))
 refine H.u 6 (.agg #[(.int .i64 n), (.int .i64 d)]) (ex_loadN (vs := [(.int .i64 n), (.int .i64 d)]) (by kernel_rfl) (by kernel_rfl) (by kernel_rfl) rfl (HP.cells 0 rfl 0 2 (by kernel_rfl))) fun a H => ?_
 refine H.call 7 (by kernel_rfl) (Eq.trans (by kernel_rfl : _ = (callFunc 55 #[(.agg #[(.int .i64 n), (.int .i64 d)])]).run Tryd.prog w_2) (Tryd.call55 _ _)) (rfind_any n d w_2) ?_
 rintro e w_3 ⟨i0, i1, i2, i3, rfl, hb⟩
 refine ⟨_, rfl, ?_⟩
 intro a H
 have HP := HP.next hb
 refine H.v 5 (.tuple #[(.agg #[(.int .i64 i0), (.int .i64 i1), (.int .i64 i2), (.int .i64 i3)]), (.bool (rateOk n d))]) fun a H => ?_
 refine H.v 8 (.agg #[(.int .i64 i0), (.int .i64 i1), (.int .i64 i2), (.int .i64 i3)]) fun a H => ?_
 refine H.v 9 (.bool (rateOk n d)) fun a H => ?_
 refine H.alloc HP 3 (fun b => (.pointer (some ⟨b, 0, none⟩))) 53 [(.int .i64 0), (.int .i64 0), (.int .i64 0), (.int .i64 0)] (by kernel_rfl) (fun w => by kernel_rfl) fun b_4 w_5 a H HP => ?_
 refine H.store HP 0 b_4 0 4 53 _ true (.agg #[(.int .i64 i0), (.int .i64 i1), (.int .i64 i2), (.int .i64 i3)]) [bx b_4 53 [(.int .i64 i0), (.int .i64 i1), (.int .i64 i2), (.int .i64 i3)] true, bx b_1 23 [(.int .i64 n), (.int .i64 d)] true] (by kernel_rfl) (by kernel_rfl) (by kernel_rfl) rfl (by kernel_rfl) (by kernel_rfl) (by kernel_rfl) (by kernel_rfl) (by kernel_rfl) fun w_6 a H HP => ?_
 refine H.v 4 (.bool (rateOk n d)) fun a H => ?_
 refine wpList_nil (then_normal (wp_seq (w_region ?_)))
 refine H.v 10 (.bool (rateOk n d)) fun a H => ?_
 refine H.v 2 (.bool (rateOk n d)) fun a H => ?_
 refine wpList_nil (then_normal (wp_ret ?_))
 refine H.ret1 (fn := Tryd.f33) Tryd.results33 (RV.tmp_ (v := (.bool (rateOk n d))) (by kernel_rfl)) ?_
 exact ⟨rfl, (HP.below (by kernel_rfl))⟩
set_option maxRecDepth 100000 in
set_option maxHeartbeats 4000000 in
theorem rticks_any (n d fr : Int) (w : World) (hv : rateOk n d = true) (hf : 0 ≤ fr ∧ fr ≤ 100000000) :
  Calls Tryd.prog 34 #[.agg #[.int .i64 n, .int .i64 d], .int .i64 fr] w fun e w' => e = .returned (.int .i64 (ticksP n d fr)) ∧ Below w.heap.size w w' := by
 have HP := Hp.start w
 refine w_enter 22 [(0, (.agg #[(.int .i64 n), (.int .i64 d)])), (1, (.int .i64 fr))] Tryd.func34 rfl Tryd.ntmps34 (by kernel_rfl) (by kernel_rfl) fun a H => ?_
 refine wp_seq (w_region ?_)
 refine H.alloc HP 2 (fun b => (.pointer (some ⟨b, 0, none⟩))) 23 [(.int .i64 n), (.int .i64 d)] (by kernel_rfl) (fun w => by kernel_rfl) fun b_1 w_2 a H HP => ?_
 refine H.v 4 (.int .i64 0) fun a H => ?_
 refine wpList_nil (then_normal (wp_seq (wp_seq (w_region ?_))))
 refine H.u 5 (.agg #[(.int .i64 n), (.int .i64 d)]) (ex_loadN (vs := [(.int .i64 n), (.int .i64 d)]) (by kernel_rfl) (by kernel_rfl) (by kernel_rfl) rfl (HP.cells 0 rfl 0 2 (by kernel_rfl))) fun a H => ?_
 refine H.call 6 (by kernel_rfl) (Eq.trans (by kernel_rfl : _ = (callFunc 33 #[(.agg #[(.int .i64 n), (.int .i64 d)])]).run Tryd.prog w_2) (Tryd.call33 _ _)) ((by have hh := rvalid3_any n d w_2; rw [hv] at hh; exact hh)) ?_
 rintro e w_3 ⟨rfl, hb⟩
 refine ⟨_, rfl, ?_⟩
 intro a H
 have HP := HP.next hb
 refine H.v 7 (.bool false) fun a H => ?_
 refine H.v 8 (.bool false) fun a H => ?_
 refine H.v 9 (.int .i64 fr) fun a H => ?_
 refine H.call 10 (by kernel_rfl) (Eq.trans (by kernel_rfl : _ = (callFunc 56 #[(.int .i64 fr)]).run Tryd.prog w_3) (Tryd.call56 _ _)) ((by have hh := risFrame_any fr w_3; rw [frameOk_of hf] at hh; exact hh)) ?_
 rintro e w_4 ⟨rfl, hw⟩
 refine ⟨_, rfl, ?_⟩
 intro a H
 have HP := hw ▸ HP
 refine H.v 11 (.bool false) fun a H => ?_
 refine H.v 12 (.bool false) fun a H => ?_
 refine wpList_nil (then_normal ?_)
 refine w_iff H rfl ?_
 refine wp_skip (then_normal (wp_seq ?_))
 obtain ⟨rn1, rn2, rd1, rd2⟩ := rateOk_bd hv
 have hm1 : 0 ≤ fr * 90000 * d := Int.mul_nonneg (by omega) (by omega)
 have hm2 : fr * 90000 * d ≤ 9000000000000 * 1001 := Int.mul_le_mul (by omega) (by omega) (by omega) (by omega)
 have hm3 : 0 ≤ fr * 90000 * d / n := Int.ediv_nonneg hm1 (by omega)
 have hm4 : fr * 90000 * d / n ≤ fr * 90000 * d := Int.ediv_le_self _ hm1
 refine w_region ?_
 refine H.v 13 (.int .i64 fr) fun a H => ?_
 refine H.valE 14 (.int .i64 (IntKind.i64.wrap (fr * 90000))) (.int .i64 (fr * 90000)) (by kernel_rfl) (by kernel_rfl) ((by rw [wrap_ini64 _ (by omega)])) fun a H => ?_
 refine H.v 15 (.pointer (some ⟨b_1, 1, none⟩)) fun a H => ?_
 refine H.u 16 (.int .i64 d) (ex_load1 (by kernel_rfl) (by kernel_rfl) (HP.cell 0 rfl 1 rfl)) fun a H => ?_
 refine H.valE 17 (.int .i64 (IntKind.i64.wrap ((fr * 90000) * d))) (.int .i64 (fr * 90000 * d)) (by kernel_rfl) (by kernel_rfl) ((by rw [wrap_ini64 _ (by omega)])) fun a H => ?_
 refine H.v 18 (.pointer (some ⟨b_1, 0, none⟩)) fun a H => ?_
 refine H.u 19 (.int .i64 n) (ex_load1 (by kernel_rfl) (by kernel_rfl) (HP.cell 0 rfl 0 rfl)) fun a H => ?_
 refine H.valE 20 (.int .i64 (IntKind.i64.wrap ((fr * 90000 * d).tdiv n))) (.int .i64 (fr * 90000 * d / n)) (by kernel_rfl) (ex_quo (k := .i64) (by kernel_rfl) (by kernel_rfl) (by omega)) ((congrArg (Value.int .i64) (by rw [tdiv_nn _ _ (by omega), wrap_ini64 _ (by omega)]))) fun a H => ?_
 refine H.valE 21 (.int .i64 ((fr * 90000 * d / n).tmod 8589934592)) (.int .i64 ((fr * 90000 * d / n) % 8589934592)) (by kernel_rfl) (by kernel_rfl) ((by rw [tmod_nn _ _ (by omega)])) fun a H => ?_
 refine H.v 4 (.int .i64 ((fr * 90000 * d / n) % 8589934592)) fun a H => ?_
 refine wpList_nil (then_normal (wp_ret ?_))
 refine H.ret1 (fn := Tryd.f34) Tryd.results34 (RV.tmp_ (v := (.int .i64 ((fr * 90000 * d / n) % 8589934592))) (by kernel_rfl)) ?_
 exact ⟨rfl, (HP.below (by kernel_rfl))⟩
set_option maxRecDepth 100000 in
set_option maxHeartbeats 4000000 in
theorem rzig_any (n : Int) (w : World) (h1 : -wmax ≤ n) (h2 : n ≤ wmax) :
  Calls Tryd.prog 84 #[.int .i64 n] w fun e w' => e = .returned (.int .u64 ((zig n : Nat) : Int)) ∧ Below w.heap.size w w' := by
 have HP := Hp.start w
 unfold wmax at h1 h2
 refine w_enter 13 [(0, (.int .i64 n))] Tryd.func84 rfl Tryd.ntmps84 (by kernel_rfl) (by kernel_rfl) fun a H => ?_
 refine wp_seq (w_region ?_)
 refine H.v 2 (.int .u64 0) fun a H => ?_
 refine wpList_nil (then_normal (wp_seq (wp_seq (w_region ?_))))
 refine H.v 3 (.int .i64 n) fun a H => ?_
 refine H.v 4 (.bool (decide (n < 0))) fun a H => ?_
 refine wpList_nil (then_normal ?_)
 refine w_if H rfl (fun g4 => ?_) (fun g4 => ?_)
 ·have g4p := of_decide_eq_true g4
  refine wp_seq (w_region ?_)
  refine H.v 5 (.int .i64 n) fun a H => ?_
  refine H.valE 6 (.int .i64 (IntKind.i64.wrap (0 - n))) (.int .i64 (-n)) (by kernel_rfl) (by kernel_rfl) ((by rw [Int.zero_sub, wrap_ini64 _ (by omega)])) fun a H => ?_
  refine H.valE 7 (.int .u64 (IntKind.u64.wrap (-n))) (.int .u64 (-n)) (by kernel_rfl) (by kernel_rfl) ((by rw [wrap_inu64 _ (by omega)])) fun a H => ?_
  refine H.valE 8 (.int .u64 (IntKind.u64.wrap ((-n) * 2))) (.int .u64 ((-n) * 2)) (by kernel_rfl) (by kernel_rfl) ((by rw [wrap_inu64 _ (by omega)])) fun a H => ?_
  refine H.valE 9 (.int .u64 (IntKind.u64.wrap (((-n) * 2) - 1))) (.int .u64 (((-n) * 2) - 1)) (by kernel_rfl) (by kernel_rfl) ((by rw [wrap_inu64 _ (by omega)])) fun a H => ?_
  refine H.v 2 (.int .u64 (((-n) * 2) - 1)) fun a H => ?_
  refine wpList_nil (then_normal (wp_ret (then_ret ?_)))
  refine H.ret1 (fn := Tryd.f84) Tryd.results84 (RV.tmp_ (v := (.int .u64 (((-n) * 2) - 1))) (by kernel_rfl)) ?_
  exact ⟨congrArg (fun x => Ending.returned (Value.int .u64 x)) (by unfold zig; rw [if_pos (by omega)]; omega), HP.below (by kernel_rfl)⟩
 ·have g4p := of_decide_eq_false g4
  refine wp_skip (then_normal (wp_seq (w_region ?_)))
  refine H.v 10 (.int .i64 n) fun a H => ?_
  refine H.valE 11 (.int .u64 (IntKind.u64.wrap n)) (.int .u64 n) (by kernel_rfl) (by kernel_rfl) ((by rw [wrap_inu64 _ (by omega)])) fun a H => ?_
  refine H.valE 12 (.int .u64 (IntKind.u64.wrap (n * 2))) (.int .u64 (n * 2)) (by kernel_rfl) (by kernel_rfl) ((by rw [wrap_inu64 _ (by omega)])) fun a H => ?_
  refine H.v 2 (.int .u64 (n * 2)) fun a H => ?_
  refine wpList_nil (then_normal (wp_ret ?_))
  refine H.ret1 (fn := Tryd.f84) Tryd.results84 (RV.tmp_ (v := (.int .u64 (n * 2))) (by kernel_rfl)) ?_
  exact ⟨congrArg (fun x => Ending.returned (Value.int .u64 x)) (by unfold zig; rw [if_neg (by omega)]; omega), HP.below (by kernel_rfl)⟩
set_option maxRecDepth 100000 in
set_option maxHeartbeats 4000000 in
theorem rputInt_any (n : Int) (w : World) (h1 : -wmax ≤ n) (h2 : n ≤ wmax) :
  Calls Tryd.prog 80 #[.int .i64 n] w fun e w' => e = .returned (.tuple #[.string (bstr (encInt n)), .int .i64 0]) ∧ Below w.heap.size w w' := by
 have HP := Hp.start w
 unfold wmax at h1 h2
 refine w_enter 31 [(0, (.int .i64 n))] Tryd.func80 rfl Tryd.ntmps80 (by kernel_rfl) (by kernel_rfl) fun a H => ?_
 refine wp_seq (w_region ?_)
 refine H.v 2 (.string (bstr ([]))) fun a H => ?_
 refine H.v 3 (.int .i64 0) fun a H => ?_
 refine wpList_nil (then_normal (wp_seq (wp_seq (w_region ?_))))
 refine H.v 6 (.int .i64 n) fun a H => ?_
 refine H.valE 7 (.bool (decide (n < -4611686018427387903))) (.bool false) (by kernel_rfl) (by kernel_rfl) ((congrArg Value.bool (decide_eq_false (by omega)))) fun a H => ?_
 refine H.v 8 (.bool false) fun a H => ?_
 refine H.v 9 (.int .i64 n) fun a H => ?_
 refine H.valE 10 (.bool (decide (n > 4611686018427387903))) (.bool false) (by kernel_rfl) (by kernel_rfl) ((congrArg Value.bool (decide_eq_false (by omega)))) fun a H => ?_
 refine H.v 11 (.bool false) fun a H => ?_
 refine wpList_nil (then_normal ?_)
 refine w_iff H rfl ?_
 refine wp_skip (then_normal (wp_seq (w_region ?_)))
 refine H.v 12 (.int .i64 n) fun a H => ?_
 refine H.call 13 (by kernel_rfl) (Eq.trans (by kernel_rfl : _ = (callFunc 84 #[(.int .i64 n)]).run Tryd.prog w) (Tryd.call84 _ _)) (rzig_any n w (by unfold wmax; omega) (by unfold wmax; omega)) ?_
 rintro e w_1 ⟨rfl, hb⟩
 refine ⟨_, rfl, ?_⟩
 intro a H
 have HP := HP.next hb
 obtain ⟨z0, hz0⟩ : ∃ z, zig n = z := ⟨_, rfl⟩
 rw [hz0] at H
 have hzb : z0 < 9223372036854775808 := by rw [← hz0]; unfold zig; split <;> omega
 refine H.v 4 (.int .u64 ((z0 : Nat) : Int)) fun a H => ?_
 refine wpList_nil (then_normal (wp_seq (w_region ?_)))
 refine H.v 5 (.slice none 0 0) fun a H => ?_
 refine wpList_nil (then_normal (wp_seq (wp_block ?_)))
 have HP := HP.nilR 5
 refine w_loop (fun mm a wv => ∃ (f : Nat), ∃ (z : Nat), ∃ (l : List UInt8), ∃ (B : Option Addr), ∃ (cc : Nat), f = mm ∧ Sl 31 [(4, (.int .u64 ((z : Nat) : Int))), (5, (.slice B l.length cc)), (0, (.int .i64 n))] a ∧ Hp w wv [(ownR w.heap.size 5 (.slice B l.length cc) (Lib.byteCells l))] [] ∧ (z < 128 ^ f) ∧ (z < 9223372036854775808) ∧ (1 ≤ f) ∧ (l.length + f = 9) ∧ (B = none → l.length = 0 ∧ cc = 0) ∧ (l ++ (vput f z).map UInt8.ofNat = encInt n)) (9) ?_ ?_
 ·exact ⟨9, z0, [], none, 0, (by omega), H.keep (by kernel_rfl), HP, (by omega), (by omega), (by omega), rfl, (fun _ => ⟨rfl, rfl⟩), (by rw [← hz0]; rfl)⟩
 rintro mm a w_2 ⟨f, z, l, B, cc, hmeas, H, HP, hz, hzz, hf, hfl, hnb, hen⟩
 refine wp_seq (wp_seq (w_region ?_))
 refine H.v 14 (.int .u64 ((z : Nat) : Int)) fun a H => ?_
 refine H.v 15 (.bool (decide (((z : Nat) : Int) ≥ 128))) fun a H => ?_
 refine wpList_nil (then_normal ?_)
 refine w_if H rfl (fun g15 => ?_) (fun g15 => ?_)
 ·have g15p := of_decide_eq_true g15
  refine wp_skip (then_normal (wp_block (wp_seq (w_region ?_))))
  refine H.v 16 (.slice B l.length cc) fun a H => ?_
  refine H.v 17 (.int .u64 ((z : Nat) : Int)) fun a H => ?_
  refine H.valE 18 (.int .u64 (((z : Nat) : Int).tmod 128)) (.int .u64 ((z % 128 : Nat) : Int)) (by kernel_rfl) (by kernel_rfl) ((by rw [tmod_nn _ _ (by omega)]; exact congrArg (Value.int .u64) (by omega))) fun a H => ?_
  refine H.valE 19 (.int .u64 (IntKind.u64.wrap (((z % 128 : Nat) : Int) + 128))) (.int .u64 ((z % 128 + 128 : Nat) : Int)) (by kernel_rfl) (by kernel_rfl) ((by rw [wrap_inu64 _ (by omega)]; exact congrArg (Value.int .u64) (by omega))) fun a H => ?_
  refine H.valE 20 (.int .u8 (IntKind.u8.wrap ((z % 128 + 128 : Nat) : Int))) (.int .u8 ((z % 128 + 128 : Nat) : Int)) (by kernel_rfl) (by kernel_rfl) ((by rw [wrap_inu8 _ (by omega)])) fun a H => ?_
  refine H.alloc HP 21 (fun b => (.slice (some ⟨b, 0, none⟩) 1 1)) 5 [(.int .u8 ((z % 128 + 128 : Nat) : Int))] (by kernel_rfl) (fun w => by kernel_rfl) fun b_3 w_4 a H HP => ?_
  refine H.appR HP 22 1 (v := (.slice B l.length cc)) (xs := (Lib.byteCells l)) 5 (z := (.int .u8 0)) (bytes := 1) (some ⟨b_3, 0, none⟩) (1) (1) ([(.int .u8 ((z % 128 + 128 : Nat) : Int))]) (by kernel_rfl) (by kernel_rfl) (by kernel_rfl) (by kernel_rfl) (by kernel_rfl) rfl (by kernel_rfl) (fun h => by cases h) (Rd.of_box (HP.at_ 0 rfl) rfl) (by kernel_rfl) (by rw [byteCells_len]; unfold maxLen; omega) (by rw [byteCells_len]; omega) fun B_5 c_6 w_7 a H HP => ?_
  have HP : Hp w w_7 [bx b_3 5 [(.int .u8 ((z % 128 + 128 : Nat) : Int))] true, (ownR w.heap.size 5 (.slice B_5 ((Lib.byteCells l).length + 1) c_6) (Lib.byteCells l ++ [(.int .u8 ((z % 128 + 128 : Nat) : Int))]))] [] := HP
  have hxs : Lib.byteCells l ++ [(.int .u8 ((z % 128 + 128 : Nat) : Int))] = Lib.byteCells (l ++ [UInt8.ofNat (z % 128 + 128)]) := (by rw [byteCells_append, byte_one (by omega)])
  have hvv : ((.slice B_5 ((Lib.byteCells l).length + 1) c_6) : Value) = (.slice B_5 ((l ++ [UInt8.ofNat (z % 128 + 128)]).length) c_6) := by rw [show (Lib.byteCells l).length + 1 = (l ++ [UInt8.ofNat (z % 128 + 128)]).length from (by simp [byteCells_len])]
  rw [hxs, hvv] at HP
  have HP : Hp w w_7 [bx b_3 5 [(.int .u8 ((z % 128 + 128 : Nat) : Int))] true, (ownR w.heap.size 5 (.slice B_5 ((l ++ [UInt8.ofNat (z % 128 + 128)]).length) c_6) (Lib.byteCells (l ++ [UInt8.ofNat (z % 128 + 128)])))] [] := HP
  have H := H.as 22 (.slice B_5 ((l ++ [UInt8.ofNat (z % 128 + 128)]).length) c_6) rfl hvv
  clear hxs hvv
  refine H.v 5 (.slice B_5 ((l ++ [UInt8.ofNat (z % 128 + 128)]).length) c_6) fun a H => ?_
  refine wpList_nil (then_normal (w_region ?_))
  refine H.v 23 (.int .u64 ((z : Nat) : Int)) fun a H => ?_
  refine H.valE 24 (.int .u64 (IntKind.u64.wrap (((z : Nat) : Int).tdiv 128))) (.int .u64 ((z / 128 : Nat) : Int)) (by kernel_rfl) (by kernel_rfl) ((by rw [tdiv_nn _ _ (by omega), wrap_inu64 _ (by omega)]; exact congrArg (Value.int .u64) (by omega))) fun a H => ?_
  refine H.v 4 (.int .u64 ((z / 128 : Nat) : Int)) fun a H => ?_
  refine wpList_nil (inb_normal (then_normal ?_))
  obtain ⟨f, rfl⟩ : ∃ k, f = k + 1 := ⟨f - 1, by omega⟩
  have hzq : z / 128 < 128 ^ f := by rw [Nat.pow_succ] at hz; exact Nat.div_lt_of_lt_mul (by rw [Nat.mul_comm]; exact hz)
  have hf0 : 1 ≤ f := by rcases Nat.eq_zero_or_pos f with h | h <;> first | exact h | (subst h; simp at hzq; omega)
  have H := H.as 4 (.int .u64 ((z / 128 : Nat) : Int)) rfl rfl
  have H := H.as 5 (.slice B_5 ((l ++ [UInt8.ofNat (z % 128 + 128)]).length) c_6) rfl rfl
  refine ⟨_, ?_, f, z / 128, l ++ [UInt8.ofNat (z % 128 + 128)], B_5, c_6, rfl, H.keep (by kernel_rfl), (HP.tail rfl), hzq, (by omega), hf0, (by simp only [List.length_append, List.length_cons, List.length_nil]; omega), (fun h => by have := ownR_facts (HP.held 1 rfl); have := this.2.2.2 h; simp only [List.length_append, List.length_cons, List.length_nil, byteCells_len] at *; omega), (by rw [← hen, vput_step (by omega)]; simp)⟩
  omega
 ·have g15p := of_decide_eq_false g15
  refine wp_exit (then_exit (then_exit ?_))
  refine w_exit_here ?_
  refine then_normal (wp_seq (w_region ?_))
  refine H.v 25 (.slice B l.length cc) fun a H => ?_
  refine H.v 26 (.int .u64 ((z : Nat) : Int)) fun a H => ?_
  refine H.valE 27 (.int .u8 (IntKind.u8.wrap ((z : Nat) : Int))) (.int .u8 ((z : Nat) : Int)) (by kernel_rfl) (by kernel_rfl) ((by rw [wrap_inu8 _ (by omega)])) fun a H => ?_
  refine H.alloc HP 28 (fun b => (.slice (some ⟨b, 0, none⟩) 1 1)) 5 [(.int .u8 ((z : Nat) : Int))] (by kernel_rfl) (fun w => by kernel_rfl) fun b_8 w_9 a H HP => ?_
  refine H.appR HP 29 1 (v := (.slice B l.length cc)) (xs := (Lib.byteCells l)) 5 (z := (.int .u8 0)) (bytes := 1) (some ⟨b_8, 0, none⟩) (1) (1) ([(.int .u8 ((z : Nat) : Int))]) (by kernel_rfl) (by kernel_rfl) (by kernel_rfl) (by kernel_rfl) (by kernel_rfl) rfl (by kernel_rfl) (fun h => by cases h) (Rd.of_box (HP.at_ 0 rfl) rfl) (by kernel_rfl) (by rw [byteCells_len]; unfold maxLen; omega) (by rw [byteCells_len]; omega) fun B_10 c_11 w_12 a H HP => ?_
  have HP : Hp w w_12 [bx b_8 5 [(.int .u8 ((z : Nat) : Int))] true, (ownR w.heap.size 5 (.slice B_10 ((Lib.byteCells l).length + 1) c_11) (Lib.byteCells l ++ [(.int .u8 ((z : Nat) : Int))]))] [] := HP
  have hxs : Lib.byteCells l ++ [(.int .u8 ((z : Nat) : Int))] = Lib.byteCells (l ++ [UInt8.ofNat (z)]) := (by rw [byteCells_append, byte_one (by omega)])
  have hvv : ((.slice B_10 ((Lib.byteCells l).length + 1) c_11) : Value) = (.slice B_10 ((l ++ [UInt8.ofNat (z)]).length) c_11) := by rw [show (Lib.byteCells l).length + 1 = (l ++ [UInt8.ofNat (z)]).length from (by simp [byteCells_len])]
  rw [hxs, hvv] at HP
  have HP : Hp w w_12 [bx b_8 5 [(.int .u8 ((z : Nat) : Int))] true, (ownR w.heap.size 5 (.slice B_10 ((l ++ [UInt8.ofNat (z)]).length) c_11) (Lib.byteCells (l ++ [UInt8.ofNat (z)])))] [] := HP
  have H := H.as 29 (.slice B_10 ((l ++ [UInt8.ofNat (z)]).length) c_11) rfl hvv
  clear hxs hvv
  refine H.valE 30 (.string (bstr (l ++ [UInt8.ofNat (z)]))) (.string (bstr (encInt n))) (by kernel_rfl) (ex_b2sB (l := l ++ [UInt8.ofNat (z)]) (e := 5) (m := (l ++ [UInt8.ofNat (z)]).length) (c := c_11) (by kernel_rfl) (by have hh := ownR_rd (HP.held 1 rfl); rw [byteCells_len] at hh; exact hh) (by simp) (by kernel_rfl) (by kernel_rfl) (by kernel_rfl)) ((congrArg (fun x => Value.string (bstr x)) (by rw [← hen]; obtain ⟨f, rfl⟩ : ∃ k, f = k + 1 := ⟨f - 1, by omega⟩; unfold vput; rw [if_pos (by omega)]; simp))) fun a H => ?_
  refine H.v 2 (.string (bstr (encInt n))) fun a H => ?_
  refine H.v 3 (.int .i64 0) fun a H => ?_
  refine wpList_nil (then_normal (wp_ret ?_))
  refine H.ret2 (fn := Tryd.f80) Tryd.results80 (RV.tmp_ (v := (.string (bstr (encInt n)))) (by kernel_rfl)) (RV.tmp_ (v := (.int .i64 0)) (by kernel_rfl)) ?_
  exact ⟨rfl, (HP.below (by kernel_rfl))⟩
set_option maxRecDepth 100000 in
set_option maxHeartbeats 4000000 in
theorem rputString_any (l : List UInt8) (w : World) (hl : l.length ≤ 65536) :
  Calls Tryd.prog 81 #[.string (bstr l)] w fun e w' => e = .returned (.tuple #[.string (bstr (encStr l)), .int .i64 0]) ∧ Below w.heap.size w w' := by
 have HP := Hp.start w
 refine w_enter 18 [(0, (.string (bstr l)))] Tryd.func81 rfl Tryd.ntmps81 (by kernel_rfl) (by kernel_rfl) fun a H => ?_
 refine wp_seq (w_region ?_)
 refine H.v 2 (.string (bstr ([]))) fun a H => ?_
 refine H.v 3 (.int .i64 0) fun a H => ?_
 refine wpList_nil (then_normal (wp_seq (wp_seq (w_region ?_))))
 refine H.v 6 (.string (bstr l)) fun a H => ?_
 refine H.v 7 (.int .i64 ((l.length : Nat) : Int)) fun a H => ?_
 refine H.valE 8 (.bool (decide (((l.length : Nat) : Int) > 65536))) (.bool false) (by kernel_rfl) (by kernel_rfl) ((congrArg Value.bool (decide_eq_false (by omega)))) fun a H => ?_
 refine wpList_nil (then_normal ?_)
 refine w_iff H rfl ?_
 refine wp_skip (then_normal (wp_seq (w_region ?_)))
 refine H.v 10 (.string (bstr l)) fun a H => ?_
 refine H.v 11 (.int .i64 ((l.length : Nat) : Int)) fun a H => ?_
 refine H.call 12 (by kernel_rfl) (Eq.trans (by kernel_rfl : _ = (callFunc 80 #[(.int .i64 ((l.length : Nat) : Int))]).run Tryd.prog w) (Tryd.call80 _ _)) (rputInt_any ((l.length : Nat) : Int) w (by unfold wmax; omega) (by unfold wmax; omega)) ?_
 rintro e w_1 ⟨rfl, hb⟩
 refine ⟨_, rfl, ?_⟩
 intro a H
 have HP := HP.next hb
 refine H.v 9 (.tuple #[(.string (bstr (encInt ((l.length : Nat) : Int)))), (.int .i64 0)]) fun a H => ?_
 refine H.v 13 (.string (bstr (encInt ((l.length : Nat) : Int)))) fun a H => ?_
 refine H.v 14 (.int .i64 0) fun a H => ?_
 refine H.v 4 (.string (bstr (encInt ((l.length : Nat) : Int)))) fun a H => ?_
 refine H.v 5 (.int .i64 0) fun a H => ?_
 refine wpList_nil (then_normal (wp_seq (w_region ?_)))
 refine H.v 15 (.string (bstr (encInt ((l.length : Nat) : Int)))) fun a H => ?_
 refine H.v 16 (.string (bstr l)) fun a H => ?_
 refine H.u 17 (.string (bstr ((encInt ((l.length : Nat) : Int)) ++ l))) (ex_sadd (by kernel_rfl) (by kernel_rfl) (by have := (encInt_len ((l.length : Nat) : Int)).2; omega)) fun a H => ?_
 refine H.v 2 (.string (bstr ((encInt ((l.length : Nat) : Int)) ++ l))) fun a H => ?_
 refine H.v 3 (.int .i64 0) fun a H => ?_
 refine wpList_nil (then_normal (wp_ret ?_))
 refine H.ret2 (fn := Tryd.f81) Tryd.results81 (RV.tmp_ (v := (.string (bstr ((encInt ((l.length : Nat) : Int)) ++ l)))) (by kernel_rfl)) (RV.tmp_ (v := (.int .i64 0)) (by kernel_rfl)) ?_
 exact ⟨rfl, (HP.below (by kernel_rfl))⟩
set_option maxRecDepth 100000 in
set_option maxHeartbeats 4000000 in
theorem rnumber_any (n : Int) (w : World) (h1 : -wmax ≤ n) (h2 : n ≤ wmax) :
  Calls Tryd.prog 58 #[.int .i64 n] w fun e w' => e = .returned (.string (bstr (encInt n))) ∧ Below w.heap.size w w' := by
 have HP := Hp.start w
 refine w_enter 11 [(0, (.int .i64 n))] Tryd.func58 rfl Tryd.ntmps58 (by kernel_rfl) (by kernel_rfl) fun a H => ?_
 refine wp_seq (w_region ?_)
 refine H.v 2 (.string (bstr ([]))) fun a H => ?_
 refine wpList_nil (then_normal (wp_seq (w_region ?_)))
 refine H.v 6 (.int .i64 n) fun a H => ?_
 refine H.call 7 (by kernel_rfl) (Eq.trans (by kernel_rfl : _ = (callFunc 80 #[(.int .i64 n)]).run Tryd.prog w) (Tryd.call80 _ _)) (rputInt_any n w h1 h2) ?_
 rintro e w_1 ⟨rfl, hb⟩
 refine ⟨_, rfl, ?_⟩
 intro a H
 have HP := HP.next hb
 refine H.v 5 (.tuple #[(.string (bstr (encInt n))), (.int .i64 0)]) fun a H => ?_
 refine H.v 8 (.string (bstr (encInt n))) fun a H => ?_
 refine H.v 9 (.int .i64 0) fun a H => ?_
 refine H.v 3 (.string (bstr (encInt n))) fun a H => ?_
 refine H.v 4 (.int .i64 0) fun a H => ?_
 refine wpList_nil (then_normal (wp_seq (w_region ?_)))
 refine H.v 10 (.string (bstr (encInt n))) fun a H => ?_
 refine H.v 2 (.string (bstr (encInt n))) fun a H => ?_
 refine wpList_nil (then_normal (wp_ret ?_))
 refine H.ret1 (fn := Tryd.f58) Tryd.results58 (RV.tmp_ (v := (.string (bstr (encInt n)))) (by kernel_rfl)) ?_
 exact ⟨rfl, (HP.below (by kernel_rfl))⟩
set_option maxRecDepth 100000 in
set_option maxHeartbeats 4000000 in
theorem rtext_any (l : List UInt8) (w : World) (hl : l.length ≤ 65536) :
  Calls Tryd.prog 59 #[.string (bstr l)] w fun e w' => e = .returned (.string (bstr (encStr l))) ∧ Below w.heap.size w w' := by
 have HP := Hp.start w
 refine w_enter 11 [(0, (.string (bstr l)))] Tryd.func59 rfl Tryd.ntmps59 (by kernel_rfl) (by kernel_rfl) fun a H => ?_
 refine wp_seq (w_region ?_)
 refine H.v 2 (.string (bstr ([]))) fun a H => ?_
 refine wpList_nil (then_normal (wp_seq (w_region ?_)))
 refine H.v 6 (.string (bstr l)) fun a H => ?_
 refine H.call 7 (by kernel_rfl) (Eq.trans (by kernel_rfl : _ = (callFunc 81 #[(.string (bstr l))]).run Tryd.prog w) (Tryd.call81 _ _)) (rputString_any l w hl) ?_
 rintro e w_1 ⟨rfl, hb⟩
 refine ⟨_, rfl, ?_⟩
 intro a H
 have HP := HP.next hb
 refine H.v 5 (.tuple #[(.string (bstr (encStr l))), (.int .i64 0)]) fun a H => ?_
 refine H.v 8 (.string (bstr (encStr l))) fun a H => ?_
 refine H.v 9 (.int .i64 0) fun a H => ?_
 refine H.v 3 (.string (bstr (encStr l))) fun a H => ?_
 refine H.v 4 (.int .i64 0) fun a H => ?_
 refine wpList_nil (then_normal (wp_seq (w_region ?_)))
 refine H.v 10 (.string (bstr (encStr l))) fun a H => ?_
 refine H.v 2 (.string (bstr (encStr l))) fun a H => ?_
 refine wpList_nil (then_normal (wp_ret ?_))
 refine H.ret1 (fn := Tryd.f59) Tryd.results59 (RV.tmp_ (v := (.string (bstr (encStr l)))) (by kernel_rfl)) ?_
 exact ⟨rfl, (HP.below (by kernel_rfl))⟩
end Go.Proofs.YtgdjpaeclicdfaaDoor
