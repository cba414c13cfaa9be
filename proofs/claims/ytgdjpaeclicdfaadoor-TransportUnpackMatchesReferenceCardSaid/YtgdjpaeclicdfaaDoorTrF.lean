/- Contracts of transport: examine, Follows. -/
import Derived.Test.YtgdjpaeclicdfaaDoorTrE
namespace Go.Proofs.YtgdjpaeclicdfaaDoor
open Go.ChangeShapes Go.WideShapes Go.ChangeAt Go.RowKit
set_option linter.unusedVariables false
set_option linter.unusedSimpArgs false

theorem dropGetD {l : List UInt8} {a k : Nat} {d : UInt8} : (l.drop a).getD k d = l.getD (a + k) d := by simp only [List.getD, List.getElem?_drop]
def flagsP (N i : Nat) : Nat := (if i = 0 then 1 else 0) + (if i + 1 = N then 2 else 0)
/-- The head of packet i is as it must be. -/
def headOk (l : List UInt8) (N i : Nat) : Bool := decide ((l.getD (64 * i + 0) 0).toNat = 71 ∧ (l.getD (64 * i + 1) 0).toNat = (l.getD 1 0).toNat ∧ (l.getD (64 * i + 3) 0).toNat = flagsP N i ∧ (l.getD (64 * i + 2) 0).toNat / 16 = (l.getD 2 0).toNat / 16 ∧ (l.getD (64 * i + 2) 0).toNat % 16 = i % 16)
def exOk (l : List UInt8) (N j : Nat) : Bool := (List.range j).all (headOk l N)
theorem exOk_succ {l : List UInt8} {N j : Nat} (h : exOk l N j = true) (hx : headOk l N j = true) : exOk l N (j + 1) = true := by
 unfold exOk at *
 rw [List.range_succ, List.all_append, h]
 simpa using hx
theorem exOk_no {l : List UInt8} {N j : Nat} (hj : j < N) (hx : headOk l N j = false) : exOk l N N = false := by
 unfold exOk
 rw [List.all_eq_false]
 exact ⟨j, List.mem_range.2 hj, by rw [hx]; simp⟩
def examineP (l : List UInt8) : Option (Nat × Nat) := if l.length = 0 ∨ l.length % 64 ≠ 0 ∨ exOk l (l.length / 64) (l.length / 64) = false then none else some ((l.getD 1 0).toNat, (l.getD 2 0).toNat / 16)
def examV (X : Option (Nat × Nat)) : Value := .tuple #[.agg #[.int .u8 (((X.getD (0, 0)).1 : Nat) : Int), .int .u8 (((X.getD (0, 0)).2 : Nat) : Int)], .bool X.isSome]
theorem exam_bd (l : List UInt8) : ((examineP l).getD (0, 0)).2 < 16 := by
 unfold examineP
 have := byte_lt (l.getD 2 0)
 split
 ·simp
 ·simp only [Option.getD_some]; omega
def followsP (a b : List UInt8) : Bool := (examineP a).isSome && ((examineP b).isSome && (((((examineP a).getD (0, 0)).1 : Nat) : Int) == ((((examineP b).getD (0, 0)).1 : Nat) : Int) && (((((examineP b).getD (0, 0)).2 : Nat) : Int) == (((((examineP a).getD (0, 0)).2 + 1) % 16 : Nat) : Int))))
set_option maxRecDepth 100000 in
set_option maxHeartbeats 4000000 in
theorem examine_any (l : List UInt8) (w : World) (hl : l.length ≤ 1000000) :
  Calls Tryd.prog 47 #[.string (bstr l)] w fun e w' => e = .returned (examV (examineP l)) ∧ Below w.heap.size w w' := by
 have HP := Hp.start w
 refine w_enter 81 [(0, (.string (bstr l)))] Tryd.func47 rfl Tryd.ntmps47 (by kernel_rfl) (by kernel_rfl) fun a H => ?_
 refine wp_seq (w_region ?_)
 refine H.alloc HP 2 (fun b => (.pointer (some ⟨b, 0, none⟩))) 84 [(.int .u8 0), (.int .u8 0)] (by kernel_rfl) (fun w => by kernel_rfl) fun b_1 w_2 a H HP => ?_
 refine H.v 3 (.bool false) fun a H => ?_
 refine wpList_nil (then_normal (wp_seq (wp_seq (w_region ?_))))
 refine H.v 9 (.string (bstr l)) fun a H => ?_
 refine H.v 10 (.int .i64 ((l.length : Nat) : Int)) fun a H => ?_
 refine H.v 11 (.bool (((l.length : Nat) : Int) == 0)) fun a H => ?_
 refine H.v 12 (.bool (((l.length : Nat) : Int) == 0)) fun a H => ?_
 refine H.split 12 rfl (fun g12 H => ?_) (fun g12 H => ?_)
 ·have g12p := eq_of_beq g12
  refine H.s 13 fun a H => ?_
  refine H.s 14 fun a H => ?_
  refine H.s 15 fun a H => ?_
  refine H.s 16 fun a H => ?_
  refine H.v 17 (.bool true) fun a H => ?_
  refine wpList_nil (then_normal ?_)
  refine w_ift H rfl ?_
  refine wp_seq (w_region ?_)
  refine H.v 18 (.agg #[(.int .u8 0), (.int .u8 0)]) fun a H => ?_
  refine H.store HP 0 b_1 0 2 84 _ true (.agg #[(.int .u8 0), (.int .u8 0)]) [bx b_1 84 [(.int .u8 0), (.int .u8 0)] true] (by kernel_rfl) (by kernel_rfl) (by kernel_rfl) rfl (by kernel_rfl) (by kernel_rfl) (by kernel_rfl) (by kernel_rfl) (by kernel_rfl) fun w_3 a H HP => ?_
  refine H.v 3 (.bool false) fun a H => ?_
  refine wpList_nil (then_normal (wp_ret (then_ret ?_)))
  refine H.ret2 (fn := Tryd.f47) Tryd.results47 (RV.cellN (vs := [(.int .u8 0), (.int .u8 0)]) (b := b_1) (off := 0) (k := 2) (by kernel_rfl) (by kernel_rfl) (by kernel_rfl) rfl (HP.cells 0 rfl 0 2 (by kernel_rfl))) (RV.tmp_ (v := (.bool false)) (by kernel_rfl)) ?_
  exact ⟨by unfold examineP; rw [if_pos (by omega)]; rfl, (HP.below (by kernel_rfl))⟩
 ·have g12p := ne_of_beq_false g12
  refine H.v 13 (.string (bstr l)) fun a H => ?_
  refine H.v 14 (.int .i64 ((l.length : Nat) : Int)) fun a H => ?_
  refine H.valE 15 (.int .i64 (((l.length : Nat) : Int).tmod 64)) (.int .i64 (((l.length : Nat) : Int) % 64)) (by kernel_rfl) (by kernel_rfl) ((by rw [tmod_nn _ _ (by omega)])) fun a H => ?_
  refine H.v 16 (.bool ((((l.length : Nat) : Int) % 64) != 0)) fun a H => ?_
  refine H.v 17 (.bool ((((l.length : Nat) : Int) % 64) != 0)) fun a H => ?_
  refine wpList_nil (then_normal ?_)
  refine w_if H rfl (fun g17 => ?_) (fun g17 => ?_)
  ·have g17p := bne_iff_ne.1 g17
   refine wp_seq (w_region ?_)
   refine H.v 18 (.agg #[(.int .u8 0), (.int .u8 0)]) fun a H => ?_
   refine H.store HP 0 b_1 0 2 84 _ true (.agg #[(.int .u8 0), (.int .u8 0)]) [bx b_1 84 [(.int .u8 0), (.int .u8 0)] true] (by kernel_rfl) (by kernel_rfl) (by kernel_rfl) rfl (by kernel_rfl) (by kernel_rfl) (by kernel_rfl) (by kernel_rfl) (by kernel_rfl) fun w_4 a H HP => ?_
   refine H.v 3 (.bool false) fun a H => ?_
   refine wpList_nil (then_normal (wp_ret (then_ret ?_)))
   refine H.ret2 (fn := Tryd.f47) Tryd.results47 (RV.cellN (vs := [(.int .u8 0), (.int .u8 0)]) (b := b_1) (off := 0) (k := 2) (by kernel_rfl) (by kernel_rfl) (by kernel_rfl) rfl (HP.cells 0 rfl 0 2 (by kernel_rfl))) (RV.tmp_ (v := (.bool false)) (by kernel_rfl)) ?_
   exact ⟨by unfold examineP; rw [if_pos (by omega)]; rfl, (HP.below (by kernel_rfl))⟩
  ·have g17p := eq_of_bne_false g17
   refine wp_skip (then_normal (wp_seq ?_))
   obtain ⟨N, hN⟩ : ∃ N, l.length / 64 = N := ⟨_, rfl⟩
   have hlN : l.length = 64 * N := by omega
   have hb1 := byte_lt (l.getD 1 0)
   have hb2 := byte_lt (l.getD 2 0)
   refine w_region ?_
   refine H.v 19 (.string (bstr l)) fun a H => ?_
   refine H.v 20 (.int .i64 ((l.length : Nat) : Int)) fun a H => ?_
   refine H.valE 21 (.int .i64 (IntKind.i64.wrap (((l.length : Nat) : Int).tdiv 64))) (.int .i64 ((N : Nat) : Int)) (by kernel_rfl) (by kernel_rfl) ((by rw [tdiv_nn _ _ (by omega), wrap_ini64 _ (by omega)]; exact congrArg (Value.int .i64) (by omega))) fun a H => ?_
   refine H.v 4 (.int .i64 ((N : Nat) : Int)) fun a H => ?_
   refine wpList_nil (then_normal (wp_seq ?_))
   refine An.start (fun v => Hp w v [bx b_1 84 [(.int .u8 0), (.int .u8 0)] true] []) 7 8 HP wide_follows rfl fun w_5 HP => ?_
   refine An.p H (.inr HP) 0 22 (.string (bstr l)) fun a H => ?_
   refine An.pure H (.inr (HP)) 1 23 (.int .u8 (((l.getD 1 0).toNat : Nat) : Int)) rfl (by kernel_rfl) (by kernel_rfl) (fun _ _ _ h => h) (fun _ => ex_sindex (k := .i64) (l := l) (i := 1) (m := 1) (by kernel_rfl) (by kernel_rfl) (by kernel_rfl) (by omega) (by omega)) fun a H => ?_
   refine An.p H (.inr HP) 2 24 (.string (bstr l)) fun a H => ?_
   refine An.pure H (.inr (HP)) 3 25 (.int .u8 (((l.getD 2 0).toNat : Nat) : Int)) rfl (by kernel_rfl) (by kernel_rfl) (fun _ _ _ h => h) (fun _ => ex_sindex (k := .i64) (l := l) (i := 2) (m := 2) (by kernel_rfl) (by kernel_rfl) (by kernel_rfl) (by omega) (by omega)) fun a H => ?_
   refine An.pureE H (.inr (HP)) 4 26 (.int .u8 (IntKind.u8.wrap ((((l.getD 2 0).toNat : Nat) : Int).tdiv 16))) (.int .u8 (((l.getD 2 0).toNat / 16 : Nat) : Int)) rfl (by kernel_rfl) (by kernel_rfl) (fun _ _ _ h => h) (fun _ => by kernel_rfl) ((by rw [tdiv_nn _ _ (by omega), wrap_inu8 _ (by omega)]; exact congrArg (Value.int .u8) (by omega))) fun a H => ?_
   refine An.pure H (.inr (HP)) 5 27 (.agg #[(.int .u8 (((l.getD 1 0).toNat : Nat) : Int)), (.int .u8 (((l.getD 2 0).toNat / 16 : Nat) : Int))]) rfl (by kernel_rfl) (by kernel_rfl) (fun _ _ _ h => h) (fun _ => by kernel_rfl) fun a H => ?_
   refine An.one 6 (by kernel_rfl) ?_
   refine Op.alloc H HP 5 (fun b => (.pointer (some ⟨b, 0, none⟩))) 84 [(.int .u8 0), (.int .u8 0)] rfl (by kernel_rfl) (fun w => by kernel_rfl) fun b_6 w_7 a H HP => ?_
   refine ⟨.inr ((HP.tail rfl)), ?_⟩
   refine An.one 7 (by kernel_rfl) ?_
   refine Op.store H HP 0 b_6 0 2 84 [(.int .u8 0), (.int .u8 0)] true (.agg #[(.int .u8 (((l.getD 1 0).toNat : Nat) : Int)), (.int .u8 (((l.getD 2 0).toNat / 16 : Nat) : Int))]) [bx b_6 84 [(.int .u8 (((l.getD 1 0).toNat : Nat) : Int)), (.int .u8 (((l.getD 2 0).toNat / 16 : Nat) : Int))] true, bx b_1 84 [(.int .u8 0), (.int .u8 0)] true] rfl (by kernel_rfl) (by kernel_rfl) (by kernel_rfl) rfl (by kernel_rfl) (by kernel_rfl) (by kernel_rfl) (by kernel_rfl) (by kernel_rfl) fun w_8 a H HP => ?_
   refine ⟨.inl (by kernel_rfl), ?_⟩
   refine An.done (by kernel_rfl) ?_
   refine then_normal (wp_seq (wp_seq (w_region ?_)))
   refine H.v 28 (.int .i64 ((N : Nat) : Int)) fun a H => ?_
   refine H.v 29 (.int .i64 0) fun a H => ?_
   refine wpList_nil (then_normal (wp_block ?_))
   refine w_loop (fun mm a wv => ∃ (j : Nat), N - j = mm ∧ Sl 81 [(29, (.int .i64 ((j : Nat) : Int))), (28, (.int .i64 ((N : Nat) : Int))), (4, (.int .i64 ((N : Nat) : Int))), (5, (.pointer (some ⟨b_6, 0, none⟩))), (2, (.pointer (some ⟨b_1, 0, none⟩))), (0, (.string (bstr l))), (3, (.bool false))] a ∧ Hp w wv [bx b_6 84 [(.int .u8 (((l.getD 1 0).toNat : Nat) : Int)), (.int .u8 (((l.getD 2 0).toNat / 16 : Nat) : Int))] true, bx b_1 84 [(.int .u8 0), (.int .u8 0)] true] [] ∧ (j ≤ N) ∧ (exOk l N j = true)) (N - 0) ?_ ?_
   ·exact ⟨0, (by omega), H.keep (by kernel_rfl), HP, by omega, rfl⟩
   rintro mm a w_9 ⟨j, hmeas, H, HP, hj, hex⟩
   refine wp_seq (w_region ?_)
   refine H.v 30 (.bool (decide (((j : Nat) : Int) < ((N : Nat) : Int)))) fun a H => ?_
   refine wpList_nil (then_normal (wp_seq ?_))
   refine w_if H rfl (fun g30 => ?_) (fun g30 => ?_)
   ·have g30p := of_decide_eq_true g30
    refine wp_skip (then_normal (wp_seq (wp_block (wp_seq (w_region ?_)))))
    refine H.v 31 (.int .i64 ((j : Nat) : Int)) fun a H => ?_
    refine H.v 6 (.int .i64 ((j : Nat) : Int)) fun a H => ?_
    refine wpList_nil (then_normal (wp_seq (w_region ?_)))
    refine H.v 32 (.string (bstr l)) fun a H => ?_
    refine H.v 33 (.int .i64 ((j : Nat) : Int)) fun a H => ?_
    refine H.valE 34 (.int .i64 (IntKind.i64.wrap (((j : Nat) : Int) * 64))) (.int .i64 ((64 * j : Nat) : Int)) (by kernel_rfl) (by kernel_rfl) ((by rw [wrap_ini64 _ (by omega)]; exact congrArg (Value.int .i64) (by omega))) fun a H => ?_
    refine H.u 35 (.string (bstr (l.drop (64 * j)))) (ex_ssliceL (k := .i64) (l := l) (i := ((64 * j : Nat) : Int)) (a := (64 * j)) (by kernel_rfl) (by kernel_rfl) (by kernel_rfl) (by omega) (by omega)) fun a H => ?_
    refine H.v 7 (.string (bstr (l.drop (64 * j)))) fun a H => ?_
    refine wpList_nil ?_
    obtain ⟨p, hp⟩ : ∃ p, l.drop (64 * j) = p := ⟨_, rfl⟩
    have hpl : 64 ≤ p.length := by rw [← hp, List.length_drop]; omega
    have hp0 : (p.getD 0 0).toNat = (l.getD (64 * j + 0) 0).toNat := by rw [← hp, dropGetD]
    have hpb0 := byte_lt (p.getD 0 0)
    have hp1 : (p.getD 1 0).toNat = (l.getD (64 * j + 1) 0).toNat := by rw [← hp, dropGetD]
    have hpb1 := byte_lt (p.getD 1 0)
    have hp2 : (p.getD 2 0).toNat = (l.getD (64 * j + 2) 0).toNat := by rw [← hp, dropGetD]
    have hpb2 := byte_lt (p.getD 2 0)
    have hp3 : (p.getD 3 0).toNat = (l.getD (64 * j + 3) 0).toNat := by rw [← hp, dropGetD]
    have hpb3 := byte_lt (p.getD 3 0)
    rw [hp] at H
    have H := H.keep (L' := [(7, (.string (bstr p))), (6, (.int .i64 ((j : Nat) : Int))), (29, (.int .i64 ((j : Nat) : Int))), (28, (.int .i64 ((N : Nat) : Int))), (4, (.int .i64 ((N : Nat) : Int))), (5, (.pointer (some ⟨b_6, 0, none⟩))), (2, (.pointer (some ⟨b_1, 0, none⟩))), (0, (.string (bstr l))), (3, (.bool false))]) (by kernel_rfl)
    refine then_normal (wp_seq (w_region ?_))
    refine H.v 8 (.int .u8 0) fun a H => ?_
    refine wpList_nil (then_normal (wp_seq (wp_seq (w_region ?_))))
    refine H.v 36 (.int .i64 ((j : Nat) : Int)) fun a H => ?_
    refine H.v 37 (.bool (((j : Nat) : Int) == 0)) fun a H => ?_
    refine wpList_nil (then_normal ?_)
    refine w_if H rfl (fun g37 => ?_) (fun g37 => ?_)
    ·have g37p := eq_of_beq g37
     refine w_region ?_
     refine H.v 38 (.int .u8 0) fun a H => ?_
     refine H.valE 39 (.int .u8 (bits .or .u8 0 1)) (.int .u8 1) (by kernel_rfl) (by kernel_rfl) (by kernel_rfl) fun a H => ?_
     refine H.v 8 (.int .u8 1) fun a H => ?_
     refine wpList_nil (then_normal ?_)
     refine w_cut (fun a wv => ∃ (fl : Nat), Sl 81 [(8, (.int .u8 ((fl : Nat) : Int))), (29, (.int .i64 ((j : Nat) : Int))), (28, (.int .i64 ((N : Nat) : Int))), (4, (.int .i64 ((N : Nat) : Int))), (5, (.pointer (some ⟨b_6, 0, none⟩))), (2, (.pointer (some ⟨b_1, 0, none⟩))), (0, (.string (bstr l))), (3, (.bool false)), (6, (.int .i64 ((j : Nat) : Int))), (7, (.string (bstr p)))] a ∧ Hp w wv [bx b_6 84 [(.int .u8 (((l.getD 1 0).toNat : Nat) : Int)), (.int .u8 (((l.getD 2 0).toNat / 16 : Nat) : Int))] true, bx b_1 84 [(.int .u8 0), (.int .u8 0)] true] [] ∧ (fl = flagsP N j) ∧ (fl < 256)) ?_ ?_
     ·
      refine wp_seq (w_region ?_)
      refine H.v 40 (.int .i64 ((j : Nat) : Int)) fun a H => ?_
      refine H.v 41 (.int .i64 ((N : Nat) : Int)) fun a H => ?_
      refine H.valE 42 (.int .i64 (IntKind.i64.wrap (((N : Nat) : Int) - 1))) (.int .i64 (((N : Nat) : Int) - 1)) (by kernel_rfl) (by kernel_rfl) ((by rw [wrap_ini64 _ (by omega)])) fun a H => ?_
      refine H.v 43 (.bool (((j : Nat) : Int) == (((N : Nat) : Int) - 1))) fun a H => ?_
      refine wpList_nil (then_normal ?_)
      refine w_if H rfl (fun g43 => ?_) (fun g43 => ?_)
      ·have g43p := eq_of_beq g43
       refine w_region ?_
       refine H.v 44 (.int .u8 1) fun a H => ?_
       refine H.valE 45 (.int .u8 (bits .or .u8 1 2)) (.int .u8 3) (by kernel_rfl) (by kernel_rfl) (by kernel_rfl) fun a H => ?_
       refine H.v 8 (.int .u8 3) fun a H => ?_
       refine wpList_nil (then_normal ?_)
       exact ⟨3, H.keep (by kernel_rfl), HP, (by unfold flagsP; rw [if_pos (by omega), if_pos (by omega)]), (by omega)⟩
      ·have g43p := ne_of_beq_false g43
       refine wp_skip (then_normal ?_)
       exact ⟨1, H.keep (by kernel_rfl), HP, (by unfold flagsP; rw [if_pos (by omega), if_neg (by omega)]), (by omega)⟩
     ·
      rintro a w_10 ⟨fl, H, HP, hfl, hflb⟩
      refine wp_seq (wp_seq ?_)
      refine An.start (fun v => Hp w v [bx b_6 84 [(.int .u8 (((l.getD 1 0).toNat : Nat) : Int)), (.int .u8 (((l.getD 2 0).toNat / 16 : Nat) : Int))] true, bx b_1 84 [(.int .u8 0), (.int .u8 0)] true] []) 16 16 HP wide_follows rfl fun w_11 HP => ?_
      refine An.p H (.inr HP) 0 46 (.string (bstr p)) fun a H => ?_
      refine An.pure H (.inr (HP)) 1 47 (.int .u8 (((p.getD 0 0).toNat : Nat) : Int)) rfl (by kernel_rfl) (by kernel_rfl) (fun _ _ _ h => h) (fun _ => ex_sindex (k := .i64) (l := p) (i := 0) (m := 0) (by kernel_rfl) (by kernel_rfl) (by kernel_rfl) (by omega) (by omega)) fun a H => ?_
      refine An.p H (.inr HP) 2 48 (.bool ((((p.getD 0 0).toNat : Nat) : Int) != 71)) fun a H => ?_
      refine An.p H (.inr HP) 3 49 (.bool ((((p.getD 0 0).toNat : Nat) : Int) != 71)) fun a H => ?_
      refine H.split 49 rfl (fun g49 H => ?_) (fun g49 H => ?_)
      ·have g49p := bne_iff_ne.1 g49
       refine An.s H (.inr HP) 4 50 fun a H => ?_
       refine An.s H (.inr HP) 5 51 fun a H => ?_
       refine An.s H (.inr HP) 6 52 fun a H => ?_
       refine An.s H (.inr HP) 7 53 fun a H => ?_
       refine An.s H (.inr HP) 8 54 fun a H => ?_
       refine An.p H (.inr HP) 9 55 (.bool true) fun a H => ?_
       refine An.p H (.inr HP) 10 56 (.bool true) fun a H => ?_
       refine An.s H (.inr HP) 11 57 fun a H => ?_
       refine An.s H (.inr HP) 12 58 fun a H => ?_
       refine An.s H (.inr HP) 13 59 fun a H => ?_
       refine An.s H (.inr HP) 14 60 fun a H => ?_
       refine An.p H (.inr HP) 15 61 (.bool true) fun a H => ?_
       refine An.done (by kernel_rfl) ?_
       have H := H.keep (L' := [(61, (.bool true)), (8, (.int .u8 ((fl : Nat) : Int))), (29, (.int .i64 ((j : Nat) : Int))), (28, (.int .i64 ((N : Nat) : Int))), (4, (.int .i64 ((N : Nat) : Int))), (5, (.pointer (some ⟨b_6, 0, none⟩))), (2, (.pointer (some ⟨b_1, 0, none⟩))), (0, (.string (bstr l))), (3, (.bool false)), (6, (.int .i64 ((j : Nat) : Int))), (7, (.string (bstr p)))]) (by kernel_rfl)
       refine then_normal ?_
       refine w_ift H rfl ?_
       refine wp_seq (w_region ?_)
       refine H.v 62 (.agg #[(.int .u8 0), (.int .u8 0)]) fun a H => ?_
       refine H.store HP 1 b_1 0 2 84 _ true (.agg #[(.int .u8 0), (.int .u8 0)]) [bx b_6 84 [(.int .u8 (((l.getD 1 0).toNat : Nat) : Int)), (.int .u8 (((l.getD 2 0).toNat / 16 : Nat) : Int))] true, bx b_1 84 [(.int .u8 0), (.int .u8 0)] true] (by kernel_rfl) (by kernel_rfl) (by kernel_rfl) rfl (by kernel_rfl) (by kernel_rfl) (by kernel_rfl) (by kernel_rfl) (by kernel_rfl) fun w_12 a H HP => ?_
       refine H.v 3 (.bool false) fun a H => ?_
       refine wpList_nil (then_normal (wp_ret (then_ret (inb_ret (then_ret (then_ret (inb_ret (then_ret ?_))))))))
       refine H.ret2 (fn := Tryd.f47) Tryd.results47 (RV.cellN (vs := [(.int .u8 0), (.int .u8 0)]) (b := b_1) (off := 0) (k := 2) (by kernel_rfl) (by kernel_rfl) (by kernel_rfl) rfl (HP.cells 1 rfl 0 2 (by kernel_rfl))) (RV.tmp_ (v := (.bool false)) (by kernel_rfl)) ?_
       exact ⟨by unfold examineP; rw [hN, if_pos (.inr (.inr (exOk_no (j := j) (by omega) (decide_eq_false (by omega)))))]; rfl, (HP.below (by kernel_rfl))⟩
      ·have g49p := eq_of_bne_false g49
       refine An.p H (.inr HP) 4 50 (.string (bstr p)) fun a H => ?_
       refine An.pure H (.inr (HP)) 5 51 (.int .u8 (((p.getD 1 0).toNat : Nat) : Int)) rfl (by kernel_rfl) (by kernel_rfl) (fun _ _ _ h => h) (fun _ => ex_sindex (k := .i64) (l := p) (i := 1) (m := 1) (by kernel_rfl) (by kernel_rfl) (by kernel_rfl) (by omega) (by omega)) fun a H => ?_
       refine An.p H (.inr HP) 6 52 (.pointer (some ⟨b_6, 0, none⟩)) fun a H => ?_
       refine An.val H (HP) 7 53 (.int .u8 (((l.getD 1 0).toNat : Nat) : Int)) rfl (by kernel_rfl) (by kernel_rfl) (fun _ _ _ h => h) (fun _ hS => ex_load1 (by kernel_rfl) (by kernel_rfl) (hS.cell 0 rfl 0 rfl)) fun a H => ?_
       refine An.p H (.inr HP) 8 54 (.bool ((((p.getD 1 0).toNat : Nat) : Int) != (((l.getD 1 0).toNat : Nat) : Int))) fun a H => ?_
       refine An.p H (.inr HP) 9 55 (.bool ((((p.getD 1 0).toNat : Nat) : Int) != (((l.getD 1 0).toNat : Nat) : Int))) fun a H => ?_
       refine An.p H (.inr HP) 10 56 (.bool ((((p.getD 1 0).toNat : Nat) : Int) != (((l.getD 1 0).toNat : Nat) : Int))) fun a H => ?_
       refine H.split 56 rfl (fun g56 H => ?_) (fun g56 H => ?_)
       ·have g56p := bne_iff_ne.1 g56
        refine An.s H (.inr HP) 11 57 fun a H => ?_
        refine An.s H (.inr HP) 12 58 fun a H => ?_
        refine An.s H (.inr HP) 13 59 fun a H => ?_
        refine An.s H (.inr HP) 14 60 fun a H => ?_
        refine An.p H (.inr HP) 15 61 (.bool true) fun a H => ?_
        refine An.done (by kernel_rfl) ?_
        have H := H.keep (L' := [(61, (.bool true)), (8, (.int .u8 ((fl : Nat) : Int))), (29, (.int .i64 ((j : Nat) : Int))), (28, (.int .i64 ((N : Nat) : Int))), (4, (.int .i64 ((N : Nat) : Int))), (5, (.pointer (some ⟨b_6, 0, none⟩))), (2, (.pointer (some ⟨b_1, 0, none⟩))), (0, (.string (bstr l))), (3, (.bool false)), (6, (.int .i64 ((j : Nat) : Int))), (7, (.string (bstr p)))]) (by kernel_rfl)
        refine then_normal ?_
        refine w_ift H rfl ?_
        refine wp_seq (w_region ?_)
        refine H.v 62 (.agg #[(.int .u8 0), (.int .u8 0)]) fun a H => ?_
        refine H.store HP 1 b_1 0 2 84 _ true (.agg #[(.int .u8 0), (.int .u8 0)]) [bx b_6 84 [(.int .u8 (((l.getD 1 0).toNat : Nat) : Int)), (.int .u8 (((l.getD 2 0).toNat / 16 : Nat) : Int))] true, bx b_1 84 [(.int .u8 0), (.int .u8 0)] true] (by kernel_rfl) (by kernel_rfl) (by kernel_rfl) rfl (by kernel_rfl) (by kernel_rfl) (by kernel_rfl) (by kernel_rfl) (by kernel_rfl) fun w_13 a H HP => ?_
        refine H.v 3 (.bool false) fun a H => ?_
        refine wpList_nil (then_normal (wp_ret (then_ret (inb_ret (then_ret (then_ret (inb_ret (then_ret ?_))))))))
        refine H.ret2 (fn := Tryd.f47) Tryd.results47 (RV.cellN (vs := [(.int .u8 0), (.int .u8 0)]) (b := b_1) (off := 0) (k := 2) (by kernel_rfl) (by kernel_rfl) (by kernel_rfl) rfl (HP.cells 1 rfl 0 2 (by kernel_rfl))) (RV.tmp_ (v := (.bool false)) (by kernel_rfl)) ?_
        exact ⟨by unfold examineP; rw [hN, if_pos (.inr (.inr (exOk_no (j := j) (by omega) (decide_eq_false (by omega)))))]; rfl, (HP.below (by kernel_rfl))⟩
       ·have g56p := eq_of_bne_false g56
        refine An.p H (.inr HP) 11 57 (.string (bstr p)) fun a H => ?_
        refine An.pure H (.inr (HP)) 12 58 (.int .u8 (((p.getD 3 0).toNat : Nat) : Int)) rfl (by kernel_rfl) (by kernel_rfl) (fun _ _ _ h => h) (fun _ => ex_sindex (k := .i64) (l := p) (i := 3) (m := 3) (by kernel_rfl) (by kernel_rfl) (by kernel_rfl) (by omega) (by omega)) fun a H => ?_
        refine An.p H (.inr HP) 13 59 (.int .u8 ((fl : Nat) : Int)) fun a H => ?_
        refine An.p H (.inr HP) 14 60 (.bool ((((p.getD 3 0).toNat : Nat) : Int) != ((fl : Nat) : Int))) fun a H => ?_
        refine An.p H (.inr HP) 15 61 (.bool ((((p.getD 3 0).toNat : Nat) : Int) != ((fl : Nat) : Int))) fun a H => ?_
        refine An.done (by kernel_rfl) ?_
        have H := H.keep (L' := [(61, (.bool ((((p.getD 3 0).toNat : Nat) : Int) != ((fl : Nat) : Int)))), (8, (.int .u8 ((fl : Nat) : Int))), (29, (.int .i64 ((j : Nat) : Int))), (28, (.int .i64 ((N : Nat) : Int))), (4, (.int .i64 ((N : Nat) : Int))), (5, (.pointer (some ⟨b_6, 0, none⟩))), (2, (.pointer (some ⟨b_1, 0, none⟩))), (0, (.string (bstr l))), (3, (.bool false)), (6, (.int .i64 ((j : Nat) : Int))), (7, (.string (bstr p)))]) (by kernel_rfl)
        refine then_normal ?_
        refine w_if H rfl (fun g61 => ?_) (fun g61 => ?_)
        ·have g61p := bne_iff_ne.1 g61
         refine wp_seq (w_region ?_)
         refine H.v 62 (.agg #[(.int .u8 0), (.int .u8 0)]) fun a H => ?_
         refine H.store HP 1 b_1 0 2 84 _ true (.agg #[(.int .u8 0), (.int .u8 0)]) [bx b_6 84 [(.int .u8 (((l.getD 1 0).toNat : Nat) : Int)), (.int .u8 (((l.getD 2 0).toNat / 16 : Nat) : Int))] true, bx b_1 84 [(.int .u8 0), (.int .u8 0)] true] (by kernel_rfl) (by kernel_rfl) (by kernel_rfl) rfl (by kernel_rfl) (by kernel_rfl) (by kernel_rfl) (by kernel_rfl) (by kernel_rfl) fun w_14 a H HP => ?_
         refine H.v 3 (.bool false) fun a H => ?_
         refine wpList_nil (then_normal (wp_ret (then_ret (inb_ret (then_ret (then_ret (inb_ret (then_ret ?_))))))))
         refine H.ret2 (fn := Tryd.f47) Tryd.results47 (RV.cellN (vs := [(.int .u8 0), (.int .u8 0)]) (b := b_1) (off := 0) (k := 2) (by kernel_rfl) (by kernel_rfl) (by kernel_rfl) rfl (HP.cells 1 rfl 0 2 (by kernel_rfl))) (RV.tmp_ (v := (.bool false)) (by kernel_rfl)) ?_
         exact ⟨by unfold examineP; rw [hN, if_pos (.inr (.inr (exOk_no (j := j) (by omega) (decide_eq_false (by omega)))))]; rfl, (HP.below (by kernel_rfl))⟩
        ·have g61p := eq_of_bne_false g61
         refine wp_skip (then_normal (wp_seq ?_))
         refine An.start (fun v => Hp w v [bx b_6 84 [(.int .u8 (((l.getD 1 0).toNat : Nat) : Int)), (.int .u8 (((l.getD 2 0).toNat / 16 : Nat) : Int))] true, bx b_1 84 [(.int .u8 0), (.int .u8 0)] true] []) 15 15 HP wide_follows rfl fun w_15 HP => ?_
         refine An.p H (.inr HP) 0 63 (.string (bstr p)) fun a H => ?_
         refine An.pure H (.inr (HP)) 1 64 (.int .u8 (((p.getD 2 0).toNat : Nat) : Int)) rfl (by kernel_rfl) (by kernel_rfl) (fun _ _ _ h => h) (fun _ => ex_sindex (k := .i64) (l := p) (i := 2) (m := 2) (by kernel_rfl) (by kernel_rfl) (by kernel_rfl) (by omega) (by omega)) fun a H => ?_
         refine An.pureE H (.inr (HP)) 2 65 (.int .u8 (IntKind.u8.wrap ((((p.getD 2 0).toNat : Nat) : Int).tdiv 16))) (.int .u8 (((p.getD 2 0).toNat / 16 : Nat) : Int)) rfl (by kernel_rfl) (by kernel_rfl) (fun _ _ _ h => h) (fun _ => by kernel_rfl) ((by rw [tdiv_nn _ _ (by omega), wrap_inu8 _ (by omega)]; exact congrArg (Value.int .u8) (by omega))) fun a H => ?_
         refine An.p H (.inr HP) 3 66 (.pointer (some ⟨b_6, 1, none⟩)) fun a H => ?_
         refine An.val H (HP) 4 67 (.int .u8 (((l.getD 2 0).toNat / 16 : Nat) : Int)) rfl (by kernel_rfl) (by kernel_rfl) (fun _ _ _ h => h) (fun _ hS => ex_load1 (by kernel_rfl) (by kernel_rfl) (hS.cell 0 rfl 1 rfl)) fun a H => ?_
         refine An.p H (.inr HP) 5 68 (.bool ((((p.getD 2 0).toNat / 16 : Nat) : Int) != (((l.getD 2 0).toNat / 16 : Nat) : Int))) fun a H => ?_
         refine An.p H (.inr HP) 6 69 (.bool ((((p.getD 2 0).toNat / 16 : Nat) : Int) != (((l.getD 2 0).toNat / 16 : Nat) : Int))) fun a H => ?_
         refine H.split 69 rfl (fun g69 H => ?_) (fun g69 H => ?_)
         ·have g69p := bne_iff_ne.1 g69
          refine An.s H (.inr HP) 7 70 fun a H => ?_
          refine An.s H (.inr HP) 8 71 fun a H => ?_
          refine An.s H (.inr HP) 9 72 fun a H => ?_
          refine An.s H (.inr HP) 10 73 fun a H => ?_
          refine An.s H (.inr HP) 11 74 fun a H => ?_
          refine An.s H (.inr HP) 12 75 fun a H => ?_
          refine An.s H (.inr HP) 13 76 fun a H => ?_
          refine An.p H (.inr HP) 14 77 (.bool true) fun a H => ?_
          refine An.done (by kernel_rfl) ?_
          have H := H.keep (L' := [(77, (.bool true)), (61, (.bool ((((p.getD 3 0).toNat : Nat) : Int) != ((fl : Nat) : Int)))), (8, (.int .u8 ((fl : Nat) : Int))), (29, (.int .i64 ((j : Nat) : Int))), (28, (.int .i64 ((N : Nat) : Int))), (4, (.int .i64 ((N : Nat) : Int))), (5, (.pointer (some ⟨b_6, 0, none⟩))), (2, (.pointer (some ⟨b_1, 0, none⟩))), (0, (.string (bstr l))), (3, (.bool false)), (6, (.int .i64 ((j : Nat) : Int))), (7, (.string (bstr p)))]) (by kernel_rfl)
          refine then_normal ?_
          refine w_ift H rfl ?_
          refine wp_seq (w_region ?_)
          refine H.v 78 (.agg #[(.int .u8 0), (.int .u8 0)]) fun a H => ?_
          refine H.store HP 1 b_1 0 2 84 _ true (.agg #[(.int .u8 0), (.int .u8 0)]) [bx b_6 84 [(.int .u8 (((l.getD 1 0).toNat : Nat) : Int)), (.int .u8 (((l.getD 2 0).toNat / 16 : Nat) : Int))] true, bx b_1 84 [(.int .u8 0), (.int .u8 0)] true] (by kernel_rfl) (by kernel_rfl) (by kernel_rfl) rfl (by kernel_rfl) (by kernel_rfl) (by kernel_rfl) (by kernel_rfl) (by kernel_rfl) fun w_16 a H HP => ?_
          refine H.v 3 (.bool false) fun a H => ?_
          refine wpList_nil (then_normal (wp_ret (inb_ret (then_ret (then_ret (inb_ret (then_ret ?_)))))))
          refine H.ret2 (fn := Tryd.f47) Tryd.results47 (RV.cellN (vs := [(.int .u8 0), (.int .u8 0)]) (b := b_1) (off := 0) (k := 2) (by kernel_rfl) (by kernel_rfl) (by kernel_rfl) rfl (HP.cells 1 rfl 0 2 (by kernel_rfl))) (RV.tmp_ (v := (.bool false)) (by kernel_rfl)) ?_
          exact ⟨by unfold examineP; rw [hN, if_pos (.inr (.inr (exOk_no (j := j) (by omega) (decide_eq_false (by omega)))))]; rfl, (HP.below (by kernel_rfl))⟩
         ·have g69p := eq_of_bne_false g69
          refine An.p H (.inr HP) 7 70 (.string (bstr p)) fun a H => ?_
          refine An.pure H (.inr (HP)) 8 71 (.int .u8 (((p.getD 2 0).toNat : Nat) : Int)) rfl (by kernel_rfl) (by kernel_rfl) (fun _ _ _ h => h) (fun _ => ex_sindex (k := .i64) (l := p) (i := 2) (m := 2) (by kernel_rfl) (by kernel_rfl) (by kernel_rfl) (by omega) (by omega)) fun a H => ?_
          refine An.pureE H (.inr (HP)) 9 72 (.int .u8 ((((p.getD 2 0).toNat : Nat) : Int).tmod 16)) (.int .u8 (((p.getD 2 0).toNat % 16 : Nat) : Int)) rfl (by kernel_rfl) (by kernel_rfl) (fun _ _ _ h => h) (fun _ => by kernel_rfl) ((by rw [tmod_nn _ _ (by omega)]; exact congrArg (Value.int .u8) (by omega))) fun a H => ?_
          refine An.pureE H (.inr (HP)) 10 73 (.int .i64 (IntKind.i64.wrap (((p.getD 2 0).toNat % 16 : Nat) : Int))) (.int .i64 (((p.getD 2 0).toNat % 16 : Nat) : Int)) rfl (by kernel_rfl) (by kernel_rfl) (fun _ _ _ h => h) (fun _ => by kernel_rfl) ((by rw [wrap_ini64 _ (by omega)])) fun a H => ?_
          refine An.p H (.inr HP) 11 74 (.int .i64 ((j : Nat) : Int)) fun a H => ?_
          refine An.pureE H (.inr (HP)) 12 75 (.int .i64 (((j : Nat) : Int).tmod 16)) (.int .i64 ((j % 16 : Nat) : Int)) rfl (by kernel_rfl) (by kernel_rfl) (fun _ _ _ h => h) (fun _ => by kernel_rfl) ((by rw [tmod_nn _ _ (by omega)]; exact congrArg (Value.int .i64) (by omega))) fun a H => ?_
          refine An.p H (.inr HP) 13 76 (.bool ((((p.getD 2 0).toNat % 16 : Nat) : Int) != ((j % 16 : Nat) : Int))) fun a H => ?_
          refine An.p H (.inr HP) 14 77 (.bool ((((p.getD 2 0).toNat % 16 : Nat) : Int) != ((j % 16 : Nat) : Int))) fun a H => ?_
          refine An.done (by kernel_rfl) ?_
          have H := H.keep (L' := [(77, (.bool ((((p.getD 2 0).toNat % 16 : Nat) : Int) != ((j % 16 : Nat) : Int)))), (61, (.bool ((((p.getD 3 0).toNat : Nat) : Int) != ((fl : Nat) : Int)))), (8, (.int .u8 ((fl : Nat) : Int))), (29, (.int .i64 ((j : Nat) : Int))), (28, (.int .i64 ((N : Nat) : Int))), (4, (.int .i64 ((N : Nat) : Int))), (5, (.pointer (some ⟨b_6, 0, none⟩))), (2, (.pointer (some ⟨b_1, 0, none⟩))), (0, (.string (bstr l))), (3, (.bool false)), (6, (.int .i64 ((j : Nat) : Int))), (7, (.string (bstr p)))]) (by kernel_rfl)
          refine then_normal ?_
          refine w_if H rfl (fun g77 => ?_) (fun g77 => ?_)
          ·have g77p := bne_iff_ne.1 g77
           refine wp_seq (w_region ?_)
           refine H.v 78 (.agg #[(.int .u8 0), (.int .u8 0)]) fun a H => ?_
           refine H.store HP 1 b_1 0 2 84 _ true (.agg #[(.int .u8 0), (.int .u8 0)]) [bx b_6 84 [(.int .u8 (((l.getD 1 0).toNat : Nat) : Int)), (.int .u8 (((l.getD 2 0).toNat / 16 : Nat) : Int))] true, bx b_1 84 [(.int .u8 0), (.int .u8 0)] true] (by kernel_rfl) (by kernel_rfl) (by kernel_rfl) rfl (by kernel_rfl) (by kernel_rfl) (by kernel_rfl) (by kernel_rfl) (by kernel_rfl) fun w_17 a H HP => ?_
           refine H.v 3 (.bool false) fun a H => ?_
           refine wpList_nil (then_normal (wp_ret (inb_ret (then_ret (then_ret (inb_ret (then_ret ?_)))))))
           refine H.ret2 (fn := Tryd.f47) Tryd.results47 (RV.cellN (vs := [(.int .u8 0), (.int .u8 0)]) (b := b_1) (off := 0) (k := 2) (by kernel_rfl) (by kernel_rfl) (by kernel_rfl) rfl (HP.cells 1 rfl 0 2 (by kernel_rfl))) (RV.tmp_ (v := (.bool false)) (by kernel_rfl)) ?_
           exact ⟨by unfold examineP; rw [hN, if_pos (.inr (.inr (exOk_no (j := j) (by omega) (decide_eq_false (by omega)))))]; rfl, (HP.below (by kernel_rfl))⟩
          ·have g77p := eq_of_bne_false g77
           refine wp_skip (inb_normal (then_normal (w_region ?_)))
           refine H.valE 79 (.int .i64 (IntKind.i64.wrap (((j : Nat) : Int) + 1))) (.int .i64 (((j : Nat) : Int) + 1)) (by kernel_rfl) (by kernel_rfl) ((by rw [wrap_ini64 _ (by omega)])) fun a H => ?_
           refine H.v 29 (.int .i64 (((j : Nat) : Int) + 1)) fun a H => ?_
           refine wpList_nil (then_normal ?_)
           have H := H.as 29 (.int .i64 ((j + 1 : Nat) : Int)) rfl rfl
           refine ⟨_, ?_, j + 1, rfl, H.keep (by kernel_rfl), HP, by omega, exOk_succ hex (decide_eq_true (by omega))⟩
           omega
    ·have g37p := ne_of_beq_false g37
     refine wp_skip (then_normal ?_)
     refine w_cut (fun a wv => ∃ (fl : Nat), Sl 81 [(8, (.int .u8 ((fl : Nat) : Int))), (29, (.int .i64 ((j : Nat) : Int))), (28, (.int .i64 ((N : Nat) : Int))), (4, (.int .i64 ((N : Nat) : Int))), (5, (.pointer (some ⟨b_6, 0, none⟩))), (2, (.pointer (some ⟨b_1, 0, none⟩))), (0, (.string (bstr l))), (3, (.bool false)), (6, (.int .i64 ((j : Nat) : Int))), (7, (.string (bstr p)))] a ∧ Hp w wv [bx b_6 84 [(.int .u8 (((l.getD 1 0).toNat : Nat) : Int)), (.int .u8 (((l.getD 2 0).toNat / 16 : Nat) : Int))] true, bx b_1 84 [(.int .u8 0), (.int .u8 0)] true] [] ∧ (fl = flagsP N j) ∧ (fl < 256)) ?_ ?_
     ·
      refine wp_seq (w_region ?_)
      refine H.v 40 (.int .i64 ((j : Nat) : Int)) fun a H => ?_
      refine H.v 41 (.int .i64 ((N : Nat) : Int)) fun a H => ?_
      refine H.valE 42 (.int .i64 (IntKind.i64.wrap (((N : Nat) : Int) - 1))) (.int .i64 (((N : Nat) : Int) - 1)) (by kernel_rfl) (by kernel_rfl) ((by rw [wrap_ini64 _ (by omega)])) fun a H => ?_
      refine H.v 43 (.bool (((j : Nat) : Int) == (((N : Nat) : Int) - 1))) fun a H => ?_
      refine wpList_nil (then_normal ?_)
      refine w_if H rfl (fun g43 => ?_) (fun g43 => ?_)
      ·have g43p := eq_of_beq g43
       refine w_region ?_
       refine H.v 44 (.int .u8 0) fun a H => ?_
       refine H.valE 45 (.int .u8 (bits .or .u8 0 2)) (.int .u8 2) (by kernel_rfl) (by kernel_rfl) (by kernel_rfl) fun a H => ?_
       refine H.v 8 (.int .u8 2) fun a H => ?_
       refine wpList_nil (then_normal ?_)
       exact ⟨2, H.keep (by kernel_rfl), HP, (by unfold flagsP; rw [if_neg (by omega), if_pos (by omega)]), (by omega)⟩
      ·have g43p := ne_of_beq_false g43
       refine wp_skip (then_normal ?_)
       exact ⟨0, H.keep (by kernel_rfl), HP, (by unfold flagsP; rw [if_neg (by omega), if_neg (by omega)]), (by omega)⟩
     ·
      rintro a w_18 ⟨fl, H, HP, hfl, hflb⟩
      refine wp_seq (wp_seq ?_)
      refine An.start (fun v => Hp w v [bx b_6 84 [(.int .u8 (((l.getD 1 0).toNat : Nat) : Int)), (.int .u8 (((l.getD 2 0).toNat / 16 : Nat) : Int))] true, bx b_1 84 [(.int .u8 0), (.int .u8 0)] true] []) 16 16 HP wide_follows rfl fun w_19 HP => ?_
      refine An.p H (.inr HP) 0 46 (.string (bstr p)) fun a H => ?_
      refine An.pure H (.inr (HP)) 1 47 (.int .u8 (((p.getD 0 0).toNat : Nat) : Int)) rfl (by kernel_rfl) (by kernel_rfl) (fun _ _ _ h => h) (fun _ => ex_sindex (k := .i64) (l := p) (i := 0) (m := 0) (by kernel_rfl) (by kernel_rfl) (by kernel_rfl) (by omega) (by omega)) fun a H => ?_
      refine An.p H (.inr HP) 2 48 (.bool ((((p.getD 0 0).toNat : Nat) : Int) != 71)) fun a H => ?_
      refine An.p H (.inr HP) 3 49 (.bool ((((p.getD 0 0).toNat : Nat) : Int) != 71)) fun a H => ?_
      refine H.split 49 rfl (fun g49 H => ?_) (fun g49 H => ?_)
      ·have g49p := bne_iff_ne.1 g49
       refine An.s H (.inr HP) 4 50 fun a H => ?_
       refine An.s H (.inr HP) 5 51 fun a H => ?_
       refine An.s H (.inr HP) 6 52 fun a H => ?_
       refine An.s H (.inr HP) 7 53 fun a H => ?_
       refine An.s H (.inr HP) 8 54 fun a H => ?_
       refine An.p H (.inr HP) 9 55 (.bool true) fun a H => ?_
       refine An.p H (.inr HP) 10 56 (.bool true) fun a H => ?_
       refine An.s H (.inr HP) 11 57 fun a H => ?_
       refine An.s H (.inr HP) 12 58 fun a H => ?_
       refine An.s H (.inr HP) 13 59 fun a H => ?_
       refine An.s H (.inr HP) 14 60 fun a H => ?_
       refine An.p H (.inr HP) 15 61 (.bool true) fun a H => ?_
       refine An.done (by kernel_rfl) ?_
       have H := H.keep (L' := [(61, (.bool true)), (8, (.int .u8 ((fl : Nat) : Int))), (29, (.int .i64 ((j : Nat) : Int))), (28, (.int .i64 ((N : Nat) : Int))), (4, (.int .i64 ((N : Nat) : Int))), (5, (.pointer (some ⟨b_6, 0, none⟩))), (2, (.pointer (some ⟨b_1, 0, none⟩))), (0, (.string (bstr l))), (3, (.bool false)), (6, (.int .i64 ((j : Nat) : Int))), (7, (.string (bstr p)))]) (by kernel_rfl)
       refine then_normal ?_
       refine w_ift H rfl ?_
       refine wp_seq (w_region ?_)
       refine H.v 62 (.agg #[(.int .u8 0), (.int .u8 0)]) fun a H => ?_
       refine H.store HP 1 b_1 0 2 84 _ true (.agg #[(.int .u8 0), (.int .u8 0)]) [bx b_6 84 [(.int .u8 (((l.getD 1 0).toNat : Nat) : Int)), (.int .u8 (((l.getD 2 0).toNat / 16 : Nat) : Int))] true, bx b_1 84 [(.int .u8 0), (.int .u8 0)] true] (by kernel_rfl) (by kernel_rfl) (by kernel_rfl) rfl (by kernel_rfl) (by kernel_rfl) (by kernel_rfl) (by kernel_rfl) (by kernel_rfl) fun w_20 a H HP => ?_
       refine H.v 3 (.bool false) fun a H => ?_
       refine wpList_nil (then_normal (wp_ret (then_ret (inb_ret (then_ret (then_ret (inb_ret (then_ret ?_))))))))
       refine H.ret2 (fn := Tryd.f47) Tryd.results47 (RV.cellN (vs := [(.int .u8 0), (.int .u8 0)]) (b := b_1) (off := 0) (k := 2) (by kernel_rfl) (by kernel_rfl) (by kernel_rfl) rfl (HP.cells 1 rfl 0 2 (by kernel_rfl))) (RV.tmp_ (v := (.bool false)) (by kernel_rfl)) ?_
       exact ⟨by unfold examineP; rw [hN, if_pos (.inr (.inr (exOk_no (j := j) (by omega) (decide_eq_false (by omega)))))]; rfl, (HP.below (by kernel_rfl))⟩
      ·have g49p := eq_of_bne_false g49
       refine An.p H (.inr HP) 4 50 (.string (bstr p)) fun a H => ?_
       refine An.pure H (.inr (HP)) 5 51 (.int .u8 (((p.getD 1 0).toNat : Nat) : Int)) rfl (by kernel_rfl) (by kernel_rfl) (fun _ _ _ h => h) (fun _ => ex_sindex (k := .i64) (l := p) (i := 1) (m := 1) (by kernel_rfl) (by kernel_rfl) (by kernel_rfl) (by omega) (by omega)) fun a H => ?_
       refine An.p H (.inr HP) 6 52 (.pointer (some ⟨b_6, 0, none⟩)) fun a H => ?_
       refine An.val H (HP) 7 53 (.int .u8 (((l.getD 1 0).toNat : Nat) : Int)) rfl (by kernel_rfl) (by kernel_rfl) (fun _ _ _ h => h) (fun _ hS => ex_load1 (by kernel_rfl) (by kernel_rfl) (hS.cell 0 rfl 0 rfl)) fun a H => ?_
       refine An.p H (.inr HP) 8 54 (.bool ((((p.getD 1 0).toNat : Nat) : Int) != (((l.getD 1 0).toNat : Nat) : Int))) fun a H => ?_
       refine An.p H (.inr HP) 9 55 (.bool ((((p.getD 1 0).toNat : Nat) : Int) != (((l.getD 1 0).toNat : Nat) : Int))) fun a H => ?_
       refine An.p H (.inr HP) 10 56 (.bool ((((p.getD 1 0).toNat : Nat) : Int) != (((l.getD 1 0).toNat : Nat) : Int))) fun a H => ?_
       refine H.split 56 rfl (fun g56 H => ?_) (fun g56 H => ?_)
       ·have g56p := bne_iff_ne.1 g56
        refine An.s H (.inr HP) 11 57 fun a H => ?_
        refine An.s H (.inr HP) 12 58 fun a H => ?_
        refine An.s H (.inr HP) 13 59 fun a H => ?_
        refine An.s H (.inr HP) 14 60 fun a H => ?_
        refine An.p H (.inr HP) 15 61 (.bool true) fun a H => ?_
        refine An.done (by kernel_rfl) ?_
        have H := H.keep (L' := [(61, (.bool true)), (8, (.int .u8 ((fl : Nat) : Int))), (29, (.int .i64 ((j : Nat) : Int))), (28, (.int .i64 ((N : Nat) : Int))), (4, (.int .i64 ((N : Nat) : Int))), (5, (.pointer (some ⟨b_6, 0, none⟩))), (2, (.pointer (some ⟨b_1, 0, none⟩))), (0, (.string (bstr l))), (3, (.bool false)), (6, (.int .i64 ((j : Nat) : Int))), (7, (.string (bstr p)))]) (by kernel_rfl)
        refine then_normal ?_
        refine w_ift H rfl ?_
        refine wp_seq (w_region ?_)
        refine H.v 62 (.agg #[(.int .u8 0), (.int .u8 0)]) fun a H => ?_
        refine H.store HP 1 b_1 0 2 84 _ true (.agg #[(.int .u8 0), (.int .u8 0)]) [bx b_6 84 [(.int .u8 (((l.getD 1 0).toNat : Nat) : Int)), (.int .u8 (((l.getD 2 0).toNat / 16 : Nat) : Int))] true, bx b_1 84 [(.int .u8 0), (.int .u8 0)] true] (by kernel_rfl) (by kernel_rfl) (by kernel_rfl) rfl (by kernel_rfl) (by kernel_rfl) (by kernel_rfl) (by kernel_rfl) (by kernel_rfl) fun w_21 a H HP => ?_
        refine H.v 3 (.bool false) fun a H => ?_
        refine wpList_nil (then_normal (wp_ret (then_ret (inb_ret (then_ret (then_ret (inb_ret (then_ret ?_))))))))
        refine H.ret2 (fn := Tryd.f47) Tryd.results47 (RV.cellN (vs := [(.int .u8 0), (.int .u8 0)]) (b := b_1) (off := 0) (k := 2) (by kernel_rfl) (by kernel_rfl) (by kernel_rfl) rfl (HP.cells 1 rfl 0 2 (by kernel_rfl))) (RV.tmp_ (v := (.bool false)) (by kernel_rfl)) ?_
        exact ⟨by unfold examineP; rw [hN, if_pos (.inr (.inr (exOk_no (j := j) (by omega) (decide_eq_false (by omega)))))]; rfl, (HP.below (by kernel_rfl))⟩
       ·have g56p := eq_of_bne_false g56
        refine An.p H (.inr HP) 11 57 (.string (bstr p)) fun a H => ?_
        refine An.pure H (.inr (HP)) 12 58 (.int .u8 (((p.getD 3 0).toNat : Nat) : Int)) rfl (by kernel_rfl) (by kernel_rfl) (fun _ _ _ h => h) (fun _ => ex_sindex (k := .i64) (l := p) (i := 3) (m := 3) (by kernel_rfl) (by kernel_rfl) (by kernel_rfl) (by omega) (by omega)) fun a H => ?_
        refine An.p H (.inr HP) 13 59 (.int .u8 ((fl : Nat) : Int)) fun a H => ?_
        refine An.p H (.inr HP) 14 60 (.bool ((((p.getD 3 0).toNat : Nat) : Int) != ((fl : Nat) : Int))) fun a H => ?_
        refine An.p H (.inr HP) 15 61 (.bool ((((p.getD 3 0).toNat : Nat) : Int) != ((fl : Nat) : Int))) fun a H => ?_
        refine An.done (by kernel_rfl) ?_
        have H := H.keep (L' := [(61, (.bool ((((p.getD 3 0).toNat : Nat) : Int) != ((fl : Nat) : Int)))), (8, (.int .u8 ((fl : Nat) : Int))), (29, (.int .i64 ((j : Nat) : Int))), (28, (.int .i64 ((N : Nat) : Int))), (4, (.int .i64 ((N : Nat) : Int))), (5, (.pointer (some ⟨b_6, 0, none⟩))), (2, (.pointer (some ⟨b_1, 0, none⟩))), (0, (.string (bstr l))), (3, (.bool false)), (6, (.int .i64 ((j : Nat) : Int))), (7, (.string (bstr p)))]) (by kernel_rfl)
        refine then_normal ?_
        refine w_if H rfl (fun g61 => ?_) (fun g61 => ?_)
        ·have g61p := bne_iff_ne.1 g61
         refine wp_seq (w_region ?_)
         refine H.v 62 (.agg #[(.int .u8 0), (.int .u8 0)]) fun a H => ?_
         refine H.store HP 1 b_1 0 2 84 _ true (.agg #[(.int .u8 0), (.int .u8 0)]) [bx b_6 84 [(.int .u8 (((l.getD 1 0).toNat : Nat) : Int)), (.int .u8 (((l.getD 2 0).toNat / 16 : Nat) : Int))] true, bx b_1 84 [(.int .u8 0), (.int .u8 0)] true] (by kernel_rfl) (by kernel_rfl) (by kernel_rfl) rfl (by kernel_rfl) (by kernel_rfl) (by kernel_rfl) (by kernel_rfl) (by kernel_rfl) fun w_22 a H HP => ?_
         refine H.v 3 (.bool false) fun a H => ?_
         refine wpList_nil (then_normal (wp_ret (then_ret (inb_ret (then_ret (then_ret (inb_ret (then_ret ?_))))))))
         refine H.ret2 (fn := Tryd.f47) Tryd.results47 (RV.cellN (vs := [(.int .u8 0), (.int .u8 0)]) (b := b_1) (off := 0) (k := 2) (by kernel_rfl) (by kernel_rfl) (by kernel_rfl) rfl (HP.cells 1 rfl 0 2 (by kernel_rfl))) (RV.tmp_ (v := (.bool false)) (by kernel_rfl)) ?_
         exact ⟨by unfold examineP; rw [hN, if_pos (.inr (.inr (exOk_no (j := j) (by omega) (decide_eq_false (by omega)))))]; rfl, (HP.below (by kernel_rfl))⟩
        ·have g61p := eq_of_bne_false g61
         refine wp_skip (then_normal (wp_seq ?_))
         refine An.start (fun v => Hp w v [bx b_6 84 [(.int .u8 (((l.getD 1 0).toNat : Nat) : Int)), (.int .u8 (((l.getD 2 0).toNat / 16 : Nat) : Int))] true, bx b_1 84 [(.int .u8 0), (.int .u8 0)] true] []) 15 15 HP wide_follows rfl fun w_23 HP => ?_
         refine An.p H (.inr HP) 0 63 (.string (bstr p)) fun a H => ?_
         refine An.pure H (.inr (HP)) 1 64 (.int .u8 (((p.getD 2 0).toNat : Nat) : Int)) rfl (by kernel_rfl) (by kernel_rfl) (fun _ _ _ h => h) (fun _ => ex_sindex (k := .i64) (l := p) (i := 2) (m := 2) (by kernel_rfl) (by kernel_rfl) (by kernel_rfl) (by omega) (by omega)) fun a H => ?_
         refine An.pureE H (.inr (HP)) 2 65 (.int .u8 (IntKind.u8.wrap ((((p.getD 2 0).toNat : Nat) : Int).tdiv 16))) (.int .u8 (((p.getD 2 0).toNat / 16 : Nat) : Int)) rfl (by kernel_rfl) (by kernel_rfl) (fun _ _ _ h => h) (fun _ => by kernel_rfl) ((by rw [tdiv_nn _ _ (by omega), wrap_inu8 _ (by omega)]; exact congrArg (Value.int .u8) (by omega))) fun a H => ?_
         refine An.p H (.inr HP) 3 66 (.pointer (some ⟨b_6, 1, none⟩)) fun a H => ?_
         refine An.val H (HP) 4 67 (.int .u8 (((l.getD 2 0).toNat / 16 : Nat) : Int)) rfl (by kernel_rfl) (by kernel_rfl) (fun _ _ _ h => h) (fun _ hS => ex_load1 (by kernel_rfl) (by kernel_rfl) (hS.cell 0 rfl 1 rfl)) fun a H => ?_
         refine An.p H (.inr HP) 5 68 (.bool ((((p.getD 2 0).toNat / 16 : Nat) : Int) != (((l.getD 2 0).toNat / 16 : Nat) : Int))) fun a H => ?_
         refine An.p H (.inr HP) 6 69 (.bool ((((p.getD 2 0).toNat / 16 : Nat) : Int) != (((l.getD 2 0).toNat / 16 : Nat) : Int))) fun a H => ?_
         refine H.split 69 rfl (fun g69 H => ?_) (fun g69 H => ?_)
         ·have g69p := bne_iff_ne.1 g69
          refine An.s H (.inr HP) 7 70 fun a H => ?_
          refine An.s H (.inr HP) 8 71 fun a H => ?_
          refine An.s H (.inr HP) 9 72 fun a H => ?_
          refine An.s H (.inr HP) 10 73 fun a H => ?_
          refine An.s H (.inr HP) 11 74 fun a H => ?_
          refine An.s H (.inr HP) 12 75 fun a H => ?_
          refine An.s H (.inr HP) 13 76 fun a H => ?_
          refine An.p H (.inr HP) 14 77 (.bool true) fun a H => ?_
          refine An.done (by kernel_rfl) ?_
          have H := H.keep (L' := [(77, (.bool true)), (61, (.bool ((((p.getD 3 0).toNat : Nat) : Int) != ((fl : Nat) : Int)))), (8, (.int .u8 ((fl : Nat) : Int))), (29, (.int .i64 ((j : Nat) : Int))), (28, (.int .i64 ((N : Nat) : Int))), (4, (.int .i64 ((N : Nat) : Int))), (5, (.pointer (some ⟨b_6, 0, none⟩))), (2, (.pointer (some ⟨b_1, 0, none⟩))), (0, (.string (bstr l))), (3, (.bool false)), (6, (.int .i64 ((j : Nat) : Int))), (7, (.string (bstr p)))]) (by kernel_rfl)
          refine then_normal ?_
          refine w_ift H rfl ?_
          refine wp_seq (w_region ?_)
          refine H.v 78 (.agg #[(.int .u8 0), (.int .u8 0)]) fun a H => ?_
          refine H.store HP 1 b_1 0 2 84 _ true (.agg #[(.int .u8 0), (.int .u8 0)]) [bx b_6 84 [(.int .u8 (((l.getD 1 0).toNat : Nat) : Int)), (.int .u8 (((l.getD 2 0).toNat / 16 : Nat) : Int))] true, bx b_1 84 [(.int .u8 0), (.int .u8 0)] true] (by kernel_rfl) (by kernel_rfl) (by kernel_rfl) rfl (by kernel_rfl) (by kernel_rfl) (by kernel_rfl) (by kernel_rfl) (by kernel_rfl) fun w_24 a H HP => ?_
          refine H.v 3 (.bool false) fun a H => ?_
          refine wpList_nil (then_normal (wp_ret (inb_ret (then_ret (then_ret (inb_ret (then_ret ?_)))))))
          refine H.ret2 (fn := Tryd.f47) Tryd.results47 (RV.cellN (vs := [(.int .u8 0), (.int .u8 0)]) (b := b_1) (off := 0) (k := 2) (by kernel_rfl) (by kernel_rfl) (by kernel_rfl) rfl (HP.cells 1 rfl 0 2 (by kernel_rfl))) (RV.tmp_ (v := (.bool false)) (by kernel_rfl)) ?_
          exact ⟨by unfold examineP; rw [hN, if_pos (.inr (.inr (exOk_no (j := j) (by omega) (decide_eq_false (by omega)))))]; rfl, (HP.below (by kernel_rfl))⟩
         ·have g69p := eq_of_bne_false g69
          refine An.p H (.inr HP) 7 70 (.string (bstr p)) fun a H => ?_
          refine An.pure H (.inr (HP)) 8 71 (.int .u8 (((p.getD 2 0).toNat : Nat) : Int)) rfl (by kernel_rfl) (by kernel_rfl) (fun _ _ _ h => h) (fun _ => ex_sindex (k := .i64) (l := p) (i := 2) (m := 2) (by kernel_rfl) (by kernel_rfl) (by kernel_rfl) (by omega) (by omega)) fun a H => ?_
          refine An.pureE H (.inr (HP)) 9 72 (.int .u8 ((((p.getD 2 0).toNat : Nat) : Int).tmod 16)) (.int .u8 (((p.getD 2 0).toNat % 16 : Nat) : Int)) rfl (by kernel_rfl) (by kernel_rfl) (fun _ _ _ h => h) (fun _ => by kernel_rfl) ((by rw [tmod_nn _ _ (by omega)]; exact congrArg (Value.int .u8) (by omega))) fun a H => ?_
          refine An.pureE H (.inr (HP)) 10 73 (.int .i64 (IntKind.i64.wrap (((p.getD 2 0).toNat % 16 : Nat) : Int))) (.int .i64 (((p.getD 2 0).toNat % 16 : Nat) : Int)) rfl (by kernel_rfl) (by kernel_rfl) (fun _ _ _ h => h) (fun _ => by kernel_rfl) ((by rw [wrap_ini64 _ (by omega)])) fun a H => ?_
          refine An.p H (.inr HP) 11 74 (.int .i64 ((j : Nat) : Int)) fun a H => ?_
          refine An.pureE H (.inr (HP)) 12 75 (.int .i64 (((j : Nat) : Int).tmod 16)) (.int .i64 ((j % 16 : Nat) : Int)) rfl (by kernel_rfl) (by kernel_rfl) (fun _ _ _ h => h) (fun _ => by kernel_rfl) ((by rw [tmod_nn _ _ (by omega)]; exact congrArg (Value.int .i64) (by omega))) fun a H => ?_
          refine An.p H (.inr HP) 13 76 (.bool ((((p.getD 2 0).toNat % 16 : Nat) : Int) != ((j % 16 : Nat) : Int))) fun a H => ?_
          refine An.p H (.inr HP) 14 77 (.bool ((((p.getD 2 0).toNat % 16 : Nat) : Int) != ((j % 16 : Nat) : Int))) fun a H => ?_
          refine An.done (by kernel_rfl) ?_
          have H := H.keep (L' := [(77, (.bool ((((p.getD 2 0).toNat % 16 : Nat) : Int) != ((j % 16 : Nat) : Int)))), (61, (.bool ((((p.getD 3 0).toNat : Nat) : Int) != ((fl : Nat) : Int)))), (8, (.int .u8 ((fl : Nat) : Int))), (29, (.int .i64 ((j : Nat) : Int))), (28, (.int .i64 ((N : Nat) : Int))), (4, (.int .i64 ((N : Nat) : Int))), (5, (.pointer (some ⟨b_6, 0, none⟩))), (2, (.pointer (some ⟨b_1, 0, none⟩))), (0, (.string (bstr l))), (3, (.bool false)), (6, (.int .i64 ((j : Nat) : Int))), (7, (.string (bstr p)))]) (by kernel_rfl)
          refine then_normal ?_
          refine w_if H rfl (fun g77 => ?_) (fun g77 => ?_)
          ·have g77p := bne_iff_ne.1 g77
           refine wp_seq (w_region ?_)
           refine H.v 78 (.agg #[(.int .u8 0), (.int .u8 0)]) fun a H => ?_
           refine H.store HP 1 b_1 0 2 84 _ true (.agg #[(.int .u8 0), (.int .u8 0)]) [bx b_6 84 [(.int .u8 (((l.getD 1 0).toNat : Nat) : Int)), (.int .u8 (((l.getD 2 0).toNat / 16 : Nat) : Int))] true, bx b_1 84 [(.int .u8 0), (.int .u8 0)] true] (by kernel_rfl) (by kernel_rfl) (by kernel_rfl) rfl (by kernel_rfl) (by kernel_rfl) (by kernel_rfl) (by kernel_rfl) (by kernel_rfl) fun w_25 a H HP => ?_
           refine H.v 3 (.bool false) fun a H => ?_
           refine wpList_nil (then_normal (wp_ret (inb_ret (then_ret (then_ret (inb_ret (then_ret ?_)))))))
           refine H.ret2 (fn := Tryd.f47) Tryd.results47 (RV.cellN (vs := [(.int .u8 0), (.int .u8 0)]) (b := b_1) (off := 0) (k := 2) (by kernel_rfl) (by kernel_rfl) (by kernel_rfl) rfl (HP.cells 1 rfl 0 2 (by kernel_rfl))) (RV.tmp_ (v := (.bool false)) (by kernel_rfl)) ?_
           exact ⟨by unfold examineP; rw [hN, if_pos (.inr (.inr (exOk_no (j := j) (by omega) (decide_eq_false (by omega)))))]; rfl, (HP.below (by kernel_rfl))⟩
          ·have g77p := eq_of_bne_false g77
           refine wp_skip (inb_normal (then_normal (w_region ?_)))
           refine H.valE 79 (.int .i64 (IntKind.i64.wrap (((j : Nat) : Int) + 1))) (.int .i64 (((j : Nat) : Int) + 1)) (by kernel_rfl) (by kernel_rfl) ((by rw [wrap_ini64 _ (by omega)])) fun a H => ?_
           refine H.v 29 (.int .i64 (((j : Nat) : Int) + 1)) fun a H => ?_
           refine wpList_nil (then_normal ?_)
           have H := H.as 29 (.int .i64 ((j + 1 : Nat) : Int)) rfl rfl
           refine ⟨_, ?_, j + 1, rfl, H.keep (by kernel_rfl), HP, by omega, exOk_succ hex (decide_eq_true (by omega))⟩
           omega
   ·have g30p := of_decide_eq_false g30
    refine wp_exit (then_exit (then_exit ?_))
    refine w_exit_here ?_
    refine then_normal (wp_seq (w_region ?_))
    refine H.u 80 (.agg #[(.int .u8 (((l.getD 1 0).toNat : Nat) : Int)), (.int .u8 (((l.getD 2 0).toNat / 16 : Nat) : Int))]) (ex_loadN (vs := [(.int .u8 (((l.getD 1 0).toNat : Nat) : Int)), (.int .u8 (((l.getD 2 0).toNat / 16 : Nat) : Int))]) (by kernel_rfl) (by kernel_rfl) (by kernel_rfl) rfl (HP.cells 0 rfl 0 2 (by kernel_rfl))) fun a H => ?_
    refine H.store HP 1 b_1 0 2 84 _ true (.agg #[(.int .u8 (((l.getD 1 0).toNat : Nat) : Int)), (.int .u8 (((l.getD 2 0).toNat / 16 : Nat) : Int))]) [bx b_6 84 [(.int .u8 (((l.getD 1 0).toNat : Nat) : Int)), (.int .u8 (((l.getD 2 0).toNat / 16 : Nat) : Int))] true, bx b_1 84 [(.int .u8 (((l.getD 1 0).toNat : Nat) : Int)), (.int .u8 (((l.getD 2 0).toNat / 16 : Nat) : Int))] true] (by kernel_rfl) (by kernel_rfl) (by kernel_rfl) rfl (by kernel_rfl) (by kernel_rfl) (by kernel_rfl) (by kernel_rfl) (by kernel_rfl) fun w_26 a H HP => ?_
    refine H.v 3 (.bool true) fun a H => ?_
    refine wpList_nil (then_normal (wp_ret ?_))
    refine H.ret2 (fn := Tryd.f47) Tryd.results47 (RV.cellN (vs := [(.int .u8 (((l.getD 1 0).toNat : Nat) : Int)), (.int .u8 (((l.getD 2 0).toNat / 16 : Nat) : Int))]) (b := b_1) (off := 0) (k := 2) (by kernel_rfl) (by kernel_rfl) (by kernel_rfl) rfl (HP.cells 1 rfl 0 2 (by kernel_rfl))) (RV.tmp_ (v := (.bool true)) (by kernel_rfl)) ?_
    exact ⟨by unfold examineP; have hjN : j = N := (by omega); subst hjN; rw [hN, if_neg (by rintro (h | h | h); omega; omega; rw [hex] at h; cases h)]; rfl, (HP.below (by kernel_rfl))⟩
set_option maxRecDepth 100000 in
set_option maxHeartbeats 4000000 in
theorem follows_any (la lb : List UInt8) (w : World) (ha : la.length ≤ 1000000) (hb0 : lb.length ≤ 1000000) :
  Calls Tryd.prog 24 #[.string (bstr la), .string (bstr lb)] w fun e w' => e = .returned (.bool (followsP la lb)) ∧ Below w.heap.size w w' := by
 have HP := Hp.start w
 obtain ⟨X, hX⟩ : ∃ X, examineP la = X := ⟨_, rfl⟩
 obtain ⟨Y, hY⟩ : ∃ Y, examineP lb = Y := ⟨_, rfl⟩
 have hxb : (X.getD (0, 0)).2 < 16 := by rw [← hX]; exact exam_bd la
 refine w_enter 37 [(0, (.string (bstr la))), (1, (.string (bstr lb)))] Tryd.func24 rfl Tryd.ntmps24 (by kernel_rfl) (by kernel_rfl) fun a H => ?_
 refine wp_seq (w_region ?_)
 refine H.v 4 (.bool false) fun a H => ?_
 refine wpList_nil (then_normal (wp_seq (w_region ?_)))
 refine H.v 9 (.string (bstr la)) fun a H => ?_
 refine H.call 10 (by kernel_rfl) (Eq.trans (by kernel_rfl : _ = (callFunc 47 #[(.string (bstr la))]).run Tryd.prog w) (Tryd.call47 _ _)) ((by have hh := examine_any la w ha; unfold examV at hh; rw [hX] at hh; exact hh)) ?_
 rintro e w_1 ⟨rfl, hb⟩
 refine ⟨_, rfl, ?_⟩
 intro a H
 have HP := HP.next hb
 refine H.v 8 (.tuple #[(.agg #[(.int .u8 (((X.getD (0, 0)).1 : Nat) : Int)), (.int .u8 (((X.getD (0, 0)).2 : Nat) : Int))]), (.bool X.isSome)]) fun a H => ?_
 refine H.v 11 (.agg #[(.int .u8 (((X.getD (0, 0)).1 : Nat) : Int)), (.int .u8 (((X.getD (0, 0)).2 : Nat) : Int))]) fun a H => ?_
 refine H.v 12 (.bool X.isSome) fun a H => ?_
 refine H.alloc HP 5 (fun b => (.pointer (some ⟨b, 0, none⟩))) 84 [(.int .u8 0), (.int .u8 0)] (by kernel_rfl) (fun w => by kernel_rfl) fun b_2 w_3 a H HP => ?_
 refine H.store HP 0 b_2 0 2 84 _ true (.agg #[(.int .u8 (((X.getD (0, 0)).1 : Nat) : Int)), (.int .u8 (((X.getD (0, 0)).2 : Nat) : Int))]) [bx b_2 84 [(.int .u8 (((X.getD (0, 0)).1 : Nat) : Int)), (.int .u8 (((X.getD (0, 0)).2 : Nat) : Int))] true] (by kernel_rfl) (by kernel_rfl) (by kernel_rfl) rfl (by kernel_rfl) (by kernel_rfl) (by kernel_rfl) (by kernel_rfl) (by kernel_rfl) fun w_4 a H HP => ?_
 refine H.v 6 (.bool X.isSome) fun a H => ?_
 refine wpList_nil (then_normal (wp_seq (wp_seq (w_region ?_))))
 refine H.v 13 (.bool X.isSome) fun a H => ?_
 refine H.v 14 (.bool (!X.isSome)) fun a H => ?_
 refine wpList_nil (then_normal ?_)
 refine w_if H rfl (fun g14 => ?_) (fun g14 => ?_)
 ·have g14p := not_is_true g14
  refine wp_seq (w_region ?_)
  refine H.v 4 (.bool false) fun a H => ?_
  refine wpList_nil (then_normal (wp_ret (then_ret ?_)))
  refine H.ret1 (fn := Tryd.f24) Tryd.results24 (RV.tmp_ (v := (.bool false)) (by kernel_rfl)) ?_
  exact ⟨by unfold followsP; simp only [hX, hY, not_is_true g14, Bool.true_and, Bool.false_and, Bool.and_false], (HP.below (by kernel_rfl))⟩
 ·have g14p := not_is_false g14
  refine wp_skip (then_normal (wp_seq (w_region ?_)))
  refine H.v 16 (.string (bstr lb)) fun a H => ?_
  refine H.call 17 (by kernel_rfl) (Eq.trans (by kernel_rfl : _ = (callFunc 47 #[(.string (bstr lb))]).run Tryd.prog w_4) (Tryd.call47 _ _)) ((by have hh := examine_any lb w_4 hb0; unfold examV at hh; rw [hY] at hh; exact hh)) ?_
  rintro e w_5 ⟨rfl, hb⟩
  refine ⟨_, rfl, ?_⟩
  intro a H
  have HP := HP.next hb
  refine H.v 15 (.tuple #[(.agg #[(.int .u8 (((Y.getD (0, 0)).1 : Nat) : Int)), (.int .u8 (((Y.getD (0, 0)).2 : Nat) : Int))]), (.bool Y.isSome)]) fun a H => ?_
  refine H.v 18 (.agg #[(.int .u8 (((Y.getD (0, 0)).1 : Nat) : Int)), (.int .u8 (((Y.getD (0, 0)).2 : Nat) : Int))]) fun a H => ?_
  refine H.v 19 (.bool Y.isSome) fun a H => ?_
  refine H.alloc HP 7 (fun b => (.pointer (some ⟨b, 0, none⟩))) 84 [(.int .u8 0), (.int .u8 0)] (by kernel_rfl) (fun w => by kernel_rfl) fun b_6 w_7 a H HP => ?_
  refine H.store HP 0 b_6 0 2 84 _ true (.agg #[(.int .u8 (((Y.getD (0, 0)).1 : Nat) : Int)), (.int .u8 (((Y.getD (0, 0)).2 : Nat) : Int))]) [bx b_6 84 [(.int .u8 (((Y.getD (0, 0)).1 : Nat) : Int)), (.int .u8 (((Y.getD (0, 0)).2 : Nat) : Int))] true, bx b_2 84 [(.int .u8 (((X.getD (0, 0)).1 : Nat) : Int)), (.int .u8 (((X.getD (0, 0)).2 : Nat) : Int))] true] (by kernel_rfl) (by kernel_rfl) (by kernel_rfl) rfl (by kernel_rfl) (by kernel_rfl) (by kernel_rfl) (by kernel_rfl) (by kernel_rfl) fun w_8 a H HP => ?_
  refine H.v 6 (.bool Y.isSome) fun a H => ?_
  refine wpList_nil (then_normal (wp_seq (w_region ?_)))
  refine H.v 20 (.bool Y.isSome) fun a H => ?_
  refine H.v 21 (.bool Y.isSome) fun a H => ?_
  refine H.split 21 rfl (fun g21 H => ?_) (fun g21 H => ?_)
  ·have g21p := g21
   refine H.v 22 (.pointer (some ⟨b_2, 0, none⟩)) fun a H => ?_
   refine H.u 23 (.int .u8 (((X.getD (0, 0)).1 : Nat) : Int)) (ex_load1 (by kernel_rfl) (by kernel_rfl) (HP.cell 1 rfl 0 rfl)) fun a H => ?_
   refine H.v 24 (.pointer (some ⟨b_6, 0, none⟩)) fun a H => ?_
   refine H.u 25 (.int .u8 (((Y.getD (0, 0)).1 : Nat) : Int)) (ex_load1 (by kernel_rfl) (by kernel_rfl) (HP.cell 0 rfl 0 rfl)) fun a H => ?_
   refine H.v 26 (.bool ((((X.getD (0, 0)).1 : Nat) : Int) == (((Y.getD (0, 0)).1 : Nat) : Int))) fun a H => ?_
   refine H.v 27 (.bool ((((X.getD (0, 0)).1 : Nat) : Int) == (((Y.getD (0, 0)).1 : Nat) : Int))) fun a H => ?_
   refine H.v 28 (.bool ((((X.getD (0, 0)).1 : Nat) : Int) == (((Y.getD (0, 0)).1 : Nat) : Int))) fun a H => ?_
   refine H.split 28 rfl (fun g28 H => ?_) (fun g28 H => ?_)
   ·have g28p := eq_of_beq g28
    refine H.v 29 (.pointer (some ⟨b_6, 1, none⟩)) fun a H => ?_
    refine H.u 30 (.int .u8 (((Y.getD (0, 0)).2 : Nat) : Int)) (ex_load1 (by kernel_rfl) (by kernel_rfl) (HP.cell 0 rfl 1 rfl)) fun a H => ?_
    refine H.v 31 (.pointer (some ⟨b_2, 1, none⟩)) fun a H => ?_
    refine H.u 32 (.int .u8 (((X.getD (0, 0)).2 : Nat) : Int)) (ex_load1 (by kernel_rfl) (by kernel_rfl) (HP.cell 1 rfl 1 rfl)) fun a H => ?_
    refine H.valE 33 (.int .u8 (IntKind.u8.wrap ((((X.getD (0, 0)).2 : Nat) : Int) + 1))) (.int .u8 ((((X.getD (0, 0)).2 + 1) : Nat) : Int)) (by kernel_rfl) (by kernel_rfl) ((by rw [wrap_inu8 _ (by omega)]; exact congrArg (Value.int .u8) (by omega))) fun a H => ?_
    refine H.valE 34 (.int .u8 (((((X.getD (0, 0)).2 + 1) : Nat) : Int).tmod 16)) (.int .u8 ((((X.getD (0, 0)).2 + 1) % 16 : Nat) : Int)) (by kernel_rfl) (by kernel_rfl) ((by rw [tmod_nn _ _ (by omega)]; exact congrArg (Value.int .u8) (by omega))) fun a H => ?_
    refine H.v 35 (.bool ((((Y.getD (0, 0)).2 : Nat) : Int) == ((((X.getD (0, 0)).2 + 1) % 16 : Nat) : Int))) fun a H => ?_
    refine H.v 36 (.bool ((((Y.getD (0, 0)).2 : Nat) : Int) == ((((X.getD (0, 0)).2 + 1) % 16 : Nat) : Int))) fun a H => ?_
    refine H.v 4 (.bool ((((Y.getD (0, 0)).2 : Nat) : Int) == ((((X.getD (0, 0)).2 + 1) % 16 : Nat) : Int))) fun a H => ?_
    refine wpList_nil ?_
    have H := H.keep (L' := [(4, (.bool ((((Y.getD (0, 0)).2 : Nat) : Int) == ((((X.getD (0, 0)).2 + 1) % 16 : Nat) : Int)))), (6, (.bool Y.isSome)), (7, (.pointer (some ⟨b_6, 0, none⟩))), (19, (.bool Y.isSome)), (18, (.agg #[(.int .u8 (((Y.getD (0, 0)).1 : Nat) : Int)), (.int .u8 (((Y.getD (0, 0)).2 : Nat) : Int))])), (15, (.tuple #[(.agg #[(.int .u8 (((Y.getD (0, 0)).1 : Nat) : Int)), (.int .u8 (((Y.getD (0, 0)).2 : Nat) : Int))]), (.bool Y.isSome)])), (17, (.tuple #[(.agg #[(.int .u8 (((Y.getD (0, 0)).1 : Nat) : Int)), (.int .u8 (((Y.getD (0, 0)).2 : Nat) : Int))]), (.bool Y.isSome)])), (16, (.string (bstr lb))), (14, (.bool (!X.isSome))), (13, (.bool X.isSome)), (5, (.pointer (some ⟨b_2, 0, none⟩))), (12, (.bool X.isSome)), (11, (.agg #[(.int .u8 (((X.getD (0, 0)).1 : Nat) : Int)), (.int .u8 (((X.getD (0, 0)).2 : Nat) : Int))])), (8, (.tuple #[(.agg #[(.int .u8 (((X.getD (0, 0)).1 : Nat) : Int)), (.int .u8 (((X.getD (0, 0)).2 : Nat) : Int))]), (.bool X.isSome)])), (10, (.tuple #[(.agg #[(.int .u8 (((X.getD (0, 0)).1 : Nat) : Int)), (.int .u8 (((X.getD (0, 0)).2 : Nat) : Int))]), (.bool X.isSome)])), (9, (.string (bstr la))), (0, (.string (bstr la))), (1, (.string (bstr lb)))]) (by kernel_rfl)
    refine then_normal (wp_ret ?_)
    refine H.ret1 (fn := Tryd.f24) Tryd.results24 (RV.tmp_ (v := (.bool ((((Y.getD (0, 0)).2 : Nat) : Int) == ((((X.getD (0, 0)).2 + 1) % 16 : Nat) : Int)))) (by kernel_rfl)) ?_
    exact ⟨by unfold followsP; simp only [hX, hY, not_is_false g14, g21, g28, Bool.true_and, Bool.false_and, Bool.and_false], (HP.below (by kernel_rfl))⟩
   ·have g28p := ne_of_beq_false g28
    refine H.s 29 fun a H => ?_
    refine H.s 30 fun a H => ?_
    refine H.s 31 fun a H => ?_
    refine H.s 32 fun a H => ?_
    refine H.s 33 fun a H => ?_
    refine H.s 34 fun a H => ?_
    refine H.s 35 fun a H => ?_
    refine H.v 36 (.bool false) fun a H => ?_
    refine H.v 4 (.bool false) fun a H => ?_
    refine wpList_nil ?_
    have H := H.keep (L' := [(4, (.bool false)), (6, (.bool Y.isSome)), (7, (.pointer (some ⟨b_6, 0, none⟩))), (19, (.bool Y.isSome)), (18, (.agg #[(.int .u8 (((Y.getD (0, 0)).1 : Nat) : Int)), (.int .u8 (((Y.getD (0, 0)).2 : Nat) : Int))])), (15, (.tuple #[(.agg #[(.int .u8 (((Y.getD (0, 0)).1 : Nat) : Int)), (.int .u8 (((Y.getD (0, 0)).2 : Nat) : Int))]), (.bool Y.isSome)])), (17, (.tuple #[(.agg #[(.int .u8 (((Y.getD (0, 0)).1 : Nat) : Int)), (.int .u8 (((Y.getD (0, 0)).2 : Nat) : Int))]), (.bool Y.isSome)])), (16, (.string (bstr lb))), (14, (.bool (!X.isSome))), (13, (.bool X.isSome)), (5, (.pointer (some ⟨b_2, 0, none⟩))), (12, (.bool X.isSome)), (11, (.agg #[(.int .u8 (((X.getD (0, 0)).1 : Nat) : Int)), (.int .u8 (((X.getD (0, 0)).2 : Nat) : Int))])), (8, (.tuple #[(.agg #[(.int .u8 (((X.getD (0, 0)).1 : Nat) : Int)), (.int .u8 (((X.getD (0, 0)).2 : Nat) : Int))]), (.bool X.isSome)])), (10, (.tuple #[(.agg #[(.int .u8 (((X.getD (0, 0)).1 : Nat) : Int)), (.int .u8 (((X.getD (0, 0)).2 : Nat) : Int))]), (.bool X.isSome)])), (9, (.string (bstr la))), (0, (.string (bstr la))), (1, (.string (bstr lb)))]) (by kernel_rfl)
    refine then_normal (wp_ret ?_)
    refine H.ret1 (fn := Tryd.f24) Tryd.results24 (RV.tmp_ (v := (.bool false)) (by kernel_rfl)) ?_
    exact ⟨by unfold followsP; simp only [hX, hY, not_is_false g14, g21, g28, Bool.true_and, Bool.false_and, Bool.and_false], (HP.below (by kernel_rfl))⟩
  ·have g21p := g21
   refine H.s 22 fun a H => ?_
   refine H.s 23 fun a H => ?_
   refine H.s 24 fun a H => ?_
   refine H.s 25 fun a H => ?_
   refine H.s 26 fun a H => ?_
   refine H.v 27 (.bool false) fun a H => ?_
   refine H.v 28 (.bool false) fun a H => ?_
   refine H.s 29 fun a H => ?_
   refine H.s 30 fun a H => ?_
   refine H.s 31 fun a H => ?_
   refine H.s 32 fun a H => ?_
   refine H.s 33 fun a H => ?_
   refine H.s 34 fun a H => ?_
   refine H.s 35 fun a H => ?_
   refine H.v 36 (.bool false) fun a H => ?_
   refine H.v 4 (.bool false) fun a H => ?_
   refine wpList_nil ?_
   have H := H.keep (L' := [(4, (.bool false)), (6, (.bool Y.isSome)), (7, (.pointer (some ⟨b_6, 0, none⟩))), (19, (.bool Y.isSome)), (18, (.agg #[(.int .u8 (((Y.getD (0, 0)).1 : Nat) : Int)), (.int .u8 (((Y.getD (0, 0)).2 : Nat) : Int))])), (15, (.tuple #[(.agg #[(.int .u8 (((Y.getD (0, 0)).1 : Nat) : Int)), (.int .u8 (((Y.getD (0, 0)).2 : Nat) : Int))]), (.bool Y.isSome)])), (17, (.tuple #[(.agg #[(.int .u8 (((Y.getD (0, 0)).1 : Nat) : Int)), (.int .u8 (((Y.getD (0, 0)).2 : Nat) : Int))]), (.bool Y.isSome)])), (16, (.string (bstr lb))), (14, (.bool (!X.isSome))), (13, (.bool X.isSome)), (5, (.pointer (some ⟨b_2, 0, none⟩))), (12, (.bool X.isSome)), (11, (.agg #[(.int .u8 (((X.getD (0, 0)).1 : Nat) : Int)), (.int .u8 (((X.getD (0, 0)).2 : Nat) : Int))])), (8, (.tuple #[(.agg #[(.int .u8 (((X.getD (0, 0)).1 : Nat) : Int)), (.int .u8 (((X.getD (0, 0)).2 : Nat) : Int))]), (.bool X.isSome)])), (10, (.tuple #[(.agg #[(.int .u8 (((X.getD (0, 0)).1 : Nat) : Int)), (.int .u8 (((X.getD (0, 0)).2 : Nat) : Int))]), (.bool X.isSome)])), (9, (.string (bstr la))), (0, (.string (bstr la))), (1, (.string (bstr lb)))]) (by kernel_rfl)
   refine then_normal (wp_ret ?_)
   refine H.ret1 (fn := Tryd.f24) Tryd.results24 (RV.tmp_ (v := (.bool false)) (by kernel_rfl)) ?_
   exact ⟨by unfold followsP; simp only [hX, hY, not_is_false g14, g21, Bool.true_and, Bool.false_and, Bool.and_false], (HP.below (by kernel_rfl))⟩
end Go.Proofs.YtgdjpaeclicdfaaDoor
