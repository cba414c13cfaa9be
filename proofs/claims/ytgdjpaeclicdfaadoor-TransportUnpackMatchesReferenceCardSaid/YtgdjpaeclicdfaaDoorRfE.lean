/- Contracts of the reference: headers, Follows, the reader. -/
import Derived.Test.YtgdjpaeclicdfaaDoorRfD
namespace Go.Proofs.YtgdjpaeclicdfaaDoor
open Go.ChangeShapes Go.WideShapes Go.ChangeAt Go.RowKit
set_option linter.unusedVariables false
set_option linter.unusedSimpArgs false

def headV (X : Option (Nat × Nat)) : Value := .tuple #[.bool X.isSome, .int .i64 (((X.getD (0, 0)).2 : Nat) : Int), .int .i64 (((X.getD (0, 0)).1 : Nat) : Int)]
/-- What the reference's reader does: it reads on behind an error. -/
def inum (s : List UInt8) (q : Nat × Bool) : Int × (Nat × Bool) := match rdInt s q.1 with
 | none => (0, q.1, true)
 | some (n, e) => (n, if q.2 = true then (q.1, true) else (e, false))
def itxt (s : List UInt8) (q : Nat × Bool) : List UInt8 × (Nat × Bool) := match rdStr s q.1 with
 | none => ([], q.1, true)
 | some (t, e) => (t, if q.2 = true then (q.1, true) else (e, false))
set_option maxRecDepth 100000 in
set_option maxHeartbeats 4000000 in
theorem rheaders_any (l : List UInt8) (w : World) (hl : l.length ≤ 1000000) :
  Calls Tryd.prog 48 #[.string (bstr l)] w fun e w' => e = .returned (headV (examineP l)) ∧ Below w.heap.size w w' := by
 have HP := Hp.start w
 refine w_enter 76 [(0, (.string (bstr l)))] Tryd.func48 rfl Tryd.ntmps48 (by kernel_rfl) (by kernel_rfl) fun a H => ?_
 refine wp_seq (w_region ?_)
 refine H.v 2 (.bool false) fun a H => ?_
 refine H.v 3 (.int .i64 0) fun a H => ?_
 refine H.v 4 (.int .i64 0) fun a H => ?_
 refine wpList_nil (then_normal (wp_seq (wp_seq (w_region ?_))))
 refine H.v 9 (.string (bstr l)) fun a H => ?_
 refine H.v 10 (.int .i64 ((l.length : Nat) : Int)) fun a H => ?_
 refine H.v 11 (.bool (((l.length : Nat) : Int) == 0)) fun a H => ?_
 refine H.v 12 (.bool (((l.length : Nat) : Int) == 0)) fun a H => ?_
 refine H.split 12 rfl (fun g12 H => ?_) (fun g12 H => ?_)
 ·have g12p := eq_of_beq g12
  refine H.s 13 fun a H => ?_
  refine H.s 14 fun a H => ?_
  refine H.s 15 fun a H => ?_
  refine H.s 16 fun a H => ?_
  refine H.v 17 (.bool true) fun a H => ?_
  refine wpList_nil (then_normal ?_)
  refine w_ift H rfl ?_
  refine wp_seq (w_region ?_)
  refine H.v 2 (.bool false) fun a H => ?_
  refine H.v 3 (.int .i64 0) fun a H => ?_
  refine H.v 4 (.int .i64 0) fun a H => ?_
  refine wpList_nil (then_normal (wp_ret (then_ret ?_)))
  refine H.ret3 (fn := Tryd.f48) Tryd.results48 (RV.tmp_ (v := (.bool false)) (by kernel_rfl)) (RV.tmp_ (v := (.int .i64 0)) (by kernel_rfl)) (RV.tmp_ (v := (.int .i64 0)) (by kernel_rfl)) ?_
  exact ⟨by unfold examineP; rw [if_pos (by omega)]; rfl, (HP.below (by kernel_rfl))⟩
 ·have g12p := ne_of_beq_false g12
  refine H.v 13 (.string (bstr l)) fun a H => ?_
  refine H.v 14 (.int .i64 ((l.length : Nat) : Int)) fun a H => ?_
  refine H.valE 15 (.int .i64 (((l.length : Nat) : Int).tmod 64)) (.int .i64 (((l.length : Nat) : Int) % 64)) (by kernel_rfl) (by kernel_rfl) ((by rw [tmod_nn _ _ (by omega)])) fun a H => ?_
  refine H.v 16 (.bool ((((l.length : Nat) : Int) % 64) != 0)) fun a H => ?_
  refine H.v 17 (.bool ((((l.length : Nat) : Int) % 64) != 0)) fun a H => ?_
  refine wpList_nil (then_normal ?_)
  refine w_if H rfl (fun g17 => ?_) (fun g17 => ?_)
  ·have g17p := bne_iff_ne.1 g17
   refine wp_seq (w_region ?_)
   refine H.v 2 (.bool false) fun a H => ?_
   refine H.v 3 (.int .i64 0) fun a H => ?_
   refine H.v 4 (.int .i64 0) fun a H => ?_
   refine wpList_nil (then_normal (wp_ret (then_ret ?_)))
   refine H.ret3 (fn := Tryd.f48) Tryd.results48 (RV.tmp_ (v := (.bool false)) (by kernel_rfl)) (RV.tmp_ (v := (.int .i64 0)) (by kernel_rfl)) (RV.tmp_ (v := (.int .i64 0)) (by kernel_rfl)) ?_
   exact ⟨by unfold examineP; rw [if_pos (by omega)]; rfl, (HP.below (by kernel_rfl))⟩
  ·have g17p := eq_of_bne_false g17
   refine wp_skip (then_normal (wp_seq ?_))
   obtain ⟨N, hN⟩ : ∃ N, l.length / 64 = N := ⟨_, rfl⟩
   have hlN : l.length = 64 * N := by omega
   have hb1 := byte_lt (l.getD 1 0)
   have hb2 := byte_lt (l.getD 2 0)
   refine w_region ?_
   refine H.v 18 (.string (bstr l)) fun a H => ?_
   refine H.v 19 (.int .i64 ((l.length : Nat) : Int)) fun a H => ?_
   refine H.valE 20 (.int .i64 (IntKind.i64.wrap (((l.length : Nat) : Int).tdiv 64))) (.int .i64 ((N : Nat) : Int)) (by kernel_rfl) (by kernel_rfl) ((by rw [tdiv_nn _ _ (by omega), wrap_ini64 _ (by omega)]; exact congrArg (Value.int .i64) (by omega))) fun a H => ?_
   refine H.v 5 (.int .i64 ((N : Nat) : Int)) fun a H => ?_
   refine wpList_nil (then_normal (wp_seq (wp_seq (w_region ?_))))
   refine H.v 6 (.int .i64 0) fun a H => ?_
   refine wpList_nil (then_normal (wp_block ?_))
   refine w_loop (fun mm a wv => ∃ (j : Nat), N - j = mm ∧ Sl 76 [(6, (.int .i64 ((j : Nat) : Int))), (5, (.int .i64 ((N : Nat) : Int))), (0, (.string (bstr l)))] a ∧ Hp w wv [] [] ∧ (j ≤ N) ∧ (exOk l N j = true)) (N - 0) ?_ ?_
   ·exact ⟨0, (by omega), H.keep (by kernel_rfl), HP, by omega, rfl⟩
   rintro mm a w_1 ⟨j, hmeas, H, HP, hj, hex⟩
   refine wp_seq (wp_seq (w_region ?_))
   refine H.v 21 (.int .i64 ((j : Nat) : Int)) fun a H => ?_
   refine H.v 22 (.int .i64 ((N : Nat) : Int)) fun a H => ?_
   refine H.v 23 (.bool (decide (((j : Nat) : Int) < ((N : Nat) : Int)))) fun a H => ?_
   refine wpList_nil (then_normal ?_)
   refine w_if H rfl (fun g23 => ?_) (fun g23 => ?_)
   ·have g23p := of_decide_eq_true g23
    refine wp_skip (then_normal (wp_seq (wp_block (wp_seq (w_region ?_)))))
    refine H.v 26 (.string (bstr l)) fun a H => ?_
    refine H.v 27 (.int .i64 ((j : Nat) : Int)) fun a H => ?_
    refine H.valE 28 (.int .i64 (IntKind.i64.wrap (((j : Nat) : Int) * 64))) (.int .i64 ((64 * j : Nat) : Int)) (by kernel_rfl) (by kernel_rfl) ((by rw [wrap_ini64 _ (by omega)]; exact congrArg (Value.int .i64) (by omega))) fun a H => ?_
    refine H.u 29 (.string (bstr (l.drop (64 * j)))) (ex_ssliceL (k := .i64) (l := l) (i := ((64 * j : Nat) : Int)) (a := (64 * j)) (by kernel_rfl) (by kernel_rfl) (by kernel_rfl) (by omega) (by omega)) fun a H => ?_
    refine H.v 7 (.string (bstr (l.drop (64 * j)))) fun a H => ?_
    refine wpList_nil ?_
    obtain ⟨p, hp⟩ : ∃ p, l.drop (64 * j) = p := ⟨_, rfl⟩
    have hpl : 64 ≤ p.length := by rw [← hp, List.length_drop]; omega
    have hp0 : (p.getD 0 0).toNat = (l.getD (64 * j + 0) 0).toNat := by rw [← hp, dropGetD]
    have hpb0 := byte_lt (p.getD 0 0)
    have hp1 : (p.getD 1 0).toNat = (l.getD (64 * j + 1) 0).toNat := by rw [← hp, dropGetD]
    have hpb1 := byte_lt (p.getD 1 0)
    have hp2 : (p.getD 2 0).toNat = (l.getD (64 * j + 2) 0).toNat := by rw [← hp, dropGetD]
    have hpb2 := byte_lt (p.getD 2 0)
    have hp3 : (p.getD 3 0).toNat = (l.getD (64 * j + 3) 0).toNat := by rw [← hp, dropGetD]
    have hpb3 := byte_lt (p.getD 3 0)
    rw [hp] at H
    have H := H.keep (L' := [(7, (.string (bstr p))), (6, (.int .i64 ((j : Nat) : Int))), (5, (.int .i64 ((N : Nat) : Int))), (0, (.string (bstr l)))]) (by kernel_rfl)
    refine then_normal (wp_seq (w_region ?_))
    refine H.v 8 (.int .i64 0) fun a H => ?_
    refine wpList_nil (then_normal ?_)
    refine w_cut (fun a wv => ∃ (f0 : Nat), Sl 76 [(8, (.int .i64 ((f0 : Nat) : Int))), (7, (.string (bstr p))), (6, (.int .i64 ((j : Nat) : Int))), (5, (.int .i64 ((N : Nat) : Int))), (0, (.string (bstr l)))] a ∧ Hp w wv [] [] ∧ ((f0 = 0 ∧ j ≠ 0) ∨ (f0 = 1 ∧ j = 0))) ?_ ?_
    ·
     refine wp_seq (w_region ?_)
     refine H.v 30 (.int .i64 ((j : Nat) : Int)) fun a H => ?_
     refine H.v 31 (.bool (((j : Nat) : Int) == 0)) fun a H => ?_
     refine wpList_nil (then_normal ?_)
     refine w_if H rfl (fun g31 => ?_) (fun g31 => ?_)
     ·have g31p := eq_of_beq g31
      refine w_region ?_
      refine H.v 8 (.int .i64 1) fun a H => ?_
      refine wpList_nil (then_normal ?_)
      exact ⟨1, H.keep (by kernel_rfl), HP, (by omega)⟩
     ·have g31p := ne_of_beq_false g31
      refine wp_skip (then_normal ?_)
      exact ⟨0, H.keep (by kernel_rfl), HP, (by omega)⟩
    ·
     rintro a w_2 ⟨f0, H, HP, hf0⟩
     refine w_cut (fun a wv => ∃ (fl : Nat), Sl 76 [(8, (.int .i64 ((fl : Nat) : Int))), (7, (.string (bstr p))), (6, (.int .i64 ((j : Nat) : Int))), (5, (.int .i64 ((N : Nat) : Int))), (0, (.string (bstr l)))] a ∧ Hp w wv [] [] ∧ (fl = flagsP N j) ∧ (fl < 256)) ?_ ?_
     ·
      refine wp_seq (w_region ?_)
      refine H.v 32 (.int .i64 ((j : Nat) : Int)) fun a H => ?_
      refine H.v 33 (.int .i64 ((N : Nat) : Int)) fun a H => ?_
      refine H.valE 34 (.int .i64 (IntKind.i64.wrap (((N : Nat) : Int) - 1))) (.int .i64 (((N : Nat) : Int) - 1)) (by kernel_rfl) (by kernel_rfl) ((by rw [wrap_ini64 _ (by omega)])) fun a H => ?_
      refine H.v 35 (.bool (((j : Nat) : Int) == (((N : Nat) : Int) - 1))) fun a H => ?_
      refine wpList_nil (then_normal ?_)
      refine w_if H rfl (fun g35 => ?_) (fun g35 => ?_)
      ·have g35p := eq_of_beq g35
       refine w_region ?_
       refine H.v 36 (.int .i64 ((f0 : Nat) : Int)) fun a H => ?_
       refine H.valE 37 (.int .i64 (IntKind.i64.wrap (((f0 : Nat) : Int) + 2))) (.int .i64 ((f0 + 2 : Nat) : Int)) (by kernel_rfl) (by kernel_rfl) ((by rw [wrap_ini64 _ (by omega)]; first | done | exact congrArg (Value.int .i64) (by omega))) fun a H => ?_
       refine H.v 8 (.int .i64 ((f0 + 2 : Nat) : Int)) fun a H => ?_
       refine wpList_nil (then_normal ?_)
       exact ⟨f0 + 2, H.keep (by kernel_rfl), HP, (by unfold flagsP; split <;> split <;> omega), (by omega)⟩
      ·have g35p := ne_of_beq_false g35
       refine wp_skip (then_normal ?_)
       exact ⟨f0, H.keep (by kernel_rfl), HP, (by unfold flagsP; split <;> split <;> omega), (by omega)⟩
     ·
      rintro a w_3 ⟨fl, H, HP, hfl, hflb⟩
      refine wp_seq ?_
      refine An.start (fun v => Hp w v [] []) 31 31 HP wide_follows rfl fun w_4 HP => ?_
      refine An.p H (.inr HP) 0 38 (.string (bstr p)) fun a H => ?_
      refine An.pure H (.inr (HP)) 1 39 (.int .u8 (((p.getD 0 0).toNat : Nat) : Int)) rfl (by kernel_rfl) (by kernel_rfl) (fun _ _ _ h => h) (fun _ => ex_sindex (k := .i64) (l := p) (i := 0) (m := 0) (by kernel_rfl) (by kernel_rfl) (by kernel_rfl) (by omega) (by omega)) fun a H => ?_
      refine An.p H (.inr HP) 2 40 (.bool ((((p.getD 0 0).toNat : Nat) : Int) != 71)) fun a H => ?_
      refine An.p H (.inr HP) 3 41 (.bool ((((p.getD 0 0).toNat : Nat) : Int) != 71)) fun a H => ?_
      refine H.split 41 rfl (fun g41 H => ?_) (fun g41 H => ?_)
      ·have g41p := bne_iff_ne.1 g41
       refine An.s H (.inr HP) 4 42 fun a H => ?_
       refine An.s H (.inr HP) 5 43 fun a H => ?_
       refine An.s H (.inr HP) 6 44 fun a H => ?_
       refine An.s H (.inr HP) 7 45 fun a H => ?_
       refine An.s H (.inr HP) 8 46 fun a H => ?_
       refine An.p H (.inr HP) 9 47 (.bool true) fun a H => ?_
       refine An.p H (.inr HP) 10 48 (.bool true) fun a H => ?_
       refine An.s H (.inr HP) 11 49 fun a H => ?_
       refine An.s H (.inr HP) 12 50 fun a H => ?_
       refine An.s H (.inr HP) 13 51 fun a H => ?_
       refine An.s H (.inr HP) 14 52 fun a H => ?_
       refine An.s H (.inr HP) 15 53 fun a H => ?_
       refine An.s H (.inr HP) 16 54 fun a H => ?_
       refine An.s H (.inr HP) 17 55 fun a H => ?_
       refine An.s H (.inr HP) 18 56 fun a H => ?_
       refine An.s H (.inr HP) 19 57 fun a H => ?_
       refine An.s H (.inr HP) 20 58 fun a H => ?_
       refine An.s H (.inr HP) 21 59 fun a H => ?_
       refine An.s H (.inr HP) 22 60 fun a H => ?_
       refine An.p H (.inr HP) 23 61 (.bool true) fun a H => ?_
       refine An.p H (.inr HP) 24 62 (.bool true) fun a H => ?_
       refine An.s H (.inr HP) 25 63 fun a H => ?_
       refine An.s H (.inr HP) 26 64 fun a H => ?_
       refine An.s H (.inr HP) 27 65 fun a H => ?_
       refine An.s H (.inr HP) 28 66 fun a H => ?_
       refine An.s H (.inr HP) 29 67 fun a H => ?_
       refine An.p H (.inr HP) 30 68 (.bool true) fun a H => ?_
       refine An.done (by kernel_rfl) ?_
       have H := H.keep (L' := [(68, (.bool true)), (8, (.int .i64 ((fl : Nat) : Int))), (7, (.string (bstr p))), (6, (.int .i64 ((j : Nat) : Int))), (5, (.int .i64 ((N : Nat) : Int))), (0, (.string (bstr l)))]) (by kernel_rfl)
       refine then_normal ?_
       refine w_ift H rfl ?_
       refine wp_seq (w_region ?_)
       refine H.v 2 (.bool false) fun a H => ?_
       refine H.v 3 (.int .i64 0) fun a H => ?_
       refine H.v 4 (.int .i64 0) fun a H => ?_
       refine wpList_nil (then_normal (wp_ret (inb_ret (then_ret (then_ret (inb_ret (then_ret ?_)))))))
       refine H.ret3 (fn := Tryd.f48) Tryd.results48 (RV.tmp_ (v := (.bool false)) (by kernel_rfl)) (RV.tmp_ (v := (.int .i64 0)) (by kernel_rfl)) (RV.tmp_ (v := (.int .i64 0)) (by kernel_rfl)) ?_
       exact ⟨by unfold examineP; rw [hN, if_pos (.inr (.inr (exOk_no (j := j) (by omega) (decide_eq_false (by omega)))))]; rfl, (HP.below (by kernel_rfl))⟩
      ·have g41p := eq_of_bne_false g41
       refine An.p H (.inr HP) 4 42 (.string (bstr p)) fun a H => ?_
       refine An.pure H (.inr (HP)) 5 43 (.int .u8 (((p.getD 1 0).toNat : Nat) : Int)) rfl (by kernel_rfl) (by kernel_rfl) (fun _ _ _ h => h) (fun _ => ex_sindex (k := .i64) (l := p) (i := 1) (m := 1) (by kernel_rfl) (by kernel_rfl) (by kernel_rfl) (by omega) (by omega)) fun a H => ?_
       refine An.p H (.inr HP) 6 44 (.string (bstr l)) fun a H => ?_
       refine An.pure H (.inr (HP)) 7 45 (.int .u8 (((l.getD 1 0).toNat : Nat) : Int)) rfl (by kernel_rfl) (by kernel_rfl) (fun _ _ _ h => h) (fun _ => ex_sindex (k := .i64) (l := l) (i := 1) (m := 1) (by kernel_rfl) (by kernel_rfl) (by kernel_rfl) (by omega) (by omega)) fun a H => ?_
       refine An.p H (.inr HP) 8 46 (.bool ((((p.getD 1 0).toNat : Nat) : Int) != (((l.getD 1 0).toNat : Nat) : Int))) fun a H => ?_
       refine An.p H (.inr HP) 9 47 (.bool ((((p.getD 1 0).toNat : Nat) : Int) != (((l.getD 1 0).toNat : Nat) : Int))) fun a H => ?_
       refine An.p H (.inr HP) 10 48 (.bool ((((p.getD 1 0).toNat : Nat) : Int) != (((l.getD 1 0).toNat : Nat) : Int))) fun a H => ?_
       refine H.split 48 rfl (fun g48 H => ?_) (fun g48 H => ?_)
       ·have g48p := bne_iff_ne.1 g48
        refine An.s H (.inr HP) 11 49 fun a H => ?_
        refine An.s H (.inr HP) 12 50 fun a H => ?_
        refine An.s H (.inr HP) 13 51 fun a H => ?_
        refine An.s H (.inr HP) 14 52 fun a H => ?_
        refine An.s H (.inr HP) 15 53 fun a H => ?_
        refine An.s H (.inr HP) 16 54 fun a H => ?_
        refine An.s H (.inr HP) 17 55 fun a H => ?_
        refine An.s H (.inr HP) 18 56 fun a H => ?_
        refine An.s H (.inr HP) 19 57 fun a H => ?_
        refine An.s H (.inr HP) 20 58 fun a H => ?_
        refine An.s H (.inr HP) 21 59 fun a H => ?_
        refine An.s H (.inr HP) 22 60 fun a H => ?_
        refine An.p H (.inr HP) 23 61 (.bool true) fun a H => ?_
        refine An.p H (.inr HP) 24 62 (.bool true) fun a H => ?_
        refine An.s H (.inr HP) 25 63 fun a H => ?_
        refine An.s H (.inr HP) 26 64 fun a H => ?_
        refine An.s H (.inr HP) 27 65 fun a H => ?_
        refine An.s H (.inr HP) 28 66 fun a H => ?_
        refine An.s H (.inr HP) 29 67 fun a H => ?_
        refine An.p H (.inr HP) 30 68 (.bool true) fun a H => ?_
        refine An.done (by kernel_rfl) ?_
        have H := H.keep (L' := [(68, (.bool true)), (8, (.int .i64 ((fl : Nat) : Int))), (7, (.string (bstr p))), (6, (.int .i64 ((j : Nat) : Int))), (5, (.int .i64 ((N : Nat) : Int))), (0, (.string (bstr l)))]) (by kernel_rfl)
        refine then_normal ?_
        refine w_ift H rfl ?_
        refine wp_seq (w_region ?_)
        refine H.v 2 (.bool false) fun a H => ?_
        refine H.v 3 (.int .i64 0) fun a H => ?_
        refine H.v 4 (.int .i64 0) fun a H => ?_
        refine wpList_nil (then_normal (wp_ret (inb_ret (then_ret (then_ret (inb_ret (then_ret ?_)))))))
        refine H.ret3 (fn := Tryd.f48) Tryd.results48 (RV.tmp_ (v := (.bool false)) (by kernel_rfl)) (RV.tmp_ (v := (.int .i64 0)) (by kernel_rfl)) (RV.tmp_ (v := (.int .i64 0)) (by kernel_rfl)) ?_
        exact ⟨by unfold examineP; rw [hN, if_pos (.inr (.inr (exOk_no (j := j) (by omega) (decide_eq_false (by omega)))))]; rfl, (HP.below (by kernel_rfl))⟩
       ·have g48p := eq_of_bne_false g48
        refine An.p H (.inr HP) 11 49 (.string (bstr p)) fun a H => ?_
        refine An.pure H (.inr (HP)) 12 50 (.int .u8 (((p.getD 2 0).toNat : Nat) : Int)) rfl (by kernel_rfl) (by kernel_rfl) (fun _ _ _ h => h) (fun _ => ex_sindex (k := .i64) (l := p) (i := 2) (m := 2) (by kernel_rfl) (by kernel_rfl) (by kernel_rfl) (by omega) (by omega)) fun a H => ?_
        refine An.pureE H (.inr (HP)) 13 51 (.int .i64 (IntKind.i64.wrap (((p.getD 2 0).toNat : Nat) : Int))) (.int .i64 (((p.getD 2 0).toNat : Nat) : Int)) rfl (by kernel_rfl) (by kernel_rfl) (fun _ _ _ h => h) (fun _ => by kernel_rfl) ((by rw [wrap_ini64 _ (by omega)])) fun a H => ?_
        refine An.p H (.inr HP) 14 52 (.string (bstr l)) fun a H => ?_
        refine An.pure H (.inr (HP)) 15 53 (.int .u8 (((l.getD 2 0).toNat : Nat) : Int)) rfl (by kernel_rfl) (by kernel_rfl) (fun _ _ _ h => h) (fun _ => ex_sindex (k := .i64) (l := l) (i := 2) (m := 2) (by kernel_rfl) (by kernel_rfl) (by kernel_rfl) (by omega) (by omega)) fun a H => ?_
        refine An.pureE H (.inr (HP)) 16 54 (.int .i64 (IntKind.i64.wrap (((l.getD 2 0).toNat : Nat) : Int))) (.int .i64 (((l.getD 2 0).toNat : Nat) : Int)) rfl (by kernel_rfl) (by kernel_rfl) (fun _ _ _ h => h) (fun _ => by kernel_rfl) ((by rw [wrap_ini64 _ (by omega)])) fun a H => ?_
        refine An.pureE H (.inr (HP)) 17 55 (.int .i64 (IntKind.i64.wrap ((((l.getD 2 0).toNat : Nat) : Int).tdiv 16))) (.int .i64 (((l.getD 2 0).toNat / 16 : Nat) : Int)) rfl (by kernel_rfl) (by kernel_rfl) (fun _ _ _ h => h) (fun _ => by kernel_rfl) ((by rw [tdiv_nn _ _ (by omega), wrap_ini64 _ (by omega)]; first | done | exact congrArg (Value.int .i64) (by omega))) fun a H => ?_
        refine An.pureE H (.inr (HP)) 18 56 (.int .i64 (IntKind.i64.wrap ((((l.getD 2 0).toNat / 16 : Nat) : Int) * 16))) (.int .i64 (((l.getD 2 0).toNat / 16 * 16 : Nat) : Int)) rfl (by kernel_rfl) (by kernel_rfl) (fun _ _ _ h => h) (fun _ => by kernel_rfl) ((by rw [wrap_ini64 _ (by omega)]; first | done | exact congrArg (Value.int .i64) (by omega))) fun a H => ?_
        refine An.p H (.inr HP) 19 57 (.int .i64 ((j : Nat) : Int)) fun a H => ?_
        refine An.pureE H (.inr (HP)) 20 58 (.int .i64 (((j : Nat) : Int).tmod 16)) (.int .i64 ((j % 16 : Nat) : Int)) rfl (by kernel_rfl) (by kernel_rfl) (fun _ _ _ h => h) (fun _ => by kernel_rfl) ((by rw [tmod_nn _ _ (by omega)]; exact congrArg (Value.int .i64) (by omega))) fun a H => ?_
        refine An.pureE H (.inr (HP)) 21 59 (.int .i64 (IntKind.i64.wrap ((((l.getD 2 0).toNat / 16 * 16 : Nat) : Int) + ((j % 16 : Nat) : Int)))) (.int .i64 (((l.getD 2 0).toNat / 16 * 16 + j % 16 : Nat) : Int)) rfl (by kernel_rfl) (by kernel_rfl) (fun _ _ _ h => h) (fun _ => by kernel_rfl) ((by rw [wrap_ini64 _ (by omega)]; first | done | exact congrArg (Value.int .i64) (by omega))) fun a H => ?_
        refine An.p H (.inr HP) 22 60 (.bool ((((p.getD 2 0).toNat : Nat) : Int) != (((l.getD 2 0).toNat / 16 * 16 + j % 16 : Nat) : Int))) fun a H => ?_
        refine An.p H (.inr HP) 23 61 (.bool ((((p.getD 2 0).toNat : Nat) : Int) != (((l.getD 2 0).toNat / 16 * 16 + j % 16 : Nat) : Int))) fun a H => ?_
        refine An.p H (.inr HP) 24 62 (.bool ((((p.getD 2 0).toNat : Nat) : Int) != (((l.getD 2 0).toNat / 16 * 16 + j % 16 : Nat) : Int))) fun a H => ?_
        refine H.split 62 rfl (fun g62 H => ?_) (fun g62 H => ?_)
        ·have g62p := bne_iff_ne.1 g62
         refine An.s H (.inr HP) 25 63 fun a H => ?_
         refine An.s H (.inr HP) 26 64 fun a H => ?_
         refine An.s H (.inr HP) 27 65 fun a H => ?_
         refine An.s H (.inr HP) 28 66 fun a H => ?_
         refine An.s H (.inr HP) 29 67 fun a H => ?_
         refine An.p H (.inr HP) 30 68 (.bool true) fun a H => ?_
         refine An.done (by kernel_rfl) ?_
         have H := H.keep (L' := [(68, (.bool true)), (8, (.int .i64 ((fl : Nat) : Int))), (7, (.string (bstr p))), (6, (.int .i64 ((j : Nat) : Int))), (5, (.int .i64 ((N : Nat) : Int))), (0, (.string (bstr l)))]) (by kernel_rfl)
         refine then_normal ?_
         refine w_ift H rfl ?_
         refine wp_seq (w_region ?_)
         refine H.v 2 (.bool false) fun a H => ?_
         refine H.v 3 (.int .i64 0) fun a H => ?_
         refine H.v 4 (.int .i64 0) fun a H => ?_
         refine wpList_nil (then_normal (wp_ret (inb_ret (then_ret (then_ret (inb_ret (then_ret ?_)))))))
         refine H.ret3 (fn := Tryd.f48) Tryd.results48 (RV.tmp_ (v := (.bool false)) (by kernel_rfl)) (RV.tmp_ (v := (.int .i64 0)) (by kernel_rfl)) (RV.tmp_ (v := (.int .i64 0)) (by kernel_rfl)) ?_
         exact ⟨by unfold examineP; rw [hN, if_pos (.inr (.inr (exOk_no (j := j) (by omega) (decide_eq_false (by omega)))))]; rfl, (HP.below (by kernel_rfl))⟩
        ·have g62p := eq_of_bne_false g62
         refine An.p H (.inr HP) 25 63 (.string (bstr p)) fun a H => ?_
         refine An.pure H (.inr (HP)) 26 64 (.int .u8 (((p.getD 3 0).toNat : Nat) : Int)) rfl (by kernel_rfl) (by kernel_rfl) (fun _ _ _ h => h) (fun _ => ex_sindex (k := .i64) (l := p) (i := 3) (m := 3) (by kernel_rfl) (by kernel_rfl) (by kernel_rfl) (by omega) (by omega)) fun a H => ?_
         refine An.pureE H (.inr (HP)) 27 65 (.int .i64 (IntKind.i64.wrap (((p.getD 3 0).toNat : Nat) : Int))) (.int .i64 (((p.getD 3 0).toNat : Nat) : Int)) rfl (by kernel_rfl) (by kernel_rfl) (fun _ _ _ h => h) (fun _ => by kernel_rfl) ((by rw [wrap_ini64 _ (by omega)])) fun a H => ?_
         refine An.p H (.inr HP) 28 66 (.int .i64 ((fl : Nat) : Int)) fun a H => ?_
         refine An.p H (.inr HP) 29 67 (.bool ((((p.getD 3 0).toNat : Nat) : Int) != ((fl : Nat) : Int))) fun a H => ?_
         refine An.p H (.inr HP) 30 68 (.bool ((((p.getD 3 0).toNat : Nat) : Int) != ((fl : Nat) : Int))) fun a H => ?_
         refine An.done (by kernel_rfl) ?_
         have H := H.keep (L' := [(68, (.bool ((((p.getD 3 0).toNat : Nat) : Int) != ((fl : Nat) : Int)))), (8, (.int .i64 ((fl : Nat) : Int))), (7, (.string (bstr p))), (6, (.int .i64 ((j : Nat) : Int))), (5, (.int .i64 ((N : Nat) : Int))), (0, (.string (bstr l)))]) (by kernel_rfl)
         refine then_normal ?_
         refine w_if H rfl (fun g68 => ?_) (fun g68 => ?_)
         ·have g68p := bne_iff_ne.1 g68
          refine wp_seq (w_region ?_)
          refine H.v 2 (.bool false) fun a H => ?_
          refine H.v 3 (.int .i64 0) fun a H => ?_
          refine H.v 4 (.int .i64 0) fun a H => ?_
          refine wpList_nil (then_normal (wp_ret (inb_ret (then_ret (then_ret (inb_ret (then_ret ?_)))))))
          refine H.ret3 (fn := Tryd.f48) Tryd.results48 (RV.tmp_ (v := (.bool false)) (by kernel_rfl)) (RV.tmp_ (v := (.int .i64 0)) (by kernel_rfl)) (RV.tmp_ (v := (.int .i64 0)) (by kernel_rfl)) ?_
          exact ⟨by unfold examineP; rw [hN, if_pos (.inr (.inr (exOk_no (j := j) (by omega) (decide_eq_false (by omega)))))]; rfl, (HP.below (by kernel_rfl))⟩
         ·have g68p := eq_of_bne_false g68
          refine wp_skip (inb_normal (then_normal (w_region ?_)))
          refine H.v 24 (.int .i64 ((j : Nat) : Int)) fun a H => ?_
          refine H.valE 25 (.int .i64 (IntKind.i64.wrap (((j : Nat) : Int) + 1))) (.int .i64 (((j : Nat) : Int) + 1)) (by kernel_rfl) (by kernel_rfl) ((by rw [wrap_ini64 _ (by omega)])) fun a H => ?_
          refine H.v 6 (.int .i64 (((j : Nat) : Int) + 1)) fun a H => ?_
          refine wpList_nil (then_normal ?_)
          have H := H.as 6 (.int .i64 ((j + 1 : Nat) : Int)) rfl rfl
          refine ⟨_, ?_, j + 1, rfl, H.keep (by kernel_rfl), HP, by omega, exOk_succ hex (decide_eq_true (by omega))⟩
          omega
   ·have g23p := of_decide_eq_false g23
    refine wp_exit (then_exit (then_exit ?_))
    refine w_exit_here ?_
    refine then_normal (wp_seq ?_)
    refine An.start (fun v => Hp w v [] []) 10 10 HP wide_follows rfl fun w_5 HP => ?_
    refine An.p H (.inr HP) 0 69 (.string (bstr l)) fun a H => ?_
    refine An.pure H (.inr (HP)) 1 70 (.int .u8 (((l.getD 2 0).toNat : Nat) : Int)) rfl (by kernel_rfl) (by kernel_rfl) (fun _ _ _ h => h) (fun _ => ex_sindex (k := .i64) (l := l) (i := 2) (m := 2) (by kernel_rfl) (by kernel_rfl) (by kernel_rfl) (by omega) (by omega)) fun a H => ?_
    refine An.pureE H (.inr (HP)) 2 71 (.int .i64 (IntKind.i64.wrap (((l.getD 2 0).toNat : Nat) : Int))) (.int .i64 (((l.getD 2 0).toNat : Nat) : Int)) rfl (by kernel_rfl) (by kernel_rfl) (fun _ _ _ h => h) (fun _ => by kernel_rfl) ((by rw [wrap_ini64 _ (by omega)])) fun a H => ?_
    refine An.pureE H (.inr (HP)) 3 72 (.int .i64 (IntKind.i64.wrap ((((l.getD 2 0).toNat : Nat) : Int).tdiv 16))) (.int .i64 (((l.getD 2 0).toNat / 16 : Nat) : Int)) rfl (by kernel_rfl) (by kernel_rfl) (fun _ _ _ h => h) (fun _ => by kernel_rfl) ((by rw [tdiv_nn _ _ (by omega), wrap_ini64 _ (by omega)]; first | done | exact congrArg (Value.int .i64) (by omega))) fun a H => ?_
    refine An.p H (.inr HP) 4 73 (.string (bstr l)) fun a H => ?_
    refine An.pure H (.inr (HP)) 5 74 (.int .u8 (((l.getD 1 0).toNat : Nat) : Int)) rfl (by kernel_rfl) (by kernel_rfl) (fun _ _ _ h => h) (fun _ => ex_sindex (k := .i64) (l := l) (i := 1) (m := 1) (by kernel_rfl) (by kernel_rfl) (by kernel_rfl) (by omega) (by omega)) fun a H => ?_
    refine An.pureE H (.inr (HP)) 6 75 (.int .i64 (IntKind.i64.wrap (((l.getD 1 0).toNat : Nat) : Int))) (.int .i64 (((l.getD 1 0).toNat : Nat) : Int)) rfl (by kernel_rfl) (by kernel_rfl) (fun _ _ _ h => h) (fun _ => by kernel_rfl) ((by rw [wrap_ini64 _ (by omega)])) fun a H => ?_
    refine An.p H (.inr HP) 7 2 (.bool true) fun a H => ?_
    refine An.p H (.inr HP) 8 3 (.int .i64 (((l.getD 2 0).toNat / 16 : Nat) : Int)) fun a H => ?_
    refine An.p H (.inr HP) 9 4 (.int .i64 (((l.getD 1 0).toNat : Nat) : Int)) fun a H => ?_
    refine An.done (by kernel_rfl) ?_
    refine then_normal (wp_ret ?_)
    refine H.ret3 (fn := Tryd.f48) Tryd.results48 (RV.tmp_ (v := (.bool true)) (by kernel_rfl)) (RV.tmp_ (v := (.int .i64 (((l.getD 2 0).toNat / 16 : Nat) : Int))) (by kernel_rfl)) (RV.tmp_ (v := (.int .i64 (((l.getD 1 0).toNat : Nat) : Int))) (by kernel_rfl)) ?_
    exact ⟨by unfold examineP; have hjN : j = N := (by omega); subst hjN; rw [hN, if_neg (by rintro (h | h | h); omega; omega; rw [hex] at h; cases h)]; rfl, (HP.below (by kernel_rfl))⟩
set_option maxRecDepth 100000 in
set_option maxHeartbeats 4000000 in
theorem rfollows_any (la lb : List UInt8) (w : World) (ha : la.length ≤ 1000000) (hb0 : lb.length ≤ 1000000) :
  Calls Tryd.prog 25 #[.string (bstr la), .string (bstr lb)] w fun e w' => e = .returned (.bool (followsP la lb)) ∧ Below w.heap.size w w' := by
 have HP := Hp.start w
 obtain ⟨X, hX⟩ : ∃ X, examineP la = X := ⟨_, rfl⟩
 obtain ⟨Y, hY⟩ : ∃ Y, examineP lb = Y := ⟨_, rfl⟩
 have hxb : (X.getD (0, 0)).2 < 16 := by rw [← hX]; exact exam_bd la
 refine w_enter 39 [(0, (.string (bstr la))), (1, (.string (bstr lb)))] Tryd.func25 rfl Tryd.ntmps25 (by kernel_rfl) (by kernel_rfl) fun a H => ?_
 refine wp_seq (w_region ?_)
 refine H.v 4 (.bool false) fun a H => ?_
 refine wpList_nil (then_normal (wp_seq (w_region ?_)))
 refine H.v 12 (.string (bstr la)) fun a H => ?_
 refine H.call 13 (by kernel_rfl) (Eq.trans (by kernel_rfl : _ = (callFunc 48 #[(.string (bstr la))]).run Tryd.prog w) (Tryd.call48 _ _)) ((by have hh := rheaders_any la w ha; unfold headV at hh; rw [hX] at hh; exact hh)) ?_
 rintro e w_1 ⟨rfl, hb⟩
 refine ⟨_, rfl, ?_⟩
 intro a H
 have HP := HP.next hb
 refine H.v 11 (.tuple #[(.bool X.isSome), (.int .i64 (((X.getD (0, 0)).2 : Nat) : Int)), (.int .i64 (((X.getD (0, 0)).1 : Nat) : Int))]) fun a H => ?_
 refine H.v 14 (.bool X.isSome) fun a H => ?_
 refine H.v 15 (.int .i64 (((X.getD (0, 0)).2 : Nat) : Int)) fun a H => ?_
 refine H.v 16 (.int .i64 (((X.getD (0, 0)).1 : Nat) : Int)) fun a H => ?_
 refine H.v 5 (.bool X.isSome) fun a H => ?_
 refine H.v 6 (.int .i64 (((X.getD (0, 0)).2 : Nat) : Int)) fun a H => ?_
 refine H.v 7 (.int .i64 (((X.getD (0, 0)).1 : Nat) : Int)) fun a H => ?_
 refine wpList_nil (then_normal (wp_seq (w_region ?_)))
 refine H.v 18 (.string (bstr lb)) fun a H => ?_
 refine H.call 19 (by kernel_rfl) (Eq.trans (by kernel_rfl : _ = (callFunc 48 #[(.string (bstr lb))]).run Tryd.prog w_1) (Tryd.call48 _ _)) ((by have hh := rheaders_any lb w_1 hb0; unfold headV at hh; rw [hY] at hh; exact hh)) ?_
 rintro e w_2 ⟨rfl, hb⟩
 refine ⟨_, rfl, ?_⟩
 intro a H
 have HP := HP.next hb
 refine H.v 17 (.tuple #[(.bool Y.isSome), (.int .i64 (((Y.getD (0, 0)).2 : Nat) : Int)), (.int .i64 (((Y.getD (0, 0)).1 : Nat) : Int))]) fun a H => ?_
 refine H.v 20 (.bool Y.isSome) fun a H => ?_
 refine H.v 21 (.int .i64 (((Y.getD (0, 0)).2 : Nat) : Int)) fun a H => ?_
 refine H.v 22 (.int .i64 (((Y.getD (0, 0)).1 : Nat) : Int)) fun a H => ?_
 refine H.v 8 (.bool Y.isSome) fun a H => ?_
 refine H.v 9 (.int .i64 (((Y.getD (0, 0)).2 : Nat) : Int)) fun a H => ?_
 refine H.v 10 (.int .i64 (((Y.getD (0, 0)).1 : Nat) : Int)) fun a H => ?_
 refine wpList_nil (then_normal (wp_seq (w_region ?_)))
 refine H.v 23 (.bool X.isSome) fun a H => ?_
 refine H.v 24 (.bool X.isSome) fun a H => ?_
 refine H.split 24 rfl (fun g24 H => ?_) (fun g24 H => ?_)
 ·have g24p := g24
  refine H.v 25 (.bool Y.isSome) fun a H => ?_
  refine H.v 26 (.bool Y.isSome) fun a H => ?_
  refine H.v 27 (.bool Y.isSome) fun a H => ?_
  refine H.split 27 rfl (fun g27 H => ?_) (fun g27 H => ?_)
  ·have g27p := g27
   refine H.v 28 (.int .i64 (((X.getD (0, 0)).1 : Nat) : Int)) fun a H => ?_
   refine H.v 29 (.int .i64 (((Y.getD (0, 0)).1 : Nat) : Int)) fun a H => ?_
   refine H.v 30 (.bool ((((X.getD (0, 0)).1 : Nat) : Int) == (((Y.getD (0, 0)).1 : Nat) : Int))) fun a H => ?_
   refine H.v 31 (.bool ((((X.getD (0, 0)).1 : Nat) : Int) == (((Y.getD (0, 0)).1 : Nat) : Int))) fun a H => ?_
   refine H.v 32 (.bool ((((X.getD (0, 0)).1 : Nat) : Int) == (((Y.getD (0, 0)).1 : Nat) : Int))) fun a H => ?_
   refine H.split 32 rfl (fun g32 H => ?_) (fun g32 H => ?_)
   ·have g32p := eq_of_beq g32
    refine H.v 33 (.int .i64 (((Y.getD (0, 0)).2 : Nat) : Int)) fun a H => ?_
    refine H.v 34 (.int .i64 (((X.getD (0, 0)).2 : Nat) : Int)) fun a H => ?_
    refine H.valE 35 (.int .i64 (IntKind.i64.wrap ((((X.getD (0, 0)).2 : Nat) : Int) + 1))) (.int .i64 ((((X.getD (0, 0)).2 + 1) : Nat) : Int)) (by kernel_rfl) (by kernel_rfl) ((by rw [wrap_ini64 _ (by omega)]; first | done | exact congrArg (Value.int .i64) (by omega))) fun a H => ?_
    refine H.valE 36 (.int .i64 (((((X.getD (0, 0)).2 + 1) : Nat) : Int).tmod 16)) (.int .i64 ((((X.getD (0, 0)).2 + 1) % 16 : Nat) : Int)) (by kernel_rfl) (by kernel_rfl) ((by rw [tmod_nn _ _ (by omega)]; exact congrArg (Value.int .i64) (by omega))) fun a H => ?_
    refine H.v 37 (.bool ((((Y.getD (0, 0)).2 : Nat) : Int) == ((((X.getD (0, 0)).2 + 1) % 16 : Nat) : Int))) fun a H => ?_
    refine H.v 38 (.bool ((((Y.getD (0, 0)).2 : Nat) : Int) == ((((X.getD (0, 0)).2 + 1) % 16 : Nat) : Int))) fun a H => ?_
    refine H.v 4 (.bool ((((Y.getD (0, 0)).2 : Nat) : Int) == ((((X.getD (0, 0)).2 + 1) % 16 : Nat) : Int))) fun a H => ?_
    refine wpList_nil ?_
    have H := H.keep (L' := [(4, (.bool ((((Y.getD (0, 0)).2 : Nat) : Int) == ((((X.getD (0, 0)).2 + 1) % 16 : Nat) : Int)))), (10, (.int .i64 (((Y.getD (0, 0)).1 : Nat) : Int))), (9, (.int .i64 (((Y.getD (0, 0)).2 : Nat) : Int))), (8, (.bool Y.isSome)), (22, (.int .i64 (((Y.getD (0, 0)).1 : Nat) : Int))), (21, (.int .i64 (((Y.getD (0, 0)).2 : Nat) : Int))), (20, (.bool Y.isSome)), (17, (.tuple #[(.bool Y.isSome), (.int .i64 (((Y.getD (0, 0)).2 : Nat) : Int)), (.int .i64 (((Y.getD (0, 0)).1 : Nat) : Int))])), (19, (.tuple #[(.bool Y.isSome), (.int .i64 (((Y.getD (0, 0)).2 : Nat) : Int)), (.int .i64 (((Y.getD (0, 0)).1 : Nat) : Int))])), (18, (.string (bstr lb))), (7, (.int .i64 (((X.getD (0, 0)).1 : Nat) : Int))), (6, (.int .i64 (((X.getD (0, 0)).2 : Nat) : Int))), (5, (.bool X.isSome)), (16, (.int .i64 (((X.getD (0, 0)).1 : Nat) : Int))), (15, (.int .i64 (((X.getD (0, 0)).2 : Nat) : Int))), (14, (.bool X.isSome)), (11, (.tuple #[(.bool X.isSome), (.int .i64 (((X.getD (0, 0)).2 : Nat) : Int)), (.int .i64 (((X.getD (0, 0)).1 : Nat) : Int))])), (13, (.tuple #[(.bool X.isSome), (.int .i64 (((X.getD (0, 0)).2 : Nat) : Int)), (.int .i64 (((X.getD (0, 0)).1 : Nat) : Int))])), (12, (.string (bstr la))), (0, (.string (bstr la))), (1, (.string (bstr lb)))]) (by kernel_rfl)
    refine then_normal (wp_ret ?_)
    refine H.ret1 (fn := Tryd.f25) Tryd.results25 (RV.tmp_ (v := (.bool ((((Y.getD (0, 0)).2 : Nat) : Int) == ((((X.getD (0, 0)).2 + 1) % 16 : Nat) : Int)))) (by kernel_rfl)) ?_
    exact ⟨by unfold followsP; simp only [hX, hY, g24, g27, g32, Bool.true_and, Bool.false_and, Bool.and_false], (HP.below (by kernel_rfl))⟩
   ·have g32p := ne_of_beq_false g32
    refine H.s 33 fun a H => ?_
    refine H.s 34 fun a H => ?_
    refine H.s 35 fun a H => ?_
    refine H.s 36 fun a H => ?_
    refine H.s 37 fun a H => ?_
    refine H.v 38 (.bool false) fun a H => ?_
    refine H.v 4 (.bool false) fun a H => ?_
    refine wpList_nil ?_
    have H := H.keep (L' := [(4, (.bool false)), (10, (.int .i64 (((Y.getD (0, 0)).1 : Nat) : Int))), (9, (.int .i64 (((Y.getD (0, 0)).2 : Nat) : Int))), (8, (.bool Y.isSome)), (22, (.int .i64 (((Y.getD (0, 0)).1 : Nat) : Int))), (21, (.int .i64 (((Y.getD (0, 0)).2 : Nat) : Int))), (20, (.bool Y.isSome)), (17, (.tuple #[(.bool Y.isSome), (.int .i64 (((Y.getD (0, 0)).2 : Nat) : Int)), (.int .i64 (((Y.getD (0, 0)).1 : Nat) : Int))])), (19, (.tuple #[(.bool Y.isSome), (.int .i64 (((Y.getD (0, 0)).2 : Nat) : Int)), (.int .i64 (((Y.getD (0, 0)).1 : Nat) : Int))])), (18, (.string (bstr lb))), (7, (.int .i64 (((X.getD (0, 0)).1 : Nat) : Int))), (6, (.int .i64 (((X.getD (0, 0)).2 : Nat) : Int))), (5, (.bool X.isSome)), (16, (.int .i64 (((X.getD (0, 0)).1 : Nat) : Int))), (15, (.int .i64 (((X.getD (0, 0)).2 : Nat) : Int))), (14, (.bool X.isSome)), (11, (.tuple #[(.bool X.isSome), (.int .i64 (((X.getD (0, 0)).2 : Nat) : Int)), (.int .i64 (((X.getD (0, 0)).1 : Nat) : Int))])), (13, (.tuple #[(.bool X.isSome), (.int .i64 (((X.getD (0, 0)).2 : Nat) : Int)), (.int .i64 (((X.getD (0, 0)).1 : Nat) : Int))])), (12, (.string (bstr la))), (0, (.string (bstr la))), (1, (.string (bstr lb)))]) (by kernel_rfl)
    refine then_normal (wp_ret ?_)
    refine H.ret1 (fn := Tryd.f25) Tryd.results25 (RV.tmp_ (v := (.bool false)) (by kernel_rfl)) ?_
    exact ⟨by unfold followsP; simp only [hX, hY, g24, g27, g32, Bool.true_and, Bool.false_and, Bool.and_false], (HP.below (by kernel_rfl))⟩
  ·have g27p := g27
   refine H.s 28 fun a H => ?_
   refine H.s 29 fun a H => ?_
   refine H.s 30 fun a H => ?_
   refine H.v 31 (.bool false) fun a H => ?_
   refine H.v 32 (.bool false) fun a H => ?_
   refine H.s 33 fun a H => ?_
   refine H.s 34 fun a H => ?_
   refine H.s 35 fun a H => ?_
   refine H.s 36 fun a H => ?_
   refine H.s 37 fun a H => ?_
   refine H.v 38 (.bool false) fun a H => ?_
   refine H.v 4 (.bool false) fun a H => ?_
   refine wpList_nil ?_
   have H := H.keep (L' := [(4, (.bool false)), (10, (.int .i64 (((Y.getD (0, 0)).1 : Nat) : Int))), (9, (.int .i64 (((Y.getD (0, 0)).2 : Nat) : Int))), (8, (.bool Y.isSome)), (22, (.int .i64 (((Y.getD (0, 0)).1 : Nat) : Int))), (21, (.int .i64 (((Y.getD (0, 0)).2 : Nat) : Int))), (20, (.bool Y.isSome)), (17, (.tuple #[(.bool Y.isSome), (.int .i64 (((Y.getD (0, 0)).2 : Nat) : Int)), (.int .i64 (((Y.getD (0, 0)).1 : Nat) : Int))])), (19, (.tuple #[(.bool Y.isSome), (.int .i64 (((Y.getD (0, 0)).2 : Nat) : Int)), (.int .i64 (((Y.getD (0, 0)).1 : Nat) : Int))])), (18, (.string (bstr lb))), (7, (.int .i64 (((X.getD (0, 0)).1 : Nat) : Int))), (6, (.int .i64 (((X.getD (0, 0)).2 : Nat) : Int))), (5, (.bool X.isSome)), (16, (.int .i64 (((X.getD (0, 0)).1 : Nat) : Int))), (15, (.int .i64 (((X.getD (0, 0)).2 : Nat) : Int))), (14, (.bool X.isSome)), (11, (.tuple #[(.bool X.isSome), (.int .i64 (((X.getD (0, 0)).2 : Nat) : Int)), (.int .i64 (((X.getD (0, 0)).1 : Nat) : Int))])), (13, (.tuple #[(.bool X.isSome), (.int .i64 (((X.getD (0, 0)).2 : Nat) : Int)), (.int .i64 (((X.getD (0, 0)).1 : Nat) : Int))])), (12, (.string (bstr la))), (0, (.string (bstr la))), (1, (.string (bstr lb)))]) (by kernel_rfl)
   refine then_normal (wp_ret ?_)
   refine H.ret1 (fn := Tryd.f25) Tryd.results25 (RV.tmp_ (v := (.bool false)) (by kernel_rfl)) ?_
   exact ⟨by unfold followsP; simp only [hX, hY, g24, g27, Bool.true_and, Bool.false_and, Bool.and_false], (HP.below (by kernel_rfl))⟩
 ·have g24p := g24
  refine H.s 25 fun a H => ?_
  refine H.v 26 (.bool false) fun a H => ?_
  refine H.v 27 (.bool false) fun a H => ?_
  refine H.s 28 fun a H => ?_
  refine H.s 29 fun a H => ?_
  refine H.s 30 fun a H => ?_
  refine H.v 31 (.bool false) fun a H => ?_
  refine H.v 32 (.bool false) fun a H => ?_
  refine H.s 33 fun a H => ?_
  refine H.s 34 fun a H => ?_
  refine H.s 35 fun a H => ?_
  refine H.s 36 fun a H => ?_
  refine H.s 37 fun a H => ?_
  refine H.v 38 (.bool false) fun a H => ?_
  refine H.v 4 (.bool false) fun a H => ?_
  refine wpList_nil ?_
  have H := H.keep (L' := [(4, (.bool false)), (10, (.int .i64 (((Y.getD (0, 0)).1 : Nat) : Int))), (9, (.int .i64 (((Y.getD (0, 0)).2 : Nat) : Int))), (8, (.bool Y.isSome)), (22, (.int .i64 (((Y.getD (0, 0)).1 : Nat) : Int))), (21, (.int .i64 (((Y.getD (0, 0)).2 : Nat) : Int))), (20, (.bool Y.isSome)), (17, (.tuple #[(.bool Y.isSome), (.int .i64 (((Y.getD (0, 0)).2 : Nat) : Int)), (.int .i64 (((Y.getD (0, 0)).1 : Nat) : Int))])), (19, (.tuple #[(.bool Y.isSome), (.int .i64 (((Y.getD (0, 0)).2 : Nat) : Int)), (.int .i64 (((Y.getD (0, 0)).1 : Nat) : Int))])), (18, (.string (bstr lb))), (7, (.int .i64 (((X.getD (0, 0)).1 : Nat) : Int))), (6, (.int .i64 (((X.getD (0, 0)).2 : Nat) : Int))), (5, (.bool X.isSome)), (16, (.int .i64 (((X.getD (0, 0)).1 : Nat) : Int))), (15, (.int .i64 (((X.getD (0, 0)).2 : Nat) : Int))), (14, (.bool X.isSome)), (11, (.tuple #[(.bool X.isSome), (.int .i64 (((X.getD (0, 0)).2 : Nat) : Int)), (.int .i64 (((X.getD (0, 0)).1 : Nat) : Int))])), (13, (.tuple #[(.bool X.isSome), (.int .i64 (((X.getD (0, 0)).2 : Nat) : Int)), (.int .i64 (((X.getD (0, 0)).1 : Nat) : Int))])), (12, (.string (bstr la))), (0, (.string (bstr la))), (1, (.string (bstr lb)))]) (by kernel_rfl)
  refine then_normal (wp_ret ?_)
  refine H.ret1 (fn := Tryd.f25) Tryd.results25 (RV.tmp_ (v := (.bool false)) (by kernel_rfl)) ?_
  exact ⟨by unfold followsP; simp only [hX, hY, g24, Bool.true_and, Bool.false_and, Bool.and_false], (HP.below (by kernel_rfl))⟩
set_option maxRecDepth 100000 in
set_option maxHeartbeats 4000000 in
theorem inum_tn (b : Nat) (s : List UInt8) (k : Nat) (w : World) (h : Box w b 82 [.string (bstr s), .int .i64 ((k : Nat) : Int), .bool true].toArray) (hl : s.length ≤ 1000000) (hk : k ≤ s.length) (hR : rdInt s k = none) :
  Calls Tryd.prog 44 #[.pointer (some ⟨b, 0, none⟩)] w fun e w' => e = .returned (.int .i64 (inum s (k, true)).1) ∧ Box w' b 82 (rdCells s (inum s (k, true)).2).toArray ∧ w.grownBy w' (some b) := by
 have HP := Hp.own h
 refine w_enter 40 [(0, (.pointer (some ⟨b, 0, none⟩)))] Tryd.func44 rfl Tryd.ntmps44 (by kernel_rfl) (by kernel_rfl) fun a H => ?_
 refine wp_seq (w_region ?_)
 refine H.v 2 (.int .i64 0) fun a H => ?_
 refine wpList_nil (then_normal (wp_seq ?_))
 refine An.start (fun v => Hp w v [bx b 82 [(.string (bstr s)), (.int .i64 ((k : Nat) : Int)), (.bool true)] false] []) 16 16 HP wide_follows rfl fun w_1 HP => ?_
 refine An.p H (.inr HP) 0 7 (.pointer (some ⟨b, 0, none⟩)) fun a H => ?_
 refine An.p H (.inr HP) 1 8 (.pointer (some ⟨b, 0, none⟩)) fun a H => ?_
 refine An.p H (.inr HP) 2 9 (.pointer (some ⟨b, 0, none⟩)) fun a H => ?_
 refine An.val H (HP) 3 10 (.string (bstr s)) rfl (by kernel_rfl) (by kernel_rfl) (fun _ _ _ h => h) (fun _ hS => ex_load1 (by kernel_rfl) (by kernel_rfl) (hS.cell 0 rfl 0 rfl)) fun a H => ?_
 refine An.p H (.inr HP) 4 11 (.pointer (some ⟨b, 0, none⟩)) fun a H => ?_
 refine An.p H (.inr HP) 5 12 (.pointer (some ⟨b, 0, none⟩)) fun a H => ?_
 refine An.p H (.inr HP) 6 13 (.pointer (some ⟨b, 1, none⟩)) fun a H => ?_
 refine An.val H (HP) 7 14 (.int .i64 ((k : Nat) : Int)) rfl (by kernel_rfl) (by kernel_rfl) (fun _ _ _ h => h) (fun _ hS => ex_load1 (by kernel_rfl) (by kernel_rfl) (hS.cell 0 rfl 1 rfl)) fun a H => ?_
 refine An.one 8 (by kernel_rfl) ?_
 refine Op.call H 15 rfl (by kernel_rfl) (Eq.trans (by kernel_rfl : _ = (callFunc 68 #[(.string (bstr s)), (.int .i64 ((k : Nat) : Int))]).run Tryd.prog w_1) (Tryd.call68 _ _)) ((by have hh := rint_any s k w_1 hl hk; rw [hR] at hh; exact hh)) ?_
 rintro e w_2 ⟨rfl, hb⟩
 refine ⟨_, rfl, ?_⟩
 intro a H
 have HP := HP.next hb
 refine ⟨.inr (HP), ?_⟩
 refine An.p H (.inr HP) 9 6 (.tuple #[(.int .i64 0), (.int .i64 0), (.int .i64 10)]) fun a H => ?_
 refine An.p H (.inr HP) 10 16 (.int .i64 0) fun a H => ?_
 refine An.p H (.inr HP) 11 17 (.int .i64 0) fun a H => ?_
 refine An.p H (.inr HP) 12 18 (.int .i64 10) fun a H => ?_
 refine An.p H (.inr HP) 13 3 (.int .i64 0) fun a H => ?_
 refine An.p H (.inr HP) 14 4 (.int .i64 0) fun a H => ?_
 refine An.p H (.inr HP) 15 5 (.int .i64 10) fun a H => ?_
 refine An.done (by kernel_rfl) ?_
 refine then_normal (wp_seq (w_region ?_))
 refine H.v 19 (.pointer (some ⟨b, 0, none⟩)) fun a H => ?_
 refine H.v 20 (.pointer (some ⟨b, 0, none⟩)) fun a H => ?_
 refine H.v 21 (.pointer (some ⟨b, 0, none⟩)) fun a H => ?_
 refine H.v 22 (.pointer (some ⟨b, 2, none⟩)) fun a H => ?_
 refine H.u 23 (.bool true) (ex_load1 (by kernel_rfl) (by kernel_rfl) (HP.cell 0 rfl 2 rfl)) fun a H => ?_
 refine H.v 24 (.bool true) fun a H => ?_
 refine H.s 25 fun a H => ?_
 refine H.s 26 fun a H => ?_
 refine H.v 27 (.bool true) fun a H => ?_
 refine H.v 28 (.pointer (some ⟨b, 0, none⟩)) fun a H => ?_
 refine H.v 29 (.pointer (some ⟨b, 2, none⟩)) fun a H => ?_
 refine H.store HP 0 b 2 1 82 _ false (.bool true) [bx b 82 [(.string (bstr s)), (.int .i64 ((k : Nat) : Int)), (.bool true)] false] (by kernel_rfl) (by kernel_rfl) (by kernel_rfl) rfl (by kernel_rfl) (by kernel_rfl) (by kernel_rfl) (by kernel_rfl) (by kernel_rfl) fun w_3 a H HP => ?_
 refine wpList_nil (then_normal (wp_seq (wp_seq (w_region ?_))))
 refine H.v 30 (.pointer (some ⟨b, 0, none⟩)) fun a H => ?_
 refine H.v 31 (.pointer (some ⟨b, 0, none⟩)) fun a H => ?_
 refine H.v 32 (.pointer (some ⟨b, 2, none⟩)) fun a H => ?_
 refine H.u 33 (.bool true) (ex_load1 (by kernel_rfl) (by kernel_rfl) (HP.cell 0 rfl 2 rfl)) fun a H => ?_
 refine H.v 34 (.bool false) fun a H => ?_
 refine wpList_nil (then_normal ?_)
 refine w_iff H rfl ?_
 refine wp_skip (then_normal (wp_seq (w_region ?_)))
 refine H.v 39 (.int .i64 0) fun a H => ?_
 refine H.v 2 (.int .i64 0) fun a H => ?_
 refine wpList_nil (then_normal (wp_ret ?_))
 refine H.ret1 (fn := Tryd.f44) Tryd.results44 (RV.tmp_ (v := (.int .i64 0)) (by kernel_rfl)) ?_
 exact ⟨by unfold inum; simp only [hR], by unfold inum; simp only [hR]; exact HP.at_ 0 rfl, HP.only b (by intro x hx; simp only [List.mem_cons, List.not_mem_nil, or_false] at hx; rcases hx with rfl <;> simp [bx])⟩
set_option maxRecDepth 100000 in
set_option maxHeartbeats 4000000 in
theorem inum_ts (b : Nat) (s : List UInt8) (k : Nat) (w : World) (h : Box w b 82 [.string (bstr s), .int .i64 ((k : Nat) : Int), .bool true].toArray) (hl : s.length ≤ 1000000) (hk : k ≤ s.length) (n : Int) (e : Nat) (hR : rdInt s k = some (n, e)) :
  Calls Tryd.prog 44 #[.pointer (some ⟨b, 0, none⟩)] w fun e w' => e = .returned (.int .i64 (inum s (k, true)).1) ∧ Box w' b 82 (rdCells s (inum s (k, true)).2).toArray ∧ w.grownBy w' (some b) := by
 have HP := Hp.own h
 refine w_enter 40 [(0, (.pointer (some ⟨b, 0, none⟩)))] Tryd.func44 rfl Tryd.ntmps44 (by kernel_rfl) (by kernel_rfl) fun a H => ?_
 refine wp_seq (w_region ?_)
 refine H.v 2 (.int .i64 0) fun a H => ?_
 refine wpList_nil (then_normal (wp_seq ?_))
 refine An.start (fun v => Hp w v [bx b 82 [(.string (bstr s)), (.int .i64 ((k : Nat) : Int)), (.bool true)] false] []) 16 16 HP wide_follows rfl fun w_1 HP => ?_
 refine An.p H (.inr HP) 0 7 (.pointer (some ⟨b, 0, none⟩)) fun a H => ?_
 refine An.p H (.inr HP) 1 8 (.pointer (some ⟨b, 0, none⟩)) fun a H => ?_
 refine An.p H (.inr HP) 2 9 (.pointer (some ⟨b, 0, none⟩)) fun a H => ?_
 refine An.val H (HP) 3 10 (.string (bstr s)) rfl (by kernel_rfl) (by kernel_rfl) (fun _ _ _ h => h) (fun _ hS => ex_load1 (by kernel_rfl) (by kernel_rfl) (hS.cell 0 rfl 0 rfl)) fun a H => ?_
 refine An.p H (.inr HP) 4 11 (.pointer (some ⟨b, 0, none⟩)) fun a H => ?_
 refine An.p H (.inr HP) 5 12 (.pointer (some ⟨b, 0, none⟩)) fun a H => ?_
 refine An.p H (.inr HP) 6 13 (.pointer (some ⟨b, 1, none⟩)) fun a H => ?_
 refine An.val H (HP) 7 14 (.int .i64 ((k : Nat) : Int)) rfl (by kernel_rfl) (by kernel_rfl) (fun _ _ _ h => h) (fun _ hS => ex_load1 (by kernel_rfl) (by kernel_rfl) (hS.cell 0 rfl 1 rfl)) fun a H => ?_
 refine An.one 8 (by kernel_rfl) ?_
 refine Op.call H 15 rfl (by kernel_rfl) (Eq.trans (by kernel_rfl : _ = (callFunc 68 #[(.string (bstr s)), (.int .i64 ((k : Nat) : Int))]).run Tryd.prog w_1) (Tryd.call68 _ _)) ((by have hh := rint_any s k w_1 hl hk; rw [hR] at hh; exact hh)) ?_
 rintro e w_2 ⟨rfl, hb⟩
 refine ⟨_, rfl, ?_⟩
 intro a H
 have HP := HP.next hb
 refine ⟨.inr (HP), ?_⟩
 refine An.p H (.inr HP) 9 6 (.tuple #[(.int .i64 n), (.int .i64 ((e : Nat) : Int)), (.int .i64 0)]) fun a H => ?_
 refine An.p H (.inr HP) 10 16 (.int .i64 n) fun a H => ?_
 refine An.p H (.inr HP) 11 17 (.int .i64 ((e : Nat) : Int)) fun a H => ?_
 refine An.p H (.inr HP) 12 18 (.int .i64 0) fun a H => ?_
 refine An.p H (.inr HP) 13 3 (.int .i64 n) fun a H => ?_
 refine An.p H (.inr HP) 14 4 (.int .i64 ((e : Nat) : Int)) fun a H => ?_
 refine An.p H (.inr HP) 15 5 (.int .i64 0) fun a H => ?_
 refine An.done (by kernel_rfl) ?_
 refine then_normal (wp_seq (w_region ?_))
 refine H.v 19 (.pointer (some ⟨b, 0, none⟩)) fun a H => ?_
 refine H.v 20 (.pointer (some ⟨b, 0, none⟩)) fun a H => ?_
 refine H.v 21 (.pointer (some ⟨b, 0, none⟩)) fun a H => ?_
 refine H.v 22 (.pointer (some ⟨b, 2, none⟩)) fun a H => ?_
 refine H.u 23 (.bool true) (ex_load1 (by kernel_rfl) (by kernel_rfl) (HP.cell 0 rfl 2 rfl)) fun a H => ?_
 refine H.v 24 (.bool true) fun a H => ?_
 refine H.s 25 fun a H => ?_
 refine H.s 26 fun a H => ?_
 refine H.v 27 (.bool true) fun a H => ?_
 refine H.v 28 (.pointer (some ⟨b, 0, none⟩)) fun a H => ?_
 refine H.v 29 (.pointer (some ⟨b, 2, none⟩)) fun a H => ?_
 refine H.store HP 0 b 2 1 82 _ false (.bool true) [bx b 82 [(.string (bstr s)), (.int .i64 ((k : Nat) : Int)), (.bool true)] false] (by kernel_rfl) (by kernel_rfl) (by kernel_rfl) rfl (by kernel_rfl) (by kernel_rfl) (by kernel_rfl) (by kernel_rfl) (by kernel_rfl) fun w_3 a H HP => ?_
 refine wpList_nil (then_normal (wp_seq (wp_seq (w_region ?_))))
 refine H.v 30 (.pointer (some ⟨b, 0, none⟩)) fun a H => ?_
 refine H.v 31 (.pointer (some ⟨b, 0, none⟩)) fun a H => ?_
 refine H.v 32 (.pointer (some ⟨b, 2, none⟩)) fun a H => ?_
 refine H.u 33 (.bool true) (ex_load1 (by kernel_rfl) (by kernel_rfl) (HP.cell 0 rfl 2 rfl)) fun a H => ?_
 refine H.v 34 (.bool false) fun a H => ?_
 refine wpList_nil (then_normal ?_)
 refine w_iff H rfl ?_
 refine wp_skip (then_normal (wp_seq (w_region ?_)))
 refine H.v 39 (.int .i64 n) fun a H => ?_
 refine H.v 2 (.int .i64 n) fun a H => ?_
 refine wpList_nil (then_normal (wp_ret ?_))
 refine H.ret1 (fn := Tryd.f44) Tryd.results44 (RV.tmp_ (v := (.int .i64 n)) (by kernel_rfl)) ?_
 exact ⟨by unfold inum; simp only [hR], by unfold inum; simp only [hR]; exact HP.at_ 0 rfl, HP.only b (by intro x hx; simp only [List.mem_cons, List.not_mem_nil, or_false] at hx; rcases hx with rfl <;> simp [bx])⟩
set_option maxRecDepth 100000 in
set_option maxHeartbeats 4000000 in
theorem inum_fn (b : Nat) (s : List UInt8) (k : Nat) (w : World) (h : Box w b 82 [.string (bstr s), .int .i64 ((k : Nat) : Int), .bool false].toArray) (hl : s.length ≤ 1000000) (hk : k ≤ s.length) (hR : rdInt s k = none) :
  Calls Tryd.prog 44 #[.pointer (some ⟨b, 0, none⟩)] w fun e w' => e = .returned (.int .i64 (inum s (k, false)).1) ∧ Box w' b 82 (rdCells s (inum s (k, false)).2).toArray ∧ w.grownBy w' (some b) := by
 have HP := Hp.own h
 refine w_enter 40 [(0, (.pointer (some ⟨b, 0, none⟩)))] Tryd.func44 rfl Tryd.ntmps44 (by kernel_rfl) (by kernel_rfl) fun a H => ?_
 refine wp_seq (w_region ?_)
 refine H.v 2 (.int .i64 0) fun a H => ?_
 refine wpList_nil (then_normal (wp_seq ?_))
 refine An.start (fun v => Hp w v [bx b 82 [(.string (bstr s)), (.int .i64 ((k : Nat) : Int)), (.bool false)] false] []) 16 16 HP wide_follows rfl fun w_1 HP => ?_
 refine An.p H (.inr HP) 0 7 (.pointer (some ⟨b, 0, none⟩)) fun a H => ?_
 refine An.p H (.inr HP) 1 8 (.pointer (some ⟨b, 0, none⟩)) fun a H => ?_
 refine An.p H (.inr HP) 2 9 (.pointer (some ⟨b, 0, none⟩)) fun a H => ?_
 refine An.val H (HP) 3 10 (.string (bstr s)) rfl (by kernel_rfl) (by kernel_rfl) (fun _ _ _ h => h) (fun _ hS => ex_load1 (by kernel_rfl) (by kernel_rfl) (hS.cell 0 rfl 0 rfl)) fun a H => ?_
 refine An.p H (.inr HP) 4 11 (.pointer (some ⟨b, 0, none⟩)) fun a H => ?_
 refine An.p H (.inr HP) 5 12 (.pointer (some ⟨b, 0, none⟩)) fun a H => ?_
 refine An.p H (.inr HP) 6 13 (.pointer (some ⟨b, 1, none⟩)) fun a H => ?_
 refine An.val H (HP) 7 14 (.int .i64 ((k : Nat) : Int)) rfl (by kernel_rfl) (by kernel_rfl) (fun _ _ _ h => h) (fun _ hS => ex_load1 (by kernel_rfl) (by kernel_rfl) (hS.cell 0 rfl 1 rfl)) fun a H => ?_
 refine An.one 8 (by kernel_rfl) ?_
 refine Op.call H 15 rfl (by kernel_rfl) (Eq.trans (by kernel_rfl : _ = (callFunc 68 #[(.string (bstr s)), (.int .i64 ((k : Nat) : Int))]).run Tryd.prog w_1) (Tryd.call68 _ _)) ((by have hh := rint_any s k w_1 hl hk; rw [hR] at hh; exact hh)) ?_
 rintro e w_2 ⟨rfl, hb⟩
 refine ⟨_, rfl, ?_⟩
 intro a H
 have HP := HP.next hb
 refine ⟨.inr (HP), ?_⟩
 refine An.p H (.inr HP) 9 6 (.tuple #[(.int .i64 0), (.int .i64 0), (.int .i64 10)]) fun a H => ?_
 refine An.p H (.inr HP) 10 16 (.int .i64 0) fun a H => ?_
 refine An.p H (.inr HP) 11 17 (.int .i64 0) fun a H => ?_
 refine An.p H (.inr HP) 12 18 (.int .i64 10) fun a H => ?_
 refine An.p H (.inr HP) 13 3 (.int .i64 0) fun a H => ?_
 refine An.p H (.inr HP) 14 4 (.int .i64 0) fun a H => ?_
 refine An.p H (.inr HP) 15 5 (.int .i64 10) fun a H => ?_
 refine An.done (by kernel_rfl) ?_
 refine then_normal (wp_seq (w_region ?_))
 refine H.v 19 (.pointer (some ⟨b, 0, none⟩)) fun a H => ?_
 refine H.v 20 (.pointer (some ⟨b, 0, none⟩)) fun a H => ?_
 refine H.v 21 (.pointer (some ⟨b, 0, none⟩)) fun a H => ?_
 refine H.v 22 (.pointer (some ⟨b, 2, none⟩)) fun a H => ?_
 refine H.u 23 (.bool false) (ex_load1 (by kernel_rfl) (by kernel_rfl) (HP.cell 0 rfl 2 rfl)) fun a H => ?_
 refine H.v 24 (.bool false) fun a H => ?_
 refine H.v 25 (.int .i64 10) fun a H => ?_
 refine H.v 26 (.bool true) fun a H => ?_
 refine H.v 27 (.bool true) fun a H => ?_
 refine H.v 28 (.pointer (some ⟨b, 0, none⟩)) fun a H => ?_
 refine H.v 29 (.pointer (some ⟨b, 2, none⟩)) fun a H => ?_
 refine H.store HP 0 b 2 1 82 _ false (.bool true) [bx b 82 [(.string (bstr s)), (.int .i64 ((k : Nat) : Int)), (.bool true)] false] (by kernel_rfl) (by kernel_rfl) (by kernel_rfl) rfl (by kernel_rfl) (by kernel_rfl) (by kernel_rfl) (by kernel_rfl) (by kernel_rfl) fun w_3 a H HP => ?_
 refine wpList_nil (then_normal (wp_seq (wp_seq (w_region ?_))))
 refine H.v 30 (.pointer (some ⟨b, 0, none⟩)) fun a H => ?_
 refine H.v 31 (.pointer (some ⟨b, 0, none⟩)) fun a H => ?_
 refine H.v 32 (.pointer (some ⟨b, 2, none⟩)) fun a H => ?_
 refine H.u 33 (.bool true) (ex_load1 (by kernel_rfl) (by kernel_rfl) (HP.cell 0 rfl 2 rfl)) fun a H => ?_
 refine H.v 34 (.bool false) fun a H => ?_
 refine wpList_nil (then_normal ?_)
 refine w_iff H rfl ?_
 refine wp_skip (then_normal (wp_seq (w_region ?_)))
 refine H.v 39 (.int .i64 0) fun a H => ?_
 refine H.v 2 (.int .i64 0) fun a H => ?_
 refine wpList_nil (then_normal (wp_ret ?_))
 refine H.ret1 (fn := Tryd.f44) Tryd.results44 (RV.tmp_ (v := (.int .i64 0)) (by kernel_rfl)) ?_
 exact ⟨by unfold inum; simp only [hR], by unfold inum; simp only [hR]; exact HP.at_ 0 rfl, HP.only b (by intro x hx; simp only [List.mem_cons, List.not_mem_nil, or_false] at hx; rcases hx with rfl <;> simp [bx])⟩
set_option maxRecDepth 100000 in
set_option maxHeartbeats 4000000 in
theorem inum_fs (b : Nat) (s : List UInt8) (k : Nat) (w : World) (h : Box w b 82 [.string (bstr s), .int .i64 ((k : Nat) : Int), .bool false].toArray) (hl : s.length ≤ 1000000) (hk : k ≤ s.length) (n : Int) (e : Nat) (hR : rdInt s k = some (n, e)) :
  Calls Tryd.prog 44 #[.pointer (some ⟨b, 0, none⟩)] w fun e w' => e = .returned (.int .i64 (inum s (k, false)).1) ∧ Box w' b 82 (rdCells s (inum s (k, false)).2).toArray ∧ w.grownBy w' (some b) := by
 have HP := Hp.own h
 refine w_enter 40 [(0, (.pointer (some ⟨b, 0, none⟩)))] Tryd.func44 rfl Tryd.ntmps44 (by kernel_rfl) (by kernel_rfl) fun a H => ?_
 refine wp_seq (w_region ?_)
 refine H.v 2 (.int .i64 0) fun a H => ?_
 refine wpList_nil (then_normal (wp_seq ?_))
 refine An.start (fun v => Hp w v [bx b 82 [(.string (bstr s)), (.int .i64 ((k : Nat) : Int)), (.bool false)] false] []) 16 16 HP wide_follows rfl fun w_1 HP => ?_
 refine An.p H (.inr HP) 0 7 (.pointer (some ⟨b, 0, none⟩)) fun a H => ?_
 refine An.p H (.inr HP) 1 8 (.pointer (some ⟨b, 0, none⟩)) fun a H => ?_
 refine An.p H (.inr HP) 2 9 (.pointer (some ⟨b, 0, none⟩)) fun a H => ?_
 refine An.val H (HP) 3 10 (.string (bstr s)) rfl (by kernel_rfl) (by kernel_rfl) (fun _ _ _ h => h) (fun _ hS => ex_load1 (by kernel_rfl) (by kernel_rfl) (hS.cell 0 rfl 0 rfl)) fun a H => ?_
 refine An.p H (.inr HP) 4 11 (.pointer (some ⟨b, 0, none⟩)) fun a H => ?_
 refine An.p H (.inr HP) 5 12 (.pointer (some ⟨b, 0, none⟩)) fun a H => ?_
 refine An.p H (.inr HP) 6 13 (.pointer (some ⟨b, 1, none⟩)) fun a H => ?_
 refine An.val H (HP) 7 14 (.int .i64 ((k : Nat) : Int)) rfl (by kernel_rfl) (by kernel_rfl) (fun _ _ _ h => h) (fun _ hS => ex_load1 (by kernel_rfl) (by kernel_rfl) (hS.cell 0 rfl 1 rfl)) fun a H => ?_
 refine An.one 8 (by kernel_rfl) ?_
 refine Op.call H 15 rfl (by kernel_rfl) (Eq.trans (by kernel_rfl : _ = (callFunc 68 #[(.string (bstr s)), (.int .i64 ((k : Nat) : Int))]).run Tryd.prog w_1) (Tryd.call68 _ _)) ((by have hh := rint_any s k w_1 hl hk; rw [hR] at hh; exact hh)) ?_
 rintro e w_2 ⟨rfl, hb⟩
 refine ⟨_, rfl, ?_⟩
 intro a H
 have HP := HP.next hb
 refine ⟨.inr (HP), ?_⟩
 refine An.p H (.inr HP) 9 6 (.tuple #[(.int .i64 n), (.int .i64 ((e : Nat) : Int)), (.int .i64 0)]) fun a H => ?_
 refine An.p H (.inr HP) 10 16 (.int .i64 n) fun a H => ?_
 refine An.p H (.inr HP) 11 17 (.int .i64 ((e : Nat) : Int)) fun a H => ?_
 refine An.p H (.inr HP) 12 18 (.int .i64 0) fun a H => ?_
 refine An.p H (.inr HP) 13 3 (.int .i64 n) fun a H => ?_
 refine An.p H (.inr HP) 14 4 (.int .i64 ((e : Nat) : Int)) fun a H => ?_
 refine An.p H (.inr HP) 15 5 (.int .i64 0) fun a H => ?_
 refine An.done (by kernel_rfl) ?_
 refine then_normal (wp_seq (w_region ?_))
 refine H.v 19 (.pointer (some ⟨b, 0, none⟩)) fun a H => ?_
 refine H.v 20 (.pointer (some ⟨b, 0, none⟩)) fun a H => ?_
 refine H.v 21 (.pointer (some ⟨b, 0, none⟩)) fun a H => ?_
 refine H.v 22 (.pointer (some ⟨b, 2, none⟩)) fun a H => ?_
 refine H.u 23 (.bool false) (ex_load1 (by kernel_rfl) (by kernel_rfl) (HP.cell 0 rfl 2 rfl)) fun a H => ?_
 refine H.v 24 (.bool false) fun a H => ?_
 refine H.v 25 (.int .i64 0) fun a H => ?_
 refine H.v 26 (.bool false) fun a H => ?_
 refine H.v 27 (.bool false) fun a H => ?_
 refine H.v 28 (.pointer (some ⟨b, 0, none⟩)) fun a H => ?_
 refine H.v 29 (.pointer (some ⟨b, 2, none⟩)) fun a H => ?_
 refine H.store HP 0 b 2 1 82 _ false (.bool false) [bx b 82 [(.string (bstr s)), (.int .i64 ((k : Nat) : Int)), (.bool false)] false] (by kernel_rfl) (by kernel_rfl) (by kernel_rfl) rfl (by kernel_rfl) (by kernel_rfl) (by kernel_rfl) (by kernel_rfl) (by kernel_rfl) fun w_3 a H HP => ?_
 refine wpList_nil (then_normal (wp_seq (wp_seq (w_region ?_))))
 refine H.v 30 (.pointer (some ⟨b, 0, none⟩)) fun a H => ?_
 refine H.v 31 (.pointer (some ⟨b, 0, none⟩)) fun a H => ?_
 refine H.v 32 (.pointer (some ⟨b, 2, none⟩)) fun a H => ?_
 refine H.u 33 (.bool false) (ex_load1 (by kernel_rfl) (by kernel_rfl) (HP.cell 0 rfl 2 rfl)) fun a H => ?_
 refine H.v 34 (.bool true) fun a H => ?_
 refine wpList_nil (then_normal ?_)
 refine w_ift H rfl ?_
 refine w_region ?_
 refine H.v 35 (.pointer (some ⟨b, 0, none⟩)) fun a H => ?_
 refine H.v 36 (.int .i64 ((e : Nat) : Int)) fun a H => ?_
 refine H.v 37 (.pointer (some ⟨b, 0, none⟩)) fun a H => ?_
 refine H.v 38 (.pointer (some ⟨b, 1, none⟩)) fun a H => ?_
 refine H.store HP 0 b 1 1 82 _ false (.int .i64 ((e : Nat) : Int)) [bx b 82 [(.string (bstr s)), (.int .i64 ((e : Nat) : Int)), (.bool false)] false] (by kernel_rfl) (by kernel_rfl) (by kernel_rfl) rfl (by kernel_rfl) (by kernel_rfl) (by kernel_rfl) (by kernel_rfl) (by kernel_rfl) fun w_4 a H HP => ?_
 refine wpList_nil (then_normal (wp_seq (w_region ?_)))
 refine H.v 39 (.int .i64 n) fun a H => ?_
 refine H.v 2 (.int .i64 n) fun a H => ?_
 refine wpList_nil (then_normal (wp_ret ?_))
 refine H.ret1 (fn := Tryd.f44) Tryd.results44 (RV.tmp_ (v := (.int .i64 n)) (by kernel_rfl)) ?_
 exact ⟨by unfold inum; simp only [hR], by unfold inum; simp only [hR]; exact HP.at_ 0 rfl, HP.only b (by intro x hx; simp only [List.mem_cons, List.not_mem_nil, or_false] at hx; rcases hx with rfl <;> simp [bx])⟩
theorem inum_any (b : Nat) (s : List UInt8) (q : Nat × Bool) (w : World) (h : Box w b 82 (rdCells s q).toArray) (hl : s.length ≤ 1000000) (hk : q.1 ≤ s.length) :
  Calls Tryd.prog 44 #[.pointer (some ⟨b, 0, none⟩)] w fun e w' => e = .returned (.int .i64 (inum s q).1) ∧ Box w' b 82 (rdCells s (inum s q).2).toArray ∧ w.grownBy w' (some b) := by
 obtain ⟨k, fl⟩ := q
 cases hR : rdInt s k with
 | none => cases fl with
  | true => exact inum_tn b s k w h hl hk hR
  | false => exact inum_fn b s k w h hl hk hR
 | some p => cases fl with
  | true => exact inum_ts b s k w h hl hk p.1 p.2 hR
  | false => exact inum_fs b s k w h hl hk p.1 p.2 hR

set_option maxRecDepth 100000 in
set_option maxHeartbeats 4000000 in
theorem itxt_tn (b : Nat) (s : List UInt8) (k : Nat) (w : World) (h : Box w b 82 [.string (bstr s), .int .i64 ((k : Nat) : Int), .bool true].toArray) (hl : s.length ≤ 1000000) (hk : k ≤ s.length) (hR : rdStr s k = none) :
  Calls Tryd.prog 45 #[.pointer (some ⟨b, 0, none⟩)] w fun e w' => e = .returned (.string (bstr (itxt s (k, true)).1)) ∧ Box w' b 82 (rdCells s (itxt s (k, true)).2).toArray ∧ w.grownBy w' (some b) := by
 have HP := Hp.own h
 refine w_enter 40 [(0, (.pointer (some ⟨b, 0, none⟩)))] Tryd.func45 rfl Tryd.ntmps45 (by kernel_rfl) (by kernel_rfl) fun a H => ?_
 refine wp_seq (w_region ?_)
 refine H.v 2 (.string (bstr ([]))) fun a H => ?_
 refine wpList_nil (then_normal (wp_seq ?_))
 refine An.start (fun v => Hp w v [bx b 82 [(.string (bstr s)), (.int .i64 ((k : Nat) : Int)), (.bool true)] false] []) 16 16 HP wide_follows rfl fun w_1 HP => ?_
 refine An.p H (.inr HP) 0 7 (.pointer (some ⟨b, 0, none⟩)) fun a H => ?_
 refine An.p H (.inr HP) 1 8 (.pointer (some ⟨b, 0, none⟩)) fun a H => ?_
 refine An.p H (.inr HP) 2 9 (.pointer (some ⟨b, 0, none⟩)) fun a H => ?_
 refine An.val H (HP) 3 10 (.string (bstr s)) rfl (by kernel_rfl) (by kernel_rfl) (fun _ _ _ h => h) (fun _ hS => ex_load1 (by kernel_rfl) (by kernel_rfl) (hS.cell 0 rfl 0 rfl)) fun a H => ?_
 refine An.p H (.inr HP) 4 11 (.pointer (some ⟨b, 0, none⟩)) fun a H => ?_
 refine An.p H (.inr HP) 5 12 (.pointer (some ⟨b, 0, none⟩)) fun a H => ?_
 refine An.p H (.inr HP) 6 13 (.pointer (some ⟨b, 1, none⟩)) fun a H => ?_
 refine An.val H (HP) 7 14 (.int .i64 ((k : Nat) : Int)) rfl (by kernel_rfl) (by kernel_rfl) (fun _ _ _ h => h) (fun _ hS => ex_load1 (by kernel_rfl) (by kernel_rfl) (hS.cell 0 rfl 1 rfl)) fun a H => ?_
 refine An.one 8 (by kernel_rfl) ?_
 refine Op.call H 15 rfl (by kernel_rfl) (Eq.trans (by kernel_rfl : _ = (callFunc 69 #[(.string (bstr s)), (.int .i64 ((k : Nat) : Int))]).run Tryd.prog w_1) (Tryd.call69 _ _)) ((by have hh := rstr_any s k w_1 hl hk; rw [hR] at hh; exact hh)) ?_
 rintro e w_2 ⟨rfl, hb⟩
 refine ⟨_, rfl, ?_⟩
 intro a H
 have HP := HP.next hb
 refine ⟨.inr (HP), ?_⟩
 refine An.p H (.inr HP) 9 6 (.tuple #[(.string (bstr ([]))), (.int .i64 0), (.int .i64 10)]) fun a H => ?_
 refine An.p H (.inr HP) 10 16 (.string (bstr ([]))) fun a H => ?_
 refine An.p H (.inr HP) 11 17 (.int .i64 0) fun a H => ?_
 refine An.p H (.inr HP) 12 18 (.int .i64 10) fun a H => ?_
 refine An.p H (.inr HP) 13 3 (.string (bstr ([]))) fun a H => ?_
 refine An.p H (.inr HP) 14 4 (.int .i64 0) fun a H => ?_
 refine An.p H (.inr HP) 15 5 (.int .i64 10) fun a H => ?_
 refine An.done (by kernel_rfl) ?_
 refine then_normal (wp_seq (w_region ?_))
 refine H.v 19 (.pointer (some ⟨b, 0, none⟩)) fun a H => ?_
 refine H.v 20 (.pointer (some ⟨b, 0, none⟩)) fun a H => ?_
 refine H.v 21 (.pointer (some ⟨b, 0, none⟩)) fun a H => ?_
 refine H.v 22 (.pointer (some ⟨b, 2, none⟩)) fun a H => ?_
 refine H.u 23 (.bool true) (ex_load1 (by kernel_rfl) (by kernel_rfl) (HP.cell 0 rfl 2 rfl)) fun a H => ?_
 refine H.v 24 (.bool true) fun a H => ?_
 refine H.s 25 fun a H => ?_
 refine H.s 26 fun a H => ?_
 refine H.v 27 (.bool true) fun a H => ?_
 refine H.v 28 (.pointer (some ⟨b, 0, none⟩)) fun a H => ?_
 refine H.v 29 (.pointer (some ⟨b, 2, none⟩)) fun a H => ?_
 refine H.store HP 0 b 2 1 82 _ false (.bool true) [bx b 82 [(.string (bstr s)), (.int .i64 ((k : Nat) : Int)), (.bool true)] false] (by kernel_rfl) (by kernel_rfl) (by kernel_rfl) rfl (by kernel_rfl) (by kernel_rfl) (by kernel_rfl) (by kernel_rfl) (by kernel_rfl) fun w_3 a H HP => ?_
 refine wpList_nil (then_normal (wp_seq (wp_seq (w_region ?_))))
 refine H.v 30 (.pointer (some ⟨b, 0, none⟩)) fun a H => ?_
 refine H.v 31 (.pointer (some ⟨b, 0, none⟩)) fun a H => ?_
 refine H.v 32 (.pointer (some ⟨b, 2, none⟩)) fun a H => ?_
 refine H.u 33 (.bool true) (ex_load1 (by kernel_rfl) (by kernel_rfl) (HP.cell 0 rfl 2 rfl)) fun a H => ?_
 refine H.v 34 (.bool false) fun a H => ?_
 refine wpList_nil (then_normal ?_)
 refine w_iff H rfl ?_
 refine wp_skip (then_normal (wp_seq (w_region ?_)))
 refine H.v 39 (.string (bstr ([]))) fun a H => ?_
 refine H.v 2 (.string (bstr ([]))) fun a H => ?_
 refine wpList_nil (then_normal (wp_ret ?_))
 refine H.ret1 (fn := Tryd.f45) Tryd.results45 (RV.tmp_ (v := (.string (bstr ([])))) (by kernel_rfl)) ?_
 exact ⟨by unfold itxt; simp only [hR], by unfold itxt; simp only [hR]; exact HP.at_ 0 rfl, HP.only b (by intro x hx; simp only [List.mem_cons, List.not_mem_nil, or_false] at hx; rcases hx with rfl <;> simp [bx])⟩
set_option maxRecDepth 100000 in
set_option maxHeartbeats 4000000 in
theorem itxt_ts (b : Nat) (s : List UInt8) (k : Nat) (w : World) (h : Box w b 82 [.string (bstr s), .int .i64 ((k : Nat) : Int), .bool true].toArray) (hl : s.length ≤ 1000000) (hk : k ≤ s.length) (n : List UInt8) (e : Nat) (hR : rdStr s k = some (n, e)) :
  Calls Tryd.prog 45 #[.pointer (some ⟨b, 0, none⟩)] w fun e w' => e = .returned (.string (bstr (itxt s (k, true)).1)) ∧ Box w' b 82 (rdCells s (itxt s (k, true)).2).toArray ∧ w.grownBy w' (some b) := by
 have HP := Hp.own h
 refine w_enter 40 [(0, (.pointer (some ⟨b, 0, none⟩)))] Tryd.func45 rfl Tryd.ntmps45 (by kernel_rfl) (by kernel_rfl) fun a H => ?_
 refine wp_seq (w_region ?_)
 refine H.v 2 (.string (bstr ([]))) fun a H => ?_
 refine wpList_nil (then_normal (wp_seq ?_))
 refine An.start (fun v => Hp w v [bx b 82 [(.string (bstr s)), (.int .i64 ((k : Nat) : Int)), (.bool true)] false] []) 16 16 HP wide_follows rfl fun w_1 HP => ?_
 refine An.p H (.inr HP) 0 7 (.pointer (some ⟨b, 0, none⟩)) fun a H => ?_
 refine An.p H (.inr HP) 1 8 (.pointer (some ⟨b, 0, none⟩)) fun a H => ?_
 refine An.p H (.inr HP) 2 9 (.pointer (some ⟨b, 0, none⟩)) fun a H => ?_
 refine An.val H (HP) 3 10 (.string (bstr s)) rfl (by kernel_rfl) (by kernel_rfl) (fun _ _ _ h => h) (fun _ hS => ex_load1 (by kernel_rfl) (by kernel_rfl) (hS.cell 0 rfl 0 rfl)) fun a H => ?_
 refine An.p H (.inr HP) 4 11 (.pointer (some ⟨b, 0, none⟩)) fun a H => ?_
 refine An.p H (.inr HP) 5 12 (.pointer (some ⟨b, 0, none⟩)) fun a H => ?_
 refine An.p H (.inr HP) 6 13 (.pointer (some ⟨b, 1, none⟩)) fun a H => ?_
 refine An.val H (HP) 7 14 (.int .i64 ((k : Nat) : Int)) rfl (by kernel_rfl) (by kernel_rfl) (fun _ _ _ h => h) (fun _ hS => ex_load1 (by kernel_rfl) (by kernel_rfl) (hS.cell 0 rfl 1 rfl)) fun a H => ?_
 refine An.one 8 (by kernel_rfl) ?_
 refine Op.call H 15 rfl (by kernel_rfl) (Eq.trans (by kernel_rfl : _ = (callFunc 69 #[(.string (bstr s)), (.int .i64 ((k : Nat) : Int))]).run Tryd.prog w_1) (Tryd.call69 _ _)) ((by have hh := rstr_any s k w_1 hl hk; rw [hR] at hh; exact hh)) ?_
 rintro e w_2 ⟨rfl, hb⟩
 refine ⟨_, rfl, ?_⟩
 intro a H
 have HP := HP.next hb
 refine ⟨.inr (HP), ?_⟩
 refine An.p H (.inr HP) 9 6 (.tuple #[(.string (bstr n)), (.int .i64 ((e : Nat) : Int)), (.int .i64 0)]) fun a H => ?_
 refine An.p H (.inr HP) 10 16 (.string (bstr n)) fun a H => ?_
 refine An.p H (.inr HP) 11 17 (.int .i64 ((e : Nat) : Int)) fun a H => ?_
 refine An.p H (.inr HP) 12 18 (.int .i64 0) fun a H => ?_
 refine An.p H (.inr HP) 13 3 (.string (bstr n)) fun a H => ?_
 refine An.p H (.inr HP) 14 4 (.int .i64 ((e : Nat) : Int)) fun a H => ?_
 refine An.p H (.inr HP) 15 5 (.int .i64 0) fun a H => ?_
 refine An.done (by kernel_rfl) ?_
 refine then_normal (wp_seq (w_region ?_))
 refine H.v 19 (.pointer (some ⟨b, 0, none⟩)) fun a H => ?_
 refine H.v 20 (.pointer (some ⟨b, 0, none⟩)) fun a H => ?_
 refine H.v 21 (.pointer (some ⟨b, 0, none⟩)) fun a H => ?_
 refine H.v 22 (.pointer (some ⟨b, 2, none⟩)) fun a H => ?_
 refine H.u 23 (.bool true) (ex_load1 (by kernel_rfl) (by kernel_rfl) (HP.cell 0 rfl 2 rfl)) fun a H => ?_
 refine H.v 24 (.bool true) fun a H => ?_
 refine H.s 25 fun a H => ?_
 refine H.s 26 fun a H => ?_
 refine H.v 27 (.bool true) fun a H => ?_
 refine H.v 28 (.pointer (some ⟨b, 0, none⟩)) fun a H => ?_
 refine H.v 29 (.pointer (some ⟨b, 2, none⟩)) fun a H => ?_
 refine H.store HP 0 b 2 1 82 _ false (.bool true) [bx b 82 [(.string (bstr s)), (.int .i64 ((k : Nat) : Int)), (.bool true)] false] (by kernel_rfl) (by kernel_rfl) (by kernel_rfl) rfl (by kernel_rfl) (by kernel_rfl) (by kernel_rfl) (by kernel_rfl) (by kernel_rfl) fun w_3 a H HP => ?_
 refine wpList_nil (then_normal (wp_seq (wp_seq (w_region ?_))))
 refine H.v 30 (.pointer (some ⟨b, 0, none⟩)) fun a H => ?_
 refine H.v 31 (.pointer (some ⟨b, 0, none⟩)) fun a H => ?_
 refine H.v 32 (.pointer (some ⟨b, 2, none⟩)) fun a H => ?_
 refine H.u 33 (.bool true) (ex_load1 (by kernel_rfl) (by kernel_rfl) (HP.cell 0 rfl 2 rfl)) fun a H => ?_
 refine H.v 34 (.bool false) fun a H => ?_
 refine wpList_nil (then_normal ?_)
 refine w_iff H rfl ?_
 refine wp_skip (then_normal (wp_seq (w_region ?_)))
 refine H.v 39 (.string (bstr n)) fun a H => ?_
 refine H.v 2 (.string (bstr n)) fun a H => ?_
 refine wpList_nil (then_normal (wp_ret ?_))
 refine H.ret1 (fn := Tryd.f45) Tryd.results45 (RV.tmp_ (v := (.string (bstr n))) (by kernel_rfl)) ?_
 exact ⟨by unfold itxt; simp only [hR], by unfold itxt; simp only [hR]; exact HP.at_ 0 rfl, HP.only b (by intro x hx; simp only [List.mem_cons, List.not_mem_nil, or_false] at hx; rcases hx with rfl <;> simp [bx])⟩
set_option maxRecDepth 100000 in
set_option maxHeartbeats 4000000 in
theorem itxt_fn (b : Nat) (s : List UInt8) (k : Nat) (w : World) (h : Box w b 82 [.string (bstr s), .int .i64 ((k : Nat) : Int), .bool false].toArray) (hl : s.length ≤ 1000000) (hk : k ≤ s.length) (hR : rdStr s k = none) :
  Calls Tryd.prog 45 #[.pointer (some ⟨b, 0, none⟩)] w fun e w' => e = .returned (.string (bstr (itxt s (k, false)).1)) ∧ Box w' b 82 (rdCells s (itxt s (k, false)).2).toArray ∧ w.grownBy w' (some b) := by
 have HP := Hp.own h
 refine w_enter 40 [(0, (.pointer (some ⟨b, 0, none⟩)))] Tryd.func45 rfl Tryd.ntmps45 (by kernel_rfl) (by kernel_rfl) fun a H => ?_
 refine wp_seq (w_region ?_)
 refine H.v 2 (.string (bstr ([]))) fun a H => ?_
 refine wpList_nil (then_normal (wp_seq ?_))
 refine An.start (fun v => Hp w v [bx b 82 [(.string (bstr s)), (.int .i64 ((k : Nat) : Int)), (.bool false)] false] []) 16 16 HP wide_follows rfl fun w_1 HP => ?_
 refine An.p H (.inr HP) 0 7 (.pointer (some ⟨b, 0, none⟩)) fun a H => ?_
 refine An.p H (.inr HP) 1 8 (.pointer (some ⟨b, 0, none⟩)) fun a H => ?_
 refine An.p H (.inr HP) 2 9 (.pointer (some ⟨b, 0, none⟩)) fun a H => ?_
 refine An.val H (HP) 3 10 (.string (bstr s)) rfl (by kernel_rfl) (by kernel_rfl) (fun _ _ _ h => h) (fun _ hS => ex_load1 (by kernel_rfl) (by kernel_rfl) (hS.cell 0 rfl 0 rfl)) fun a H => ?_
 refine An.p H (.inr HP) 4 11 (.pointer (some ⟨b, 0, none⟩)) fun a H => ?_
 refine An.p H (.inr HP) 5 12 (.pointer (some ⟨b, 0, none⟩)) fun a H => ?_
 refine An.p H (.inr HP) 6 13 (.pointer (some ⟨b, 1, none⟩)) fun a H => ?_
 refine An.val H (HP) 7 14 (.int .i64 ((k : Nat) : Int)) rfl (by kernel_rfl) (by kernel_rfl) (fun _ _ _ h => h) (fun _ hS => ex_load1 (by kernel_rfl) (by kernel_rfl) (hS.cell 0 rfl 1 rfl)) fun a H => ?_
 refine An.one 8 (by kernel_rfl) ?_
 refine Op.call H 15 rfl (by kernel_rfl) (Eq.trans (by kernel_rfl : _ = (callFunc 69 #[(.string (bstr s)), (.int .i64 ((k : Nat) : Int))]).run Tryd.prog w_1) (Tryd.call69 _ _)) ((by have hh := rstr_any s k w_1 hl hk; rw [hR] at hh; exact hh)) ?_
 rintro e w_2 ⟨rfl, hb⟩
 refine ⟨_, rfl, ?_⟩
 intro a H
 have HP := HP.next hb
 refine ⟨.inr (HP), ?_⟩
 refine An.p H (.inr HP) 9 6 (.tuple #[(.string (bstr ([]))), (.int .i64 0), (.int .i64 10)]) fun a H => ?_
 refine An.p H (.inr HP) 10 16 (.string (bstr ([]))) fun a H => ?_
 refine An.p H (.inr HP) 11 17 (.int .i64 0) fun a H => ?_
 refine An.p H (.inr HP) 12 18 (.int .i64 10) fun a H => ?_
 refine An.p H (.inr HP) 13 3 (.string (bstr ([]))) fun a H => ?_
 refine An.p H (.inr HP) 14 4 (.int .i64 0) fun a H => ?_
 refine An.p H (.inr HP) 15 5 (.int .i64 10) fun a H => ?_
 refine An.done (by kernel_rfl) ?_
 refine then_normal (wp_seq (w_region ?_))
 refine H.v 19 (.pointer (some ⟨b, 0, none⟩)) fun a H => ?_
 refine H.v 20 (.pointer (some ⟨b, 0, none⟩)) fun a H => ?_
 refine H.v 21 (.pointer (some ⟨b, 0, none⟩)) fun a H => ?_
 refine H.v 22 (.pointer (some ⟨b, 2, none⟩)) fun a H => ?_
 refine H.u 23 (.bool false) (ex_load1 (by kernel_rfl) (by kernel_rfl) (HP.cell 0 rfl 2 rfl)) fun a H => ?_
 refine H.v 24 (.bool false) fun a H => ?_
 refine H.v 25 (.int .i64 10) fun a H => ?_
 refine H.v 26 (.bool true) fun a H => ?_
 refine H.v 27 (.bool true) fun a H => ?_
 refine H.v 28 (.pointer (some ⟨b, 0, none⟩)) fun a H => ?_
 refine H.v 29 (.pointer (some ⟨b, 2, none⟩)) fun a H => ?_
 refine H.store HP 0 b 2 1 82 _ false (.bool true) [bx b 82 [(.string (bstr s)), (.int .i64 ((k : Nat) : Int)), (.bool true)] false] (by kernel_rfl) (by kernel_rfl) (by kernel_rfl) rfl (by kernel_rfl) (by kernel_rfl) (by kernel_rfl) (by kernel_rfl) (by kernel_rfl) fun w_3 a H HP => ?_
 refine wpList_nil (then_normal (wp_seq (wp_seq (w_region ?_))))
 refine H.v 30 (.pointer (some ⟨b, 0, none⟩)) fun a H => ?_
 refine H.v 31 (.pointer (some ⟨b, 0, none⟩)) fun a H => ?_
 refine H.v 32 (.pointer (some ⟨b, 2, none⟩)) fun a H => ?_
 refine H.u 33 (.bool true) (ex_load1 (by kernel_rfl) (by kernel_rfl) (HP.cell 0 rfl 2 rfl)) fun a H => ?_
 refine H.v 34 (.bool false) fun a H => ?_
 refine wpList_nil (then_normal ?_)
 refine w_iff H rfl ?_
 refine wp_skip (then_normal (wp_seq (w_region ?_)))
 refine H.v 39 (.string (bstr ([]))) fun a H => ?_
 refine H.v 2 (.string (bstr ([]))) fun a H => ?_
 refine wpList_nil (then_normal (wp_ret ?_))
 refine H.ret1 (fn := Tryd.f45) Tryd.results45 (RV.tmp_ (v := (.string (bstr ([])))) (by kernel_rfl)) ?_
 exact ⟨by unfold itxt; simp only [hR], by unfold itxt; simp only [hR]; exact HP.at_ 0 rfl, HP.only b (by intro x hx; simp only [List.mem_cons, List.not_mem_nil, or_false] at hx; rcases hx with rfl <;> simp [bx])⟩
set_option maxRecDepth 100000 in
set_option maxHeartbeats 4000000 in
theorem itxt_fs (b : Nat) (s : List UInt8) (k : Nat) (w : World) (h : Box w b 82 [.string (bstr s), .int .i64 ((k : Nat) : Int), .bool false].toArray) (hl : s.length ≤ 1000000) (hk : k ≤ s.length) (n : List UInt8) (e : Nat) (hR : rdStr s k = some (n, e)) :
  Calls Tryd.prog 45 #[.pointer (some ⟨b, 0, none⟩)] w fun e w' => e = .returned (.string (bstr (itxt s (k, false)).1)) ∧ Box w' b 82 (rdCells s (itxt s (k, false)).2).toArray ∧ w.grownBy w' (some b) := by
 have HP := Hp.own h
 refine w_enter 40 [(0, (.pointer (some ⟨b, 0, none⟩)))] Tryd.func45 rfl Tryd.ntmps45 (by kernel_rfl) (by kernel_rfl) fun a H => ?_
 refine wp_seq (w_region ?_)
 refine H.v 2 (.string (bstr ([]))) fun a H => ?_
 refine wpList_nil (then_normal (wp_seq ?_))
 refine An.start (fun v => Hp w v [bx b 82 [(.string (bstr s)), (.int .i64 ((k : Nat) : Int)), (.bool false)] false] []) 16 16 HP wide_follows rfl fun w_1 HP => ?_
 refine An.p H (.inr HP) 0 7 (.pointer (some ⟨b, 0, none⟩)) fun a H => ?_
 refine An.p H (.inr HP) 1 8 (.pointer (some ⟨b, 0, none⟩)) fun a H => ?_
 refine An.p H (.inr HP) 2 9 (.pointer (some ⟨b, 0, none⟩)) fun a H => ?_
 refine An.val H (HP) 3 10 (.string (bstr s)) rfl (by kernel_rfl) (by kernel_rfl) (fun _ _ _ h => h) (fun _ hS => ex_load1 (by kernel_rfl) (by kernel_rfl) (hS.cell 0 rfl 0 rfl)) fun a H => ?_
 refine An.p H (.inr HP) 4 11 (.pointer (some ⟨b, 0, none⟩)) fun a H => ?_
 refine An.p H (.inr HP) 5 12 (.pointer (some ⟨b, 0, none⟩)) fun a H => ?_
 refine An.p H (.inr HP) 6 13 (.pointer (some ⟨b, 1, none⟩)) fun a H => ?_
 refine An.val H (HP) 7 14 (.int .i64 ((k : Nat) : Int)) rfl (by kernel_rfl) (by kernel_rfl) (fun _ _ _ h => h) (fun _ hS => ex_load1 (by kernel_rfl) (by kernel_rfl) (hS.cell 0 rfl 1 rfl)) fun a H => ?_
 refine An.one 8 (by kernel_rfl) ?_
 refine Op.call H 15 rfl (by kernel_rfl) (Eq.trans (by kernel_rfl : _ = (callFunc 69 #[(.string (bstr s)), (.int .i64 ((k : Nat) : Int))]).run Tryd.prog w_1) (Tryd.call69 _ _)) ((by have hh := rstr_any s k w_1 hl hk; rw [hR] at hh; exact hh)) ?_
 rintro e w_2 ⟨rfl, hb⟩
 refine ⟨_, rfl, ?_⟩
 intro a H
 have HP := HP.next hb
 refine ⟨.inr (HP), ?_⟩
 refine An.p H (.inr HP) 9 6 (.tuple #[(.string (bstr n)), (.int .i64 ((e : Nat) : Int)), (.int .i64 0)]) fun a H => ?_
 refine An.p H (.inr HP) 10 16 (.string (bstr n)) fun a H => ?_
 refine An.p H (.inr HP) 11 17 (.int .i64 ((e : Nat) : Int)) fun a H => ?_
 refine An.p H (.inr HP) 12 18 (.int .i64 0) fun a H => ?_
 refine An.p H (.inr HP) 13 3 (.string (bstr n)) fun a H => ?_
 refine An.p H (.inr HP) 14 4 (.int .i64 ((e : Nat) : Int)) fun a H => ?_
 refine An.p H (.inr HP) 15 5 (.int .i64 0) fun a H => ?_
 refine An.done (by kernel_rfl) ?_
 refine then_normal (wp_seq (w_region ?_))
 refine H.v 19 (.pointer (some ⟨b, 0, none⟩)) fun a H => ?_
 refine H.v 20 (.pointer (some ⟨b, 0, none⟩)) fun a H => ?_
 refine H.v 21 (.pointer (some ⟨b, 0, none⟩)) fun a H => ?_
 refine H.v 22 (.pointer (some ⟨b, 2, none⟩)) fun a H => ?_
 refine H.u 23 (.bool false) (ex_load1 (by kernel_rfl) (by kernel_rfl) (HP.cell 0 rfl 2 rfl)) fun a H => ?_
 refine H.v 24 (.bool false) fun a H => ?_
 refine H.v 25 (.int .i64 0) fun a H => ?_
 refine H.v 26 (.bool false) fun a H => ?_
 refine H.v 27 (.bool false) fun a H => ?_
 refine H.v 28 (.pointer (some ⟨b, 0, none⟩)) fun a H => ?_
 refine H.v 29 (.pointer (some ⟨b, 2, none⟩)) fun a H => ?_
 refine H.store HP 0 b 2 1 82 _ false (.bool false) [bx b 82 [(.string (bstr s)), (.int .i64 ((k : Nat) : Int)), (.bool false)] false] (by kernel_rfl) (by kernel_rfl) (by kernel_rfl) rfl (by kernel_rfl) (by kernel_rfl) (by kernel_rfl) (by kernel_rfl) (by kernel_rfl) fun w_3 a H HP => ?_
 refine wpList_nil (then_normal (wp_seq (wp_seq (w_region ?_))))
 refine H.v 30 (.pointer (some ⟨b, 0, none⟩)) fun a H => ?_
 refine H.v 31 (.pointer (some ⟨b, 0, none⟩)) fun a H => ?_
 refine H.v 32 (.pointer (some ⟨b, 2, none⟩)) fun a H => ?_
 refine H.u 33 (.bool false) (ex_load1 (by kernel_rfl) (by kernel_rfl) (HP.cell 0 rfl 2 rfl)) fun a H => ?_
 refine H.v 34 (.bool true) fun a H => ?_
 refine wpList_nil (then_normal ?_)
 refine w_ift H rfl ?_
 refine w_region ?_
 refine H.v 35 (.pointer (some ⟨b, 0, none⟩)) fun a H => ?_
 refine H.v 36 (.int .i64 ((e : Nat) : Int)) fun a H => ?_
 refine H.v 37 (.pointer (some ⟨b, 0, none⟩)) fun a H => ?_
 refine H.v 38 (.pointer (some ⟨b, 1, none⟩)) fun a H => ?_
 refine H.store HP 0 b 1 1 82 _ false (.int .i64 ((e : Nat) : Int)) [bx b 82 [(.string (bstr s)), (.int .i64 ((e : Nat) : Int)), (.bool false)] false] (by kernel_rfl) (by kernel_rfl) (by kernel_rfl) rfl (by kernel_rfl) (by kernel_rfl) (by kernel_rfl) (by kernel_rfl) (by kernel_rfl) fun w_4 a H HP => ?_
 refine wpList_nil (then_normal (wp_seq (w_region ?_)))
 refine H.v 39 (.string (bstr n)) fun a H => ?_
 refine H.v 2 (.string (bstr n)) fun a H => ?_
 refine wpList_nil (then_normal (wp_ret ?_))
 refine H.ret1 (fn := Tryd.f45) Tryd.results45 (RV.tmp_ (v := (.string (bstr n))) (by kernel_rfl)) ?_
 exact ⟨by unfold itxt; simp only [hR], by unfold itxt; simp only [hR]; exact HP.at_ 0 rfl, HP.only b (by intro x hx; simp only [List.mem_cons, List.not_mem_nil, or_false] at hx; rcases hx with rfl <;> simp [bx])⟩
theorem itxt_any (b : Nat) (s : List UInt8) (q : Nat × Bool) (w : World) (h : Box w b 82 (rdCells s q).toArray) (hl : s.length ≤ 1000000) (hk : q.1 ≤ s.length) :
  Calls Tryd.prog 45 #[.pointer (some ⟨b, 0, none⟩)] w fun e w' => e = .returned (.string (bstr (itxt s q).1)) ∧ Box w' b 82 (rdCells s (itxt s q).2).toArray ∧ w.grownBy w' (some b) := by
 obtain ⟨k, fl⟩ := q
 cases hR : rdStr s k with
 | none => cases fl with
  | true => exact itxt_tn b s k w h hl hk hR
  | false => exact itxt_fn b s k w h hl hk hR
 | some p => cases fl with
  | true => exact itxt_ts b s k w h hl hk p.1 p.2 hR
  | false => exact itxt_fs b s k w h hl hk p.1 p.2 hR

end Go.Proofs.YtgdjpaeclicdfaaDoor
