/- Contracts of the reference: numbers, the encoding of an opt-out. -/
import Derived.Test.YtgdjpaeclicdfaaDoorRfA
import Derived.Test.YtgdjpaeclicdfaaDoorTrN
namespace Go.Proofs.YtgdjpaeclicdfaaDoor
open Go.ChangeShapes Go.WideShapes Go.ChangeAt Go.RowKit
set_option linter.unusedVariables false
set_option linter.unusedSimpArgs false

theorem inW_getD {zs : List Int} (h : InW zs) {j : Nat} (hj : j < zs.length) : -wmax ≤ zs.getD j 0 ∧ zs.getD j 0 ≤ wmax := by
 have e : zs.getD j 0 = zs[j] := by simp [List.getD, List.getElem?_eq_getElem hj]
 rw [e]
 exact h _ (List.getElem_mem hj)
theorem encInts_take {zs : List Int} {j : Nat} (hj : j < zs.length) : encInts (zs.take (j + 1)) = encInts (zs.take j) ++ encInt (zs.getD j 0) := by
 rw [List.take_succ_eq_append_getElem hj, encInts_snoc]
 simp [List.getD, List.getElem?_eq_getElem hj]
theorem ints_len (zs : List Int) : (ints zs).length = zs.length := by simp
theorem row_int {w : World} {b j : Nat} {zs : List Int} (h : Rd w 1 (some ⟨b, 0, none⟩) zs.length (ints zs)) (hj : j < zs.length) : w.cell? ⟨b, 0 + j * 1, none⟩ = some (.int .i64 (zs.getD j 0)) := by
 obtain ⟨b', off, he, _, hc⟩ := h.2.resolve_left (by omega)
 cases he
 rw [Nat.mul_one, hc j (by omega)]
 simp [List.getD, List.getElem?_eq_getElem hj]
theorem flatA_len (al : Alts) : (flatA al).length = 2 * al.length := by
 induction al with
 | nil => rfl
 | cons a al ih => simp only [flatA, List.flatMap_cons, List.length_append, List.length_cons, List.length_nil] at *; omega
theorem opt_inW {s f : Int} {al : Alts} (h : validP s f al = true) : InW ([s, f, ((al.length : Nat) : Int)] ++ flatA al) := by
 obtain ⟨h1, h2, h3, h4⟩ := valid_facts h
 intro z hz
 rcases List.mem_append.1 hz with hz | hz
 ·simp only [List.mem_cons, List.not_mem_nil, or_false] at hz
  unfold wmax
  rcases hz with rfl | rfl | rfl <;> omega
 ·exact flat_inW h4 z hz
theorem alt_at0 {w : World} {AB AO j : Nat} {al : Alts} (h : IsAlts w (some ⟨AB, AO, none⟩) al.length al) (hj : j < al.length) : w.cell? ⟨AB, AO + j * 2, none⟩ = some (.int .i64 (al.getD j (0, 0)).1) := by
 obtain ⟨b, off, he, _, h1, h2⟩ := h.at_ hj
 cases he; exact h1
theorem alt_at1 {w : World} {AB AO j : Nat} {al : Alts} (h : IsAlts w (some ⟨AB, AO, none⟩) al.length al) (hj : j < al.length) : w.cell? ⟨AB, AO + j * 2 + 1, none⟩ = some (.int .i64 (al.getD j (0, 0)).2) := by
 obtain ⟨b, off, he, _, h1, h2⟩ := h.at_ hj
 cases he; exact h2
set_option maxRecDepth 100000 in
set_option maxHeartbeats 4000000 in
theorem rnumbers_any (b c : Nat) (zs : List Int) (w : World) (hr : Rd w 1 (some ⟨b, 0, none⟩) zs.length (ints zs)) (hzs : InW zs) (hl : zs.length ≤ 1000) (hcap : zs.length ≤ c) :
  Calls Tryd.prog 79 #[.slice (some ⟨b, 0, none⟩) zs.length c] w fun e w' => e = .returned (.string (bstr (encInts zs))) ∧ Below w.heap.size w w' := by
 have HP := Hp.start w
 refine w_enter 25 [(0, (.slice (some ⟨b, 0, none⟩) zs.length c))] Tryd.func79 rfl Tryd.ntmps79 (by kernel_rfl) (by kernel_rfl) fun a H => ?_
 refine wp_seq (w_region ?_)
 refine H.v 2 (.string (bstr ([]))) fun a H => ?_
 refine wpList_nil (then_normal (wp_seq (w_region ?_)))
 refine H.v 3 (.string (bstr ([]))) fun a H => ?_
 refine wpList_nil (then_normal (wp_seq (wp_seq (w_region ?_))))
 refine H.v 4 (.int .i64 0) fun a H => ?_
 refine wpList_nil (then_normal (wp_block ?_))
 refine w_loop (fun mm a wv => ∃ (j : Nat), zs.length - j = mm ∧ Sl 25 [(4, (.int .i64 ((j : Nat) : Int))), (3, (.string (bstr (encInts (zs.take j))))), (0, (.slice (some ⟨b, 0, none⟩) zs.length c))] a ∧ Hp w wv [] [] ∧ (j ≤ zs.length)) (zs.length - 0) ?_ ?_
 ·exact ⟨0, (by omega), H.keep (by kernel_rfl), HP, by omega⟩
 rintro mm a w_1 ⟨j, hmeas, H, HP, hj⟩
 refine wp_seq (wp_seq (w_region ?_))
 refine H.v 7 (.int .i64 ((j : Nat) : Int)) fun a H => ?_
 refine H.v 8 (.slice (some ⟨b, 0, none⟩) zs.length c) fun a H => ?_
 refine H.v 9 (.int .i64 ((zs.length : Nat) : Int)) fun a H => ?_
 refine H.v 10 (.bool (decide (((j : Nat) : Int) < ((zs.length : Nat) : Int)))) fun a H => ?_
 refine wpList_nil (then_normal ?_)
 refine w_if H rfl (fun g10 => ?_) (fun g10 => ?_)
 ·have g10p := of_decide_eq_true g10
  refine wp_skip (then_normal (wp_seq (wp_block (wp_seq (w_region ?_)))))
  refine H.v 14 (.slice (some ⟨b, 0, none⟩) zs.length c) fun a H => ?_
  refine H.v 15 (.int .i64 ((j : Nat) : Int)) fun a H => ?_
  refine H.u 16 (.pointer (some ⟨b, 0 + j * 1, none⟩)) (ex_index (b := b) (off := 0) (len := zs.length) (cap := c) (e := 3) (k := 1) (ik := .i64) (i := ((j : Nat) : Int)) (m := j) (by kernel_rfl) (by kernel_rfl) (by omega) (by omega) (by kernel_rfl) (by kernel_rfl)) fun a H => ?_
  refine H.u 17 (.int .i64 (zs.getD j 0)) (ex_load1 (p := ⟨b, 0 + j * 1, none⟩) (by kernel_rfl) (by kernel_rfl) (row_int (hr.below (HP.below (by kernel_rfl))) (by omega))) fun a H => ?_
  refine H.call 18 (by kernel_rfl) (Eq.trans (by kernel_rfl : _ = (callFunc 80 #[(.int .i64 (zs.getD j 0))]).run Tryd.prog w_1) (Tryd.call80 _ _)) (rputInt_any (zs.getD j 0) w_1 (inW_getD hzs (by omega)).1 (inW_getD hzs (by omega)).2) ?_
  rintro e w_2 ⟨rfl, hb⟩
  refine ⟨_, rfl, ?_⟩
  intro a H
  have HP := HP.next hb
  refine H.v 13 (.tuple #[(.string (bstr (encInt (zs.getD j 0)))), (.int .i64 0)]) fun a H => ?_
  refine H.v 19 (.string (bstr (encInt (zs.getD j 0)))) fun a H => ?_
  refine H.v 20 (.int .i64 0) fun a H => ?_
  refine H.v 5 (.string (bstr (encInt (zs.getD j 0)))) fun a H => ?_
  refine H.v 6 (.int .i64 0) fun a H => ?_
  refine wpList_nil (then_normal (w_region ?_))
  refine H.v 21 (.string (bstr (encInts (zs.take j)))) fun a H => ?_
  refine H.v 22 (.string (bstr (encInt (zs.getD j 0)))) fun a H => ?_
  refine H.u 23 (.string (bstr ((encInts (zs.take j)) ++ (encInt (zs.getD j 0))))) (ex_sadd (by kernel_rfl) (by kernel_rfl) (by (have := encInts_len (zs.take j); have := (encInt_len (zs.getD j 0)).2; simp only [List.length_take] at *; omega))) fun a H => ?_
  refine H.v 3 (.string (bstr ((encInts (zs.take j)) ++ (encInt (zs.getD j 0))))) fun a H => ?_
  refine wpList_nil (inb_normal (then_normal (w_region ?_)))
  refine H.v 11 (.int .i64 ((j : Nat) : Int)) fun a H => ?_
  refine H.valE 12 (.int .i64 (IntKind.i64.wrap (((j : Nat) : Int) + 1))) (.int .i64 (((j : Nat) : Int) + 1)) (by kernel_rfl) (by kernel_rfl) ((by rw [wrap_ini64 _ (by omega)])) fun a H => ?_
  refine H.v 4 (.int .i64 (((j : Nat) : Int) + 1)) fun a H => ?_
  refine wpList_nil (then_normal ?_)
  have H := H.as 4 (.int .i64 ((j + 1 : Nat) : Int)) rfl rfl
  have H := H.as 3 (.string (bstr (encInts (zs.take (j + 1))))) rfl (congrArg (fun x => Value.string (bstr x)) (encInts_take (by omega)).symm)
  refine ⟨_, ?_, j + 1, rfl, H.keep (by kernel_rfl), HP, by omega⟩
  omega
 ·have g10p := of_decide_eq_false g10
  refine wp_exit (then_exit (then_exit ?_))
  refine w_exit_here ?_
  refine then_normal (wp_seq (w_region ?_))
  refine H.v 24 (.string (bstr (encInts (zs.take j)))) fun a H => ?_
  refine H.v 2 (.string (bstr (encInts (zs.take j)))) fun a H => ?_
  refine wpList_nil (then_normal (wp_ret ?_))
  refine H.ret1 (fn := Tryd.f79) Tryd.results79 (RV.tmp_ (v := (.string (bstr (encInts (zs.take j))))) (by kernel_rfl)) ?_
  exact ⟨by rw [show j = zs.length by omega, List.take_length], (HP.below (by kernel_rfl))⟩
set_option maxRecDepth 100000 in
set_option maxHeartbeats 4000000 in
theorem rencode_any (s f : Int) (A : Option Addr) (c : Nat) (al : Alts) (w : World) (h : IsAlts w A al.length al) (hv : validP s f al = true) (hc : al.length ≤ c) :
  Calls Tryd.prog 57 #[.agg #[.int .i64 s, .int .i64 f, .slice A al.length c]] w fun e w' => e = .returned (.tuple #[.string (bstr (encOpt s f al)), .int .i64 0]) ∧ Below w.heap.size w w' := by
 have HP := Hp.start w
 obtain ⟨v1, v2, v3, v4⟩ := valid_facts hv
 have hIn := opt_inW hv
 refine w_enter 43 [(0, (.agg #[(.int .i64 s), (.int .i64 f), (.slice A al.length c)]))] Tryd.func57 rfl Tryd.ntmps57 (by kernel_rfl) (by kernel_rfl) fun a H => ?_
 refine wp_seq (w_region ?_)
 refine H.alloc HP 1 (fun b => (.pointer (some ⟨b, 0, none⟩))) 26 [(.int .i64 s), (.int .i64 f), (.slice A al.length c)] (by kernel_rfl) (fun w => by kernel_rfl) fun b_1 w_2 a H HP => ?_
 refine H.v 2 (.string (bstr ([]))) fun a H => ?_
 refine H.v 3 (.int .i64 0) fun a H => ?_
 refine wpList_nil (then_normal (wp_seq (w_region ?_)))
 refine H.u 7 (.agg #[(.int .i64 s), (.int .i64 f), (.slice A al.length c)]) (ex_loadN (vs := [(.int .i64 s), (.int .i64 f), (.slice A al.length c)]) (by kernel_rfl) (by kernel_rfl) (by kernel_rfl) rfl (HP.cells 0 rfl 0 3 (by kernel_rfl))) fun a H => ?_
 refine H.call 8 (by kernel_rfl) (Eq.trans (by kernel_rfl : _ = (callFunc 37 #[(.agg #[(.int .i64 s), (.int .i64 f), (.slice A al.length c)])]).run Tryd.prog w_2) (Tryd.call37 _ _)) ((by have hh := rvalid_any s f A al.length c al w_2 (h.below (HP.below (by kernel_rfl))) (by unfold maxLen; omega); rw [hv] at hh; exact hh)) ?_
 rintro e w_3 ⟨rfl, hb⟩
 refine ⟨_, rfl, ?_⟩
 intro a H
 have HP := HP.next hb
 refine H.v 4 (.bool true) fun a H => ?_
 refine wpList_nil (then_normal (wp_seq (wp_seq (w_region ?_))))
 refine H.v 9 (.bool true) fun a H => ?_
 refine H.v 10 (.bool false) fun a H => ?_
 refine wpList_nil (then_normal ?_)
 refine w_iff H rfl ?_
 refine wp_skip (then_normal (wp_seq (w_region ?_)))
 refine H.v 11 (.pointer (some ⟨b_1, 0, none⟩)) fun a H => ?_
 refine H.u 12 (.int .i64 s) (ex_load1 (by kernel_rfl) (by kernel_rfl) (HP.cell 0 rfl 0 rfl)) fun a H => ?_
 refine H.v 13 (.pointer (some ⟨b_1, 1, none⟩)) fun a H => ?_
 refine H.u 14 (.int .i64 f) (ex_load1 (by kernel_rfl) (by kernel_rfl) (HP.cell 0 rfl 1 rfl)) fun a H => ?_
 refine H.v 15 (.pointer (some ⟨b_1, 2, none⟩)) fun a H => ?_
 refine H.u 16 (.slice A al.length c) (ex_load1 (by kernel_rfl) (by kernel_rfl) (HP.cell 0 rfl 2 rfl)) fun a H => ?_
 refine H.v 17 (.int .i64 ((al.length : Nat) : Int)) fun a H => ?_
 refine H.alloc HP 18 (fun b => (.slice (some ⟨b, 0, none⟩) 3 3)) 3 [(.int .i64 s), (.int .i64 f), (.int .i64 ((al.length : Nat) : Int))] (by kernel_rfl) (fun w => by kernel_rfl) fun b_4 w_5 a H HP => ?_
 refine H.v 5 (.slice (some ⟨b_4, 0, none⟩) 3 3) fun a H => ?_
 refine wpList_nil ?_
 have HP : Hp w w_5 [(ownR w.heap.size 3 (.slice (some ⟨b_4, 0, none⟩) 3 3) (ints [s, f, ((al.length : Nat) : Int)])), bx b_1 26 [(.int .i64 s), (.int .i64 f), (.slice A al.length c)] true] [] := HP.rowOf 0 rfl rfl (by unfold maxLen; simp only [List.length_cons, List.length_nil]; omega) _ rfl
 refine then_normal (wp_seq (wp_seq (w_region ?_)))
 refine H.v 6 (.int .i64 0) fun a H => ?_
 refine wpList_nil (then_normal (wp_block ?_))
 refine w_loop (fun mm a wv => ∃ (j : Nat), ∃ (bl : Nat), ∃ (cl : Nat), al.length - j = mm ∧ Sl 43 [(6, (.int .i64 ((j : Nat) : Int))), (5, (.slice (some ⟨bl, 0, none⟩) (3 + 2 * j) cl)), (1, (.pointer (some ⟨b_1, 0, none⟩)))] a ∧ Hp w wv [(ownR w.heap.size 3 (.slice (some ⟨bl, 0, none⟩) (3 + 2 * j) cl) (ints ([s, f, ((al.length : Nat) : Int)] ++ flatA (al.take j)))), bx b_1 26 [(.int .i64 s), (.int .i64 f), (.slice A al.length c)] true] [] ∧ (j ≤ al.length)) (al.length - 0) ?_ ?_
 ·exact ⟨0, b_4, 3, (by omega), H.keep (by kernel_rfl), (by rw [List.take_zero, show flatA [] = [] from rfl, List.append_nil]; exact HP), by omega⟩
 rintro mm a w_6 ⟨j, bl, cl, hmeas, H, HP, hj⟩
 refine wp_seq (wp_seq (w_region ?_))
 refine H.v 19 (.int .i64 ((j : Nat) : Int)) fun a H => ?_
 refine H.v 20 (.pointer (some ⟨b_1, 2, none⟩)) fun a H => ?_
 refine H.u 21 (.slice A al.length c) (ex_load1 (by kernel_rfl) (by kernel_rfl) (HP.cell 1 rfl 2 rfl)) fun a H => ?_
 refine H.v 22 (.int .i64 ((al.length : Nat) : Int)) fun a H => ?_
 refine H.v 23 (.bool (decide (((j : Nat) : Int) < ((al.length : Nat) : Int)))) fun a H => ?_
 refine wpList_nil (then_normal ?_)
 refine w_if H rfl (fun g23 => ?_) (fun g23 => ?_)
 ·have g23p := of_decide_eq_true g23
  refine wp_skip (then_normal (wp_seq (wp_block ?_)))
  obtain ⟨AB, AO, hAA, _⟩ := h.at_ (i := j) (by omega)
  have hA2 := h
  rw [hAA] at hA2
  have HP := HP.front 0 rfl [(ownR w.heap.size 3 (.slice (some ⟨bl, 0, none⟩) (3 + 2 * j) cl) (ints ([s, f, ((al.length : Nat) : Int)] ++ flatA (al.take j)))), bx b_1 26 [(.int .i64 s), (.int .i64 f), (.slice A al.length c)] true] (by kernel_rfl)
  refine An.start (fun v => Hp w v [bx b_1 26 [(.int .i64 s), (.int .i64 f), (.slice A al.length c)] true] []) 16 16 HP wide_follows rfl fun w_7 HP => ?_
  refine An.p H (.inr ((HP.tail rfl))) 0 26 (.slice (some ⟨bl, 0, none⟩) (3 + 2 * j) cl) fun a H => ?_
  refine An.p H (.inr ((HP.tail rfl))) 1 27 (.pointer (some ⟨b_1, 2, none⟩)) fun a H => ?_
  refine An.val H ((HP.tail rfl)) 2 28 (.slice (some ⟨AB, AO, none⟩) al.length c) rfl (by kernel_rfl) (by kernel_rfl) (fun _ _ _ h => h) (fun _ hS => (by rw [← hAA]; exact ex_load1 (by kernel_rfl) (by kernel_rfl) (hS.cell 0 rfl 2 rfl))) fun a H => ?_
  refine An.p H (.inr ((HP.tail rfl))) 3 29 (.int .i64 ((j : Nat) : Int)) fun a H => ?_
  refine An.pure H (.inr ((HP.tail rfl))) 4 30 (.pointer (some ⟨AB, AO + j * 2, none⟩)) rfl (by kernel_rfl) (by kernel_rfl) (fun _ _ _ h => h) (fun _ => ex_index (b := AB) (off := AO) (len := al.length) (cap := c) (e := 103) (k := 2) (ik := .i64) (i := ((j : Nat) : Int)) (m := j) (by kernel_rfl) (by kernel_rfl) (by omega) (by omega) (by kernel_rfl) (by kernel_rfl)) fun a H => ?_
  refine An.p H (.inr ((HP.tail rfl))) 5 31 (.pointer (some ⟨AB, AO + j * 2, none⟩)) fun a H => ?_
  refine An.val H ((HP.tail rfl)) 6 32 (.int .i64 ((al.getD j (0, 0)).1)) rfl (by kernel_rfl) (by kernel_rfl) (fun _ _ _ h => h) (fun _ hS => ex_load1 (p := ⟨AB, AO + j * 2, none⟩) (by kernel_rfl) (by kernel_rfl) (alt_at0 (hA2.below (hS.below (by kernel_rfl))) (by omega))) fun a H => ?_
  refine An.p H (.inr ((HP.tail rfl))) 7 33 (.pointer (some ⟨b_1, 2, none⟩)) fun a H => ?_
  refine An.val H ((HP.tail rfl)) 8 34 (.slice (some ⟨AB, AO, none⟩) al.length c) rfl (by kernel_rfl) (by kernel_rfl) (fun _ _ _ h => h) (fun _ hS => (by rw [← hAA]; exact ex_load1 (by kernel_rfl) (by kernel_rfl) (hS.cell 0 rfl 2 rfl))) fun a H => ?_
  refine An.p H (.inr ((HP.tail rfl))) 9 35 (.int .i64 ((j : Nat) : Int)) fun a H => ?_
  refine An.pure H (.inr ((HP.tail rfl))) 10 36 (.pointer (some ⟨AB, AO + j * 2, none⟩)) rfl (by kernel_rfl) (by kernel_rfl) (fun _ _ _ h => h) (fun _ => ex_index (b := AB) (off := AO) (len := al.length) (cap := c) (e := 103) (k := 2) (ik := .i64) (i := ((j : Nat) : Int)) (m := j) (by kernel_rfl) (by kernel_rfl) (by omega) (by omega) (by kernel_rfl) (by kernel_rfl)) fun a H => ?_
  refine An.p H (.inr ((HP.tail rfl))) 11 37 (.pointer (some ⟨AB, AO + j * 2 + 1, none⟩)) fun a H => ?_
  refine An.val H ((HP.tail rfl)) 12 38 (.int .i64 ((al.getD j (0, 0)).2)) rfl (by kernel_rfl) (by kernel_rfl) (fun _ _ _ h => h) (fun _ hS => ex_load1 (p := ⟨AB, AO + j * 2 + 1, none⟩) (by kernel_rfl) (by kernel_rfl) (alt_at1 (hA2.below (hS.below (by kernel_rfl))) (by omega))) fun a H => ?_
  refine An.one 13 (by kernel_rfl) ?_
  refine Op.alloc H HP 39 (fun b => (.slice (some ⟨b, 0, none⟩) 2 2)) 3 [(.int .i64 ((al.getD j (0, 0)).1)), (.int .i64 ((al.getD j (0, 0)).2))] rfl (by kernel_rfl) (fun w => by kernel_rfl) fun b_8 w_9 a H HP => ?_
  refine ⟨.inr (((HP.tail rfl).tail rfl)), ?_⟩
  refine An.one 14 (by kernel_rfl) ?_
  refine Op.appR H HP 40 1 (v := (.slice (some ⟨bl, 0, none⟩) (3 + 2 * j) cl)) (xs := (ints ([s, f, ((al.length : Nat) : Int)] ++ flatA (al.take j)))) 3 (z := (.int .i64 0)) (bytes := 8) (some ⟨b_8, 0, none⟩) (2) (2) ([.int .i64 (al.getD j (0, 0)).1, .int .i64 (al.getD j (0, 0)).2]) rfl (by kernel_rfl) (by kernel_rfl) (by kernel_rfl) (by kernel_rfl) (by kernel_rfl) rfl (by kernel_rfl) (fun h => by cases h) (Rd.of_box (HP.at_ 0 rfl) rfl) (by kernel_rfl) (by rw [ints_len]; simp [flatA_len]; unfold maxLen; omega) (by rw [ints_len]; simp [flatA_len]; omega) fun B_10 c_11 w_12 a H HP => ?_
  have HP : Hp w w_12 [bx b_8 3 [(.int .i64 ((al.getD j (0, 0)).1)), (.int .i64 ((al.getD j (0, 0)).2))] true, (ownR w.heap.size 3 (.slice B_10 ((ints ([s, f, ((al.length : Nat) : Int)] ++ flatA (al.take j))).length + 2) c_11) (ints ([s, f, ((al.length : Nat) : Int)] ++ flatA (al.take j)) ++ [.int .i64 (al.getD j (0, 0)).1, .int .i64 (al.getD j (0, 0)).2])), bx b_1 26 [(.int .i64 s), (.int .i64 f), (.slice A al.length c)] true] [] := HP
  have hxs : ints ([s, f, ((al.length : Nat) : Int)] ++ flatA (al.take j)) ++ [.int .i64 (al.getD j (0, 0)).1, .int .i64 (al.getD j (0, 0)).2] = ints ([s, f, ((al.length : Nat) : Int)] ++ flatA (al.take (j + 1))) := (by rw [flatA_take (by omega)]; simp [ints])
  have hvv : ((.slice B_10 ((ints ([s, f, ((al.length : Nat) : Int)] ++ flatA (al.take j))).length + 2) c_11) : Value) = (.slice B_10 (3 + 2 * j + 2) c_11) := by rw [show (ints ([s, f, ((al.length : Nat) : Int)] ++ flatA (al.take j))).length + 2 = 3 + 2 * j + 2 from (by rw [ints_len]; simp [flatA_len]; omega)]
  rw [hxs, hvv] at HP
  have HP : Hp w w_12 [bx b_8 3 [(.int .i64 ((al.getD j (0, 0)).1)), (.int .i64 ((al.getD j (0, 0)).2))] true, (ownR w.heap.size 3 (.slice B_10 (3 + 2 * j + 2) c_11) (ints ([s, f, ((al.length : Nat) : Int)] ++ flatA (al.take (j + 1))))), bx b_1 26 [(.int .i64 s), (.int .i64 f), (.slice A al.length c)] true] [] := HP
  have H := H.as 40 (.slice B_10 (3 + 2 * j + 2) c_11) rfl hvv
  clear hxs hvv
  refine ⟨.inr (((HP.tail rfl).tail rfl)), ?_⟩
  refine An.p H (.inr (((HP.tail rfl).tail rfl))) 15 5 (.slice B_10 (3 + 2 * j + 2) c_11) fun a H => ?_
  refine An.done (by kernel_rfl) ?_
  have H := H.keep (L' := [(5, (.slice B_10 (3 + 2 * j + 2) c_11)), (23, (.bool (decide (((j : Nat) : Int) < ((al.length : Nat) : Int))))), (22, (.int .i64 ((al.length : Nat) : Int))), (21, (.slice A al.length c)), (20, (.pointer (some ⟨b_1, 2, none⟩))), (19, (.int .i64 ((j : Nat) : Int))), (6, (.int .i64 ((j : Nat) : Int))), (1, (.pointer (some ⟨b_1, 0, none⟩)))]) (by kernel_rfl)
  refine inb_normal (then_normal (w_region ?_))
  refine H.v 24 (.int .i64 ((j : Nat) : Int)) fun a H => ?_
  refine H.valE 25 (.int .i64 (IntKind.i64.wrap (((j : Nat) : Int) + 1))) (.int .i64 (((j : Nat) : Int) + 1)) (by kernel_rfl) (by kernel_rfl) ((by rw [wrap_ini64 _ (by omega)])) fun a H => ?_
  refine H.v 6 (.int .i64 (((j : Nat) : Int) + 1)) fun a H => ?_
  refine wpList_nil (then_normal ?_)
  obtain ⟨bn, hbn⟩ : ∃ b, B_10 = some ⟨b, 0, none⟩ := own_some (HP.held 1 rfl) (by rw [ints_len]; simp)
  rw [hbn] at H HP
  have e2 : 3 + 2 * j + 2 = 3 + 2 * (j + 1) := by omega
  rw [e2] at H HP
  have H := H.as 6 (.int .i64 ((j + 1 : Nat) : Int)) rfl rfl
  refine ⟨_, ?_, j + 1, bn, c_11, rfl, H.keep (by kernel_rfl), (HP.tail rfl), by omega⟩
  omega
 ·have g23p := of_decide_eq_false g23
  refine wp_exit (then_exit (then_exit ?_))
  refine w_exit_here ?_
  refine then_normal (wp_seq (w_region ?_))
  refine H.v 41 (.slice (some ⟨bl, 0, none⟩) (3 + 2 * j) cl) fun a H => ?_
  refine H.call 42 (by kernel_rfl) (Eq.trans (by kernel_rfl : _ = (callFunc 79 #[(.slice (some ⟨bl, 0, none⟩) (3 + 2 * j) cl)]).run Tryd.prog w_6) (Tryd.call79 _ _)) ((by have hh := rnumbers_any bl cl ([s, f, ((al.length : Nat) : Int)] ++ flatA al) w_6 (by have q := ownR_rd (HP.held 0 rfl); rw [ints_len] at q; rw [show j = al.length by omega, List.take_length] at q; exact q) hIn (by simp [flatA_len]; omega) (by have q := (ownR_facts (HP.held 0 rfl)).2.1; simp [flatA_len]; omega); rw [show ([s, f, ((al.length : Nat) : Int)] ++ flatA al).length = 3 + 2 * j by simp [flatA_len]; omega] at hh; exact hh)) ?_
  rintro e w_13 ⟨rfl, hb⟩
  refine ⟨_, rfl, ?_⟩
  intro a H
  have HP := HP.next hb
  refine H.v 2 (.string (bstr (encOpt s f al))) fun a H => ?_
  refine H.v 3 (.int .i64 0) fun a H => ?_
  refine wpList_nil (then_normal (wp_ret ?_))
  refine H.ret2 (fn := Tryd.f57) Tryd.results57 (RV.tmp_ (v := (.string (bstr (encOpt s f al)))) (by kernel_rfl)) (RV.tmp_ (v := (.int .i64 0)) (by kernel_rfl)) ?_
  exact ⟨rfl, (HP.below (by kernel_rfl))⟩
end Go.Proofs.YtgdjpaeclicdfaaDoor
