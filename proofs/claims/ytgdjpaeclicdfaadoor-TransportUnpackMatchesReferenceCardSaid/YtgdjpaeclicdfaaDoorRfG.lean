/- Contract of the reference's Unpack. -/
import Derived.Test.YtgdjpaeclicdfaaDoorRfF
namespace Go.Proofs.YtgdjpaeclicdfaaDoor
open Go.ChangeShapes Go.WideShapes Go.ChangeAt Go.RowKit Go.Shelf
set_option linter.unusedVariables false
set_option linter.unusedSimpArgs false

theorem rdStr_le {s : List UInt8} {k e : Nat} {t : List UInt8} (hk : k ≤ s.length) (h : rdStr s k = some (t, e)) : e ≤ s.length ∧ t.length ≤ s.length := by
 unfold rdStr at h
 cases hi : rdInt s k with
 | none => rw [hi] at h; cases h
 | some x =>
  rw [hi] at h
  simp only at h
  split at h
  ·cases h
  ·cases h
   have := (rdInt_le hk hi).2
   simp only [List.length_take, List.length_drop]
   omega
theorem inum_le {s : List UInt8} {q : Nat × Bool} (h : q.1 ≤ s.length) : (inum s q).2.1 ≤ s.length := by
 unfold inum
 cases hr : rdInt s q.1 with
 | none => exact h
 | some p =>
  simp only
  split
  ·exact h
  ·exact (rdInt_le h hr).2
theorem itxt_le {s : List UInt8} {q : Nat × Bool} (h : q.1 ≤ s.length) : (itxt s q).2.1 ≤ s.length := by
 unfold itxt
 cases hr : rdStr s q.1 with
 | none => exact h
 | some p =>
  simp only
  split
  ·exact h
  ·exact (rdStr_le h hr).1
theorem itxt_len {s : List UInt8} {q : Nat × Bool} : (itxt s q).1.length ≤ s.length := by
 unfold itxt
 cases hr : rdStr s q.1 with
 | none => exact Nat.zero_le _
 | some p =>
  unfold rdStr at hr
  cases hi : rdInt s q.1 with
  | none => rw [hi] at hr; cases hr
  | some x =>
   rw [hi] at hr
   simp only at hr
   split at hr
   ·cases hr
   ·cases hr; simp only [List.length_take, List.length_drop]; omega
theorem inum_at {s r : List UInt8} {k : Nat} {n : Int} (h : k ≤ s.length ∧ s.drop k = encInt n ++ r) (h1 : -wmax ≤ n) (h2 : n ≤ wmax) : ∃ k', inum s (k, false) = (n, (k', false)) ∧ k' ≤ s.length ∧ s.drop k' = r := by
 obtain ⟨k', h3, h4⟩ := rnum_at h h1 h2
 refine ⟨k', ?_, h4⟩
 unfold rnum at h3
 rw [if_neg (by simp)] at h3
 unfold inum
 cases hr : rdInt s k with
 | none => simp only [hr, Prod.mk.injEq] at h3; exact absurd h3.2.2 (by decide)
 | some p => simp only [hr] at h3 ⊢; simpa using h3
theorem itxt_at {s r t : List UInt8} {k : Nat} (h : k ≤ s.length ∧ s.drop k = encStr t ++ r) (ht : t.length ≤ 65536) : ∃ k', itxt s (k, false) = (t, (k', false)) ∧ k' ≤ s.length ∧ s.drop k' = r := by
 obtain ⟨k', h3, h4⟩ := rtxt_at h ht
 refine ⟨k', ?_, h4⟩
 unfold rtxt at h3
 rw [if_neg (by simp)] at h3
 unfold itxt
 cases hr : rdStr s k with
 | none => simp only [hr, Prod.mk.injEq] at h3; exact absurd h3.2.2 (by decide)
 | some p => simp only [hr] at h3 ⊢; simpa using h3
/-- The reference's reader on a content. -/
theorem iread_all {c t s : List UInt8} {u : Un} (hc : c.length = 5) (hv : validU u = true) (hs : s = c ++ (contentP u ++ t)) : ∃ k1 k2 k3 k4 k5 k6 k7 k8 k9 k10 k11,
  (inum s (5, false) = (u.channel, (k1, false)) ∧ inum s (k1, false) = (u.frame, (k2, false)) ∧ inum s (k2, false) = (u.version, (k3, false)) ∧ inum s (k3, false) = (u.item, (k4, false)) ∧ inum s (k4, false) = (u.index, (k5, false)) ∧ inum s (k5, false) = ((if u.key = true then 1 else 0), (k6, false)) ∧
   itxt s (k6, false) = (u.data, (k7, false)) ∧ inum s (k7, false) = (u.regions, (k8, false)) ∧ inum s (k8, false) = (u.gain, (k9, false)) ∧ itxt s (k9, false) = (u.caption, (k10, false)) ∧ itxt s (k10, false) = (encOpt u.os u.of u.al, (k11, false))) ∧
  k1 ≤ s.length ∧ k2 ≤ s.length ∧ k3 ≤ s.length ∧ k4 ≤ s.length ∧ k5 ≤ s.length ∧ k6 ≤ s.length ∧ k7 ≤ s.length ∧ k8 ≤ s.length ∧ k9 ≤ s.length ∧ k10 ≤ s.length ∧ k11 ≤ s.length := by
 obtain ⟨hf, ho⟩ := validU_facts hv
 obtain ⟨f1, f2, f3, f4, f5, f6, f7, f8, f9, f10, f11, f12, f13, f14, f15, f16⟩ := hf
 have hol := encOpt_len ho
 have h0 : 5 ≤ s.length ∧ s.drop 5 = encInt u.channel ++ (encInt u.frame ++ (encInt u.version ++ (encInt u.item ++ (encInt u.index ++ (encInt (if u.key = true then 1 else 0) ++ (encStr u.data ++ (encInt u.regions ++ (encInt u.gain ++ (encStr u.caption ++ (encStr (encOpt u.os u.of u.al) ++ t)))))))))) := by
  subst hs
  refine ⟨by rw [List.length_append]; omega, ?_⟩
  rw [← hc, List.drop_left]
  simp [contentP, encInts]
 obtain ⟨k1, e1, h1⟩ := inum_at h0 (wf_le (by omega) (by omega)).1 (wf_le (by omega) (by omega)).2
 obtain ⟨k2, e2, h2⟩ := inum_at h1 (wf_le (by omega) (by omega)).1 (wf_le (by omega) (by omega)).2
 obtain ⟨k3, e3, h3⟩ := inum_at h2 (wf_le (by omega) (by omega)).1 (wf_le (by omega) (by omega)).2
 obtain ⟨k4, e4, h4⟩ := inum_at h3 (wf_le (by omega) (by omega)).1 (wf_le (by omega) (by omega)).2
 obtain ⟨k5, e5, h5⟩ := inum_at h4 (wf_le (by omega) (by omega)).1 (wf_le (by omega) (by omega)).2
 obtain ⟨k6, e6, h6⟩ := inum_at h5 (wf_le (by split <;> omega) (by split <;> omega)).1 (wf_le (by split <;> omega) (by split <;> omega)).2
 obtain ⟨k7, e7, h7⟩ := itxt_at h6 (by omega)
 obtain ⟨k8, e8, h8⟩ := inum_at h7 (wf_le (by omega) (by omega)).1 (wf_le (by omega) (by omega)).2
 obtain ⟨k9, e9, h9⟩ := inum_at h8 (wf_le (by omega) (by omega)).1 (wf_le (by omega) (by omega)).2
 obtain ⟨k10, e10, h10⟩ := itxt_at h9 (by omega)
 obtain ⟨k11, e11, h11⟩ := itxt_at h10 (by omega)
 exact ⟨k1, k2, k3, k4, k5, k6, k7, k8, k9, k10, k11, ⟨e1, e2, e3, e4, e5, e6, e7, e8, e9, e10, e11⟩, h1.1, h2.1, h3.1, h4.1, h5.1, h6.1, h7.1, h8.1, h9.1, h10.1, h11.1⟩
set_option maxRecDepth 100000 in
set_option maxHeartbeats 4000000 in
theorem runpack_none (rn rd : Int) (l : List UInt8) (w : World) (hl : l.length ≤ 1000000) (hU : unpackP rn rd l = none) :
  Calls Tryd.prog 23 #[.agg #[.int .i64 rn, .int .i64 rd], .string (bstr l)] w (RetUn (unpackP rn rd l) w) := by
 have HP := Hp.start w
 refine w_enter 125 [(0, (.agg #[(.int .i64 rn), (.int .i64 rd)])), (1, (.string (bstr l)))] Tryd.func23 rfl Tryd.ntmps23 (by kernel_rfl) (by kernel_rfl) fun a H => ?_
 refine wp_seq (w_region ?_)
 refine H.alloc HP 2 (fun b => (.pointer (some ⟨b, 0, none⟩))) 23 [(.int .i64 rn), (.int .i64 rd)] (by kernel_rfl) (fun w => by kernel_rfl) fun b_1 w_2 a H HP => ?_
 refine H.alloc HP 4 (fun b => (.pointer (some ⟨b, 0, none⟩))) 28 [(.int .i64 0), (.int .i64 0), (.int .i64 0), (.int .i64 0), (.int .i64 0), (.bool false), (.string (bstr ([]))), (.int .i64 0), (.int .i64 0), (.string (bstr ([]))), (.int .i64 0), (.int .i64 0), (.slice none 0 0)] (by kernel_rfl) (fun w => by kernel_rfl) fun b_3 w_4 a H HP => ?_
 refine H.v 5 (.int .i64 0) fun a H => ?_
 refine wpList_nil (then_normal (wp_seq (wp_seq (w_region ?_))))
 refine H.v 15 (.string (bstr l)) fun a H => ?_
 refine H.v 16 (.int .i64 ((l.length : Nat) : Int)) fun a H => ?_
 refine H.v 17 (.bool (((l.length : Nat) : Int) == 0)) fun a H => ?_
 refine H.v 18 (.bool (((l.length : Nat) : Int) == 0)) fun a H => ?_
 refine H.split 18 rfl (fun g18 H => ?_) (fun g18 H => ?_)
 ·have g18p := eq_of_beq g18
  refine H.s 19 fun a H => ?_
  refine H.s 20 fun a H => ?_
  refine H.s 21 fun a H => ?_
  refine H.s 22 fun a H => ?_
  refine H.v 23 (.bool true) fun a H => ?_
  refine H.v 24 (.bool true) fun a H => ?_
  refine H.s 25 fun a H => ?_
  refine H.s 26 fun a H => ?_
  refine H.s 27 fun a H => ?_
  refine H.v 28 (.bool true) fun a H => ?_
  refine wpList_nil ?_
  have H := H.keep (L' := [(28, (.bool true)), (5, (.int .i64 0)), (4, (.pointer (some ⟨b_3, 0, none⟩))), (2, (.pointer (some ⟨b_1, 0, none⟩))), (0, (.agg #[(.int .i64 rn), (.int .i64 rd)])), (1, (.string (bstr l)))]) (by kernel_rfl)
  refine then_normal ?_
  refine w_ift H rfl ?_
  refine wp_seq (w_region ?_)
  refine H.v 29 (.agg #[(.int .i64 0), (.int .i64 0), (.int .i64 0), (.int .i64 0), (.int .i64 0), (.bool false), (.string (bstr ([]))), (.int .i64 0), (.int .i64 0), (.string (bstr ([]))), (.int .i64 0), (.int .i64 0), (.slice none 0 0)]) fun a H => ?_
  refine H.store HP 0 b_3 0 13 28 _ true (.agg #[(.int .i64 0), (.int .i64 0), (.int .i64 0), (.int .i64 0), (.int .i64 0), (.bool false), (.string (bstr ([]))), (.int .i64 0), (.int .i64 0), (.string (bstr ([]))), (.int .i64 0), (.int .i64 0), (.slice none 0 0)]) [bx b_3 28 [(.int .i64 0), (.int .i64 0), (.int .i64 0), (.int .i64 0), (.int .i64 0), (.bool false), (.string (bstr ([]))), (.int .i64 0), (.int .i64 0), (.string (bstr ([]))), (.int .i64 0), (.int .i64 0), (.slice none 0 0)] true, bx b_1 23 [(.int .i64 rn), (.int .i64 rd)] true] (by kernel_rfl) (by kernel_rfl) (by kernel_rfl) rfl (by kernel_rfl) (by kernel_rfl) (by kernel_rfl) (by kernel_rfl) (by kernel_rfl) fun w_5 a H HP => ?_
  refine H.v 5 (.int .i64 180) fun a H => ?_
  refine wpList_nil (then_normal (wp_ret (then_ret ?_)))
  refine H.ret2 (fn := Tryd.f23) Tryd.results23 (RV.cellN (vs := [(.int .i64 0), (.int .i64 0), (.int .i64 0), (.int .i64 0), (.int .i64 0), (.bool false), (.string (bstr ([]))), (.int .i64 0), (.int .i64 0), (.string (bstr ([]))), (.int .i64 0), (.int .i64 0), (.slice none 0 0)]) (b := b_3) (off := 0) (k := 13) (by kernel_rfl) (by kernel_rfl) (by kernel_rfl) rfl (HP.cells 0 rfl 0 13 (by kernel_rfl))) (RV.tmp_ (v := (.int .i64 180)) (by kernel_rfl)) ?_
  exact retUn_none hU rfl (HP.below (by kernel_rfl))
 ·have g18p := ne_of_beq_false g18
  refine H.v 19 (.string (bstr l)) fun a H => ?_
  refine H.v 20 (.int .i64 ((l.length : Nat) : Int)) fun a H => ?_
  refine H.valE 21 (.int .i64 (((l.length : Nat) : Int).tmod 64)) (.int .i64 ((l.length % 64 : Nat) : Int)) (by kernel_rfl) (by kernel_rfl) ((by rw [tmod_nn _ _ (by omega)]; exact congrArg (Value.int .i64) (by omega))) fun a H => ?_
  refine H.v 22 (.bool (((l.length % 64 : Nat) : Int) != 0)) fun a H => ?_
  refine H.v 23 (.bool (((l.length % 64 : Nat) : Int) != 0)) fun a H => ?_
  refine H.v 24 (.bool (((l.length % 64 : Nat) : Int) != 0)) fun a H => ?_
  refine H.split 24 rfl (fun g24 H => ?_) (fun g24 H => ?_)
  ·have g24p := bne_iff_ne.1 g24
   refine H.s 25 fun a H => ?_
   refine H.s 26 fun a H => ?_
   refine H.s 27 fun a H => ?_
   refine H.v 28 (.bool true) fun a H => ?_
   refine wpList_nil ?_
   have H := H.keep (L' := [(28, (.bool true)), (5, (.int .i64 0)), (4, (.pointer (some ⟨b_3, 0, none⟩))), (2, (.pointer (some ⟨b_1, 0, none⟩))), (0, (.agg #[(.int .i64 rn), (.int .i64 rd)])), (1, (.string (bstr l)))]) (by kernel_rfl)
   refine then_normal ?_
   refine w_ift H rfl ?_
   refine wp_seq (w_region ?_)
   refine H.v 29 (.agg #[(.int .i64 0), (.int .i64 0), (.int .i64 0), (.int .i64 0), (.int .i64 0), (.bool false), (.string (bstr ([]))), (.int .i64 0), (.int .i64 0), (.string (bstr ([]))), (.int .i64 0), (.int .i64 0), (.slice none 0 0)]) fun a H => ?_
   refine H.store HP 0 b_3 0 13 28 _ true (.agg #[(.int .i64 0), (.int .i64 0), (.int .i64 0), (.int .i64 0), (.int .i64 0), (.bool false), (.string (bstr ([]))), (.int .i64 0), (.int .i64 0), (.string (bstr ([]))), (.int .i64 0), (.int .i64 0), (.slice none 0 0)]) [bx b_3 28 [(.int .i64 0), (.int .i64 0), (.int .i64 0), (.int .i64 0), (.int .i64 0), (.bool false), (.string (bstr ([]))), (.int .i64 0), (.int .i64 0), (.string (bstr ([]))), (.int .i64 0), (.int .i64 0), (.slice none 0 0)] true, bx b_1 23 [(.int .i64 rn), (.int .i64 rd)] true] (by kernel_rfl) (by kernel_rfl) (by kernel_rfl) rfl (by kernel_rfl) (by kernel_rfl) (by kernel_rfl) (by kernel_rfl) (by kernel_rfl) fun w_6 a H HP => ?_
   refine H.v 5 (.int .i64 180) fun a H => ?_
   refine wpList_nil (then_normal (wp_ret (then_ret ?_)))
   refine H.ret2 (fn := Tryd.f23) Tryd.results23 (RV.cellN (vs := [(.int .i64 0), (.int .i64 0), (.int .i64 0), (.int .i64 0), (.int .i64 0), (.bool false), (.string (bstr ([]))), (.int .i64 0), (.int .i64 0), (.string (bstr ([]))), (.int .i64 0), (.int .i64 0), (.slice none 0 0)]) (b := b_3) (off := 0) (k := 13) (by kernel_rfl) (by kernel_rfl) (by kernel_rfl) rfl (HP.cells 0 rfl 0 13 (by kernel_rfl))) (RV.tmp_ (v := (.int .i64 180)) (by kernel_rfl)) ?_
   exact retUn_none hU rfl (HP.below (by kernel_rfl))
  ·have g24p := eq_of_bne_false g24
   refine H.v 25 (.string (bstr l)) fun a H => ?_
   refine H.v 26 (.int .i64 ((l.length : Nat) : Int)) fun a H => ?_
   refine H.v 27 (.bool (decide (((l.length : Nat) : Int) > 1024))) fun a H => ?_
   refine H.v 28 (.bool (decide (((l.length : Nat) : Int) > 1024))) fun a H => ?_
   refine wpList_nil ?_
   have H := H.keep (L' := [(28, (.bool (decide (((l.length : Nat) : Int) > 1024)))), (5, (.int .i64 0)), (4, (.pointer (some ⟨b_3, 0, none⟩))), (2, (.pointer (some ⟨b_1, 0, none⟩))), (0, (.agg #[(.int .i64 rn), (.int .i64 rd)])), (1, (.string (bstr l)))]) (by kernel_rfl)
   refine then_normal ?_
   refine w_if H rfl (fun g28 => ?_) (fun g28 => ?_)
   ·have g28p := of_decide_eq_true g28
    refine wp_seq (w_region ?_)
    refine H.v 29 (.agg #[(.int .i64 0), (.int .i64 0), (.int .i64 0), (.int .i64 0), (.int .i64 0), (.bool false), (.string (bstr ([]))), (.int .i64 0), (.int .i64 0), (.string (bstr ([]))), (.int .i64 0), (.int .i64 0), (.slice none 0 0)]) fun a H => ?_
    refine H.store HP 0 b_3 0 13 28 _ true (.agg #[(.int .i64 0), (.int .i64 0), (.int .i64 0), (.int .i64 0), (.int .i64 0), (.bool false), (.string (bstr ([]))), (.int .i64 0), (.int .i64 0), (.string (bstr ([]))), (.int .i64 0), (.int .i64 0), (.slice none 0 0)]) [bx b_3 28 [(.int .i64 0), (.int .i64 0), (.int .i64 0), (.int .i64 0), (.int .i64 0), (.bool false), (.string (bstr ([]))), (.int .i64 0), (.int .i64 0), (.string (bstr ([]))), (.int .i64 0), (.int .i64 0), (.slice none 0 0)] true, bx b_1 23 [(.int .i64 rn), (.int .i64 rd)] true] (by kernel_rfl) (by kernel_rfl) (by kernel_rfl) rfl (by kernel_rfl) (by kernel_rfl) (by kernel_rfl) (by kernel_rfl) (by kernel_rfl) fun w_7 a H HP => ?_
    refine H.v 5 (.int .i64 180) fun a H => ?_
    refine wpList_nil (then_normal (wp_ret (then_ret ?_)))
    refine H.ret2 (fn := Tryd.f23) Tryd.results23 (RV.cellN (vs := [(.int .i64 0), (.int .i64 0), (.int .i64 0), (.int .i64 0), (.int .i64 0), (.bool false), (.string (bstr ([]))), (.int .i64 0), (.int .i64 0), (.string (bstr ([]))), (.int .i64 0), (.int .i64 0), (.slice none 0 0)]) (b := b_3) (off := 0) (k := 13) (by kernel_rfl) (by kernel_rfl) (by kernel_rfl) rfl (HP.cells 0 rfl 0 13 (by kernel_rfl))) (RV.tmp_ (v := (.int .i64 180)) (by kernel_rfl)) ?_
    exact retUn_none hU rfl (HP.below (by kernel_rfl))
   ·have g28p := of_decide_eq_false g28
    refine wp_skip (then_normal (wp_seq ?_))
    obtain ⟨N, hN⟩ : ∃ N, l.length / 64 = N := ⟨_, rfl⟩
    have hlN : l.length = 64 * N := by omega
    refine w_region ?_
    refine H.v 6 (.string (bstr ([]))) fun a H => ?_
    refine wpList_nil (then_normal (wp_seq (wp_seq (w_region ?_))))
    refine H.v 7 (.int .i64 0) fun a H => ?_
    refine wpList_nil (then_normal (wp_block ?_))
    refine w_loop (fun mm a wv => ∃ (j : Nat), N - j = mm ∧ Sl 125 [(7, (.int .i64 ((64 * j : Nat) : Int))), (6, (.string (bstr (payTo l j)))), (1, (.string (bstr l))), (2, (.pointer (some ⟨b_1, 0, none⟩))), (4, (.pointer (some ⟨b_3, 0, none⟩)))] a ∧ Hp w wv [bx b_3 28 [(.int .i64 0), (.int .i64 0), (.int .i64 0), (.int .i64 0), (.int .i64 0), (.bool false), (.string (bstr ([]))), (.int .i64 0), (.int .i64 0), (.string (bstr ([]))), (.int .i64 0), (.int .i64 0), (.slice none 0 0)] true, bx b_1 23 [(.int .i64 rn), (.int .i64 rd)] true] [] ∧ (j ≤ N) ∧ ((payTo l j).length ≤ 59 * j)) (N - 0) ?_ ?_
    ·exact ⟨0, (by omega), H.keep (by kernel_rfl), HP, by omega, (by simp [payTo])⟩
    rintro mm a w_8 ⟨j, hmeas, H, HP, hj, hpl⟩
    refine wp_seq (wp_seq (w_region ?_))
    refine H.v 30 (.int .i64 ((64 * j : Nat) : Int)) fun a H => ?_
    refine H.v 31 (.string (bstr l)) fun a H => ?_
    refine H.v 32 (.int .i64 ((l.length : Nat) : Int)) fun a H => ?_
    refine H.v 33 (.bool (decide (((64 * j : Nat) : Int) < ((l.length : Nat) : Int)))) fun a H => ?_
    refine wpList_nil (then_normal ?_)
    refine w_if H rfl (fun g33 => ?_) (fun g33 => ?_)
    ·have g33p := of_decide_eq_true g33
     refine wp_skip (then_normal (wp_seq (wp_block (wp_seq ?_))))
     have hjN : j < N := by omega
     obtain ⟨n, hn⟩ : ∃ n, (l.getD (64 * j + 4) 0).toNat = n := ⟨_, rfl⟩
     have hnb : n < 256 := by rw [← hn]; exact byte_lt _
     refine w_region ?_
     refine H.v 36 (.string (bstr l)) fun a H => ?_
     refine H.v 37 (.int .i64 ((64 * j : Nat) : Int)) fun a H => ?_
     refine H.valE 38 (.int .i64 (IntKind.i64.wrap (((64 * j : Nat) : Int) + 4))) (.int .i64 ((64 * j + 4 : Nat) : Int)) (by kernel_rfl) (by kernel_rfl) ((by rw [wrap_ini64 _ (by omega)]; first | done | exact congrArg (Value.int .i64) (by omega))) fun a H => ?_
     refine H.valE 39 (.int .u8 (((l.getD (64 * j + 4) 0).toNat : Nat) : Int)) (.int .u8 ((n : Nat) : Int)) (by kernel_rfl) (ex_sindex (k := .i64) (l := l) (i := ((64 * j + 4 : Nat) : Int)) (m := 64 * j + 4) (by kernel_rfl) (by kernel_rfl) (by kernel_rfl) (by omega) (by omega)) ((congrArg (Value.int .u8) (by rw [hn]))) fun a H => ?_
     refine H.valE 40 (.int .i64 (IntKind.i64.wrap ((n : Nat) : Int))) (.int .i64 ((n : Nat) : Int)) (by kernel_rfl) (by kernel_rfl) ((by rw [wrap_ini64 _ (by omega)])) fun a H => ?_
     refine H.v 8 (.int .i64 ((n : Nat) : Int)) fun a H => ?_
     refine wpList_nil (then_normal (wp_seq (wp_seq (w_region ?_))))
     refine H.v 41 (.int .i64 ((n : Nat) : Int)) fun a H => ?_
     refine H.v 42 (.bool (decide (((n : Nat) : Int) > 59))) fun a H => ?_
     refine wpList_nil (then_normal ?_)
     refine w_if H rfl (fun g42 => ?_) (fun g42 => ?_)
     ·have g42p := of_decide_eq_true g42
      refine wp_seq (w_region ?_)
      refine H.v 43 (.agg #[(.int .i64 0), (.int .i64 0), (.int .i64 0), (.int .i64 0), (.int .i64 0), (.bool false), (.string (bstr ([]))), (.int .i64 0), (.int .i64 0), (.string (bstr ([]))), (.int .i64 0), (.int .i64 0), (.slice none 0 0)]) fun a H => ?_
      refine H.store HP 0 b_3 0 13 28 _ true (.agg #[(.int .i64 0), (.int .i64 0), (.int .i64 0), (.int .i64 0), (.int .i64 0), (.bool false), (.string (bstr ([]))), (.int .i64 0), (.int .i64 0), (.string (bstr ([]))), (.int .i64 0), (.int .i64 0), (.slice none 0 0)]) [bx b_3 28 [(.int .i64 0), (.int .i64 0), (.int .i64 0), (.int .i64 0), (.int .i64 0), (.bool false), (.string (bstr ([]))), (.int .i64 0), (.int .i64 0), (.string (bstr ([]))), (.int .i64 0), (.int .i64 0), (.slice none 0 0)] true, bx b_1 23 [(.int .i64 rn), (.int .i64 rd)] true] (by kernel_rfl) (by kernel_rfl) (by kernel_rfl) rfl (by kernel_rfl) (by kernel_rfl) (by kernel_rfl) (by kernel_rfl) (by kernel_rfl) fun w_9 a H HP => ?_
      refine H.v 5 (.int .i64 180) fun a H => ?_
      refine wpList_nil (then_normal (wp_ret (then_ret (inb_ret (then_ret (then_ret (inb_ret (then_ret ?_))))))))
      refine H.ret2 (fn := Tryd.f23) Tryd.results23 (RV.cellN (vs := [(.int .i64 0), (.int .i64 0), (.int .i64 0), (.int .i64 0), (.int .i64 0), (.bool false), (.string (bstr ([]))), (.int .i64 0), (.int .i64 0), (.string (bstr ([]))), (.int .i64 0), (.int .i64 0), (.slice none 0 0)]) (b := b_3) (off := 0) (k := 13) (by kernel_rfl) (by kernel_rfl) (by kernel_rfl) rfl (HP.cells 0 rfl 0 13 (by kernel_rfl))) (RV.tmp_ (v := (.int .i64 180)) (by kernel_rfl)) ?_
      exact retUn_none hU rfl (HP.below (by kernel_rfl))
     ·have g42p := of_decide_eq_false g42
      refine wp_skip (then_normal ?_)
      have hpay : payAt l j = (l.drop (64 * j + 5)).take (64 * j + 5 + n - (64 * j + 5)) := by unfold payAt payN; rw [hn]; congr 1; omega
      refine w_region ?_
      refine H.v 44 (.string (bstr (payTo l j))) fun a H => ?_
      refine H.v 45 (.string (bstr l)) fun a H => ?_
      refine H.v 46 (.int .i64 ((64 * j : Nat) : Int)) fun a H => ?_
      refine H.valE 47 (.int .i64 (IntKind.i64.wrap (((64 * j : Nat) : Int) + 5))) (.int .i64 ((64 * j + 5 : Nat) : Int)) (by kernel_rfl) (by kernel_rfl) ((by rw [wrap_ini64 _ (by omega)]; first | done | exact congrArg (Value.int .i64) (by omega))) fun a H => ?_
      refine H.v 48 (.int .i64 ((64 * j : Nat) : Int)) fun a H => ?_
      refine H.valE 49 (.int .i64 (IntKind.i64.wrap (((64 * j : Nat) : Int) + 5))) (.int .i64 ((64 * j + 5 : Nat) : Int)) (by kernel_rfl) (by kernel_rfl) ((by rw [wrap_ini64 _ (by omega)]; first | done | exact congrArg (Value.int .i64) (by omega))) fun a H => ?_
      refine H.v 50 (.int .i64 ((n : Nat) : Int)) fun a H => ?_
      refine H.valE 51 (.int .i64 (IntKind.i64.wrap (((64 * j + 5 : Nat) : Int) + ((n : Nat) : Int)))) (.int .i64 ((64 * j + 5 + n : Nat) : Int)) (by kernel_rfl) (by kernel_rfl) ((by rw [wrap_ini64 _ (by omega)]; first | done | exact congrArg (Value.int .i64) (by omega))) fun a H => ?_
      refine H.u 52 (.string (bstr ((l.drop (64 * j + 5)).take ((64 * j + 5 + n) - (64 * j + 5))))) (ex_sslice (k := .i64) (kk := .i64) (l := l) (i := ((64 * j + 5 : Nat) : Int)) (j := ((64 * j + 5 + n : Nat) : Int)) (a := (64 * j + 5)) (b := (64 * j + 5 + n)) (by kernel_rfl) (by kernel_rfl) (by kernel_rfl) (by kernel_rfl) (by omega) (by omega) (by omega) (by omega)) fun a H => ?_
      refine H.u 53 (.string (bstr ((payTo l j) ++ ((l.drop (64 * j + 5)).take ((64 * j + 5 + n) - (64 * j + 5)))))) (ex_sadd (by kernel_rfl) (by kernel_rfl) (by first | omega | (have hpt := hpl; rw [hpay] at *; simp only [List.length_take, List.length_drop]; omega))) fun a H => ?_
      refine H.v 6 (.string (bstr ((payTo l j) ++ ((l.drop (64 * j + 5)).take ((64 * j + 5 + n) - (64 * j + 5)))))) fun a H => ?_
      refine wpList_nil (inb_normal (then_normal (w_region ?_)))
      refine H.v 34 (.int .i64 ((64 * j : Nat) : Int)) fun a H => ?_
      refine H.valE 35 (.int .i64 (IntKind.i64.wrap (((64 * j : Nat) : Int) + 64))) (.int .i64 ((64 * j + 64 : Nat) : Int)) (by kernel_rfl) (by kernel_rfl) ((by rw [wrap_ini64 _ (by omega)]; first | done | exact congrArg (Value.int .i64) (by omega))) fun a H => ?_
      refine H.v 7 (.int .i64 ((64 * j + 64 : Nat) : Int)) fun a H => ?_
      refine wpList_nil (then_normal ?_)
      have H := H.as 7 (.int .i64 ((64 * (j + 1) : Nat) : Int)) rfl (congrArg (Value.int .i64) (by omega))
      have H := H.as 6 (.string (bstr (payTo l (j + 1)))) rfl (congrArg (fun x => Value.string (bstr x)) (by rw [payTo_succ, hpay]))
      refine ⟨_, ?_, j + 1, rfl, H.keep (by kernel_rfl), HP, by omega, (by rw [payTo_succ, hpay, List.length_append, List.length_take, List.length_drop]; omega)⟩
      omega
    ·have g33p := of_decide_eq_false g33
     refine wp_exit (then_exit (then_exit ?_))
     refine w_exit_here ?_
     refine then_normal (wp_seq (wp_seq ?_))
     have hjN : j = N := by omega
     obtain ⟨s, hps⟩ : ∃ s, payTo l j = s := ⟨_, rfl⟩
     have hsl : s.length ≤ 1000000 := by rw [← hps]; omega
     have H := H.as 6 (.string (bstr s)) rfl (by rw [hps])
     have H := H.keep (L' := [(6, (.string (bstr s))), (1, (.string (bstr l))), (2, (.pointer (some ⟨b_1, 0, none⟩))), (4, (.pointer (some ⟨b_3, 0, none⟩)))]) (by kernel_rfl)
     refine w_region ?_
     refine H.v 54 (.string (bstr s)) fun a H => ?_
     refine H.v 55 (.int .i64 ((s.length : Nat) : Int)) fun a H => ?_
     refine H.v 56 (.bool (decide (((s.length : Nat) : Int) < 5))) fun a H => ?_
     refine wpList_nil (then_normal ?_)
     refine w_if H rfl (fun g56 => ?_) (fun g56 => ?_)
     ·have g56p := of_decide_eq_true g56
      refine wp_seq (w_region ?_)
      refine H.v 57 (.agg #[(.int .i64 0), (.int .i64 0), (.int .i64 0), (.int .i64 0), (.int .i64 0), (.bool false), (.string (bstr ([]))), (.int .i64 0), (.int .i64 0), (.string (bstr ([]))), (.int .i64 0), (.int .i64 0), (.slice none 0 0)]) fun a H => ?_
      refine H.store HP 0 b_3 0 13 28 _ true (.agg #[(.int .i64 0), (.int .i64 0), (.int .i64 0), (.int .i64 0), (.int .i64 0), (.bool false), (.string (bstr ([]))), (.int .i64 0), (.int .i64 0), (.string (bstr ([]))), (.int .i64 0), (.int .i64 0), (.slice none 0 0)]) [bx b_3 28 [(.int .i64 0), (.int .i64 0), (.int .i64 0), (.int .i64 0), (.int .i64 0), (.bool false), (.string (bstr ([]))), (.int .i64 0), (.int .i64 0), (.string (bstr ([]))), (.int .i64 0), (.int .i64 0), (.slice none 0 0)] true, bx b_1 23 [(.int .i64 rn), (.int .i64 rd)] true] (by kernel_rfl) (by kernel_rfl) (by kernel_rfl) rfl (by kernel_rfl) (by kernel_rfl) (by kernel_rfl) (by kernel_rfl) (by kernel_rfl) fun w_10 a H HP => ?_
      refine H.v 5 (.int .i64 180) fun a H => ?_
      refine wpList_nil (then_normal (wp_ret (then_ret ?_)))
      refine H.ret2 (fn := Tryd.f23) Tryd.results23 (RV.cellN (vs := [(.int .i64 0), (.int .i64 0), (.int .i64 0), (.int .i64 0), (.int .i64 0), (.bool false), (.string (bstr ([]))), (.int .i64 0), (.int .i64 0), (.string (bstr ([]))), (.int .i64 0), (.int .i64 0), (.slice none 0 0)]) (b := b_3) (off := 0) (k := 13) (by kernel_rfl) (by kernel_rfl) (by kernel_rfl) rfl (HP.cells 0 rfl 0 13 (by kernel_rfl))) (RV.tmp_ (v := (.int .i64 180)) (by kernel_rfl)) ?_
      exact retUn_none hU rfl (HP.below (by kernel_rfl))
     ·have g56p := of_decide_eq_false g56
      refine wp_skip (then_normal (wp_seq (w_region ?_)))
      refine H.v 58 (.string (bstr s)) fun a H => ?_
      refine H.v 59 (.agg #[(.string (bstr s)), (.int .i64 5), (.bool false)]) fun a H => ?_
      refine H.alloc HP 60 (fun b => (.pointer (some ⟨b, 0, none⟩))) 82 [(.string (bstr s)), (.int .i64 5), (.bool false)] (by kernel_rfl) (fun w => by kernel_rfl) fun b_11 w_12 a H HP => ?_
      refine H.v 9 (.pointer (some ⟨b_11, 0, none⟩)) fun a H => ?_
      refine wpList_nil ?_
      obtain ⟨q0, hq0⟩ : ∃ q : Nat × Bool, q = (5, false) := ⟨_, rfl⟩
      have hk0 : q0.1 ≤ s.length := by rw [hq0]; simp only; omega
      obtain ⟨n1, q1, h1⟩ : ∃ n q, inum s q0 = (n, q) := ⟨_, _, rfl⟩
      have hk1 : q1.1 ≤ s.length := by have := inum_le hk0; rw [h1] at this; exact this
      obtain ⟨n2, q2, h2⟩ : ∃ n q, inum s q1 = (n, q) := ⟨_, _, rfl⟩
      have hk2 : q2.1 ≤ s.length := by have := inum_le hk1; rw [h2] at this; exact this
      obtain ⟨n3, q3, h3⟩ : ∃ n q, inum s q2 = (n, q) := ⟨_, _, rfl⟩
      have hk3 : q3.1 ≤ s.length := by have := inum_le hk2; rw [h3] at this; exact this
      obtain ⟨n4, q4, h4⟩ : ∃ n q, inum s q3 = (n, q) := ⟨_, _, rfl⟩
      have hk4 : q4.1 ≤ s.length := by have := inum_le hk3; rw [h4] at this; exact this
      obtain ⟨n5, q5, h5⟩ : ∃ n q, inum s q4 = (n, q) := ⟨_, _, rfl⟩
      have hk5 : q5.1 ≤ s.length := by have := inum_le hk4; rw [h5] at this; exact this
      obtain ⟨n6, q6, h6⟩ : ∃ n q, inum s q5 = (n, q) := ⟨_, _, rfl⟩
      have hk6 : q6.1 ≤ s.length := by have := inum_le hk5; rw [h6] at this; exact this
      obtain ⟨n7, q7, h7⟩ : ∃ n q, itxt s q6 = (n, q) := ⟨_, _, rfl⟩
      have hk7 : q7.1 ≤ s.length := by have := itxt_le hk6; rw [h7] at this; exact this
      obtain ⟨n8, q8, h8⟩ : ∃ n q, inum s q7 = (n, q) := ⟨_, _, rfl⟩
      have hk8 : q8.1 ≤ s.length := by have := inum_le hk7; rw [h8] at this; exact this
      obtain ⟨n9, q9, h9⟩ : ∃ n q, inum s q8 = (n, q) := ⟨_, _, rfl⟩
      have hk9 : q9.1 ≤ s.length := by have := inum_le hk8; rw [h9] at this; exact this
      obtain ⟨n10, q10, h10⟩ : ∃ n q, itxt s q9 = (n, q) := ⟨_, _, rfl⟩
      have hk10 : q10.1 ≤ s.length := by have := itxt_le hk9; rw [h10] at this; exact this
      obtain ⟨n11, q11, h11⟩ : ∃ n q, itxt s q10 = (n, q) := ⟨_, _, rfl⟩
      have hk11 : q11.1 ≤ s.length := by have := itxt_le hk10; rw [h11] at this; exact this
      have hn11 : n11.length ≤ s.length := by have := itxt_len (s := s) (q := q10); rw [h11] at this; exact this
      obtain ⟨o, code, ho⟩ : ∃ o c, decP n11 = (o, c) := ⟨_, _, rfl⟩
      obtain ⟨Z, hZ0⟩ : ∃ Z, packP rn rd (⟨n1, n2, n3, n4, n5, n6 == 1, n7, n8, n9, n10, o.s, o.f, none, 0, o.al⟩ : Un) = Z := ⟨_, rfl⟩
      have hZ : ∀ B c, packP rn rd (⟨n1, n2, n3, n4, n5, n6 == 1, n7, n8, n9, n10, o.s, o.f, B, c, o.al⟩ : Un) = Z := fun B c => hZ0
      have HP : Hp w w_12 [bx b_11 82 (rdCells s q0) true, bx b_3 28 [(.int .i64 0), (.int .i64 0), (.int .i64 0), (.int .i64 0), (.int .i64 0), (.bool false), (.string (bstr ([]))), (.int .i64 0), (.int .i64 0), (.string (bstr ([]))), (.int .i64 0), (.int .i64 0), (.slice none 0 0)] true, bx b_1 23 [(.int .i64 rn), (.int .i64 rd)] true] [] := by rw [hq0]; exact HP
      refine then_normal (wp_seq (w_region ?_))
      refine H.v 61 (.agg #[(.int .i64 0), (.int .i64 0), (.int .i64 0), (.int .i64 0), (.int .i64 0), (.bool false), (.string (bstr ([]))), (.int .i64 0), (.int .i64 0), (.string (bstr ([]))), (.int .i64 0), (.int .i64 0), (.slice none 0 0)]) fun a H => ?_
      refine H.alloc HP 10 (fun b => (.pointer (some ⟨b, 0, none⟩))) 28 [(.int .i64 0), (.int .i64 0), (.int .i64 0), (.int .i64 0), (.int .i64 0), (.bool false), (.string (bstr ([]))), (.int .i64 0), (.int .i64 0), (.string (bstr ([]))), (.int .i64 0), (.int .i64 0), (.slice none 0 0)] (by kernel_rfl) (fun w => by kernel_rfl) fun b_13 w_14 a H HP => ?_
      refine H.store HP 0 b_13 0 13 28 _ true (.agg #[(.int .i64 0), (.int .i64 0), (.int .i64 0), (.int .i64 0), (.int .i64 0), (.bool false), (.string (bstr ([]))), (.int .i64 0), (.int .i64 0), (.string (bstr ([]))), (.int .i64 0), (.int .i64 0), (.slice none 0 0)]) [bx b_13 28 [(.int .i64 0), (.int .i64 0), (.int .i64 0), (.int .i64 0), (.int .i64 0), (.bool false), (.string (bstr ([]))), (.int .i64 0), (.int .i64 0), (.string (bstr ([]))), (.int .i64 0), (.int .i64 0), (.slice none 0 0)] true, bx b_11 82 (rdCells s q0) true, bx b_3 28 [(.int .i64 0), (.int .i64 0), (.int .i64 0), (.int .i64 0), (.int .i64 0), (.bool false), (.string (bstr ([]))), (.int .i64 0), (.int .i64 0), (.string (bstr ([]))), (.int .i64 0), (.int .i64 0), (.slice none 0 0)] true, bx b_1 23 [(.int .i64 rn), (.int .i64 rd)] true] (by kernel_rfl) (by kernel_rfl) (by kernel_rfl) rfl (by kernel_rfl) (by kernel_rfl) (by kernel_rfl) (by kernel_rfl) (by kernel_rfl) fun w_15 a H HP => ?_
      refine wpList_nil (then_normal (wp_seq (w_region ?_)))
      refine H.v 62 (.pointer (some ⟨b_11, 0, none⟩)) fun a H => ?_
      refine H.call 63 (by kernel_rfl) (Eq.trans (by kernel_rfl : _ = (callFunc 44 #[(.pointer (some ⟨b_11, 0, none⟩))]).run Tryd.prog w_15) (Tryd.call44 _ _)) ((by have hh := inum_any b_11 s q0 w_15 (HP.at_ 1 rfl) hsl hk0; simp only [h1] at hh; exact hh)) ?_
      rintro e w_16 ⟨rfl, hbx, hgr⟩
      refine ⟨_, rfl, ?_⟩
      intro a H
      have HP := HP.changed 1 rfl (rdCells s q1) [bx b_13 28 [(.int .i64 0), (.int .i64 0), (.int .i64 0), (.int .i64 0), (.int .i64 0), (.bool false), (.string (bstr ([]))), (.int .i64 0), (.int .i64 0), (.string (bstr ([]))), (.int .i64 0), (.int .i64 0), (.slice none 0 0)] true, bx b_11 82 (rdCells s q1) true, bx b_3 28 [(.int .i64 0), (.int .i64 0), (.int .i64 0), (.int .i64 0), (.int .i64 0), (.bool false), (.string (bstr ([]))), (.int .i64 0), (.int .i64 0), (.string (bstr ([]))), (.int .i64 0), (.int .i64 0), (.slice none 0 0)] true, bx b_1 23 [(.int .i64 rn), (.int .i64 rd)] true] (by kernel_rfl) hgr hbx
      refine H.v 64 (.pointer (some ⟨b_13, 0, none⟩)) fun a H => ?_
      refine H.store HP 0 b_13 0 1 28 _ true (.int .i64 n1) [bx b_13 28 [(.int .i64 n1), (.int .i64 0), (.int .i64 0), (.int .i64 0), (.int .i64 0), (.bool false), (.string (bstr ([]))), (.int .i64 0), (.int .i64 0), (.string (bstr ([]))), (.int .i64 0), (.int .i64 0), (.slice none 0 0)] true, bx b_11 82 (rdCells s q1) true, bx b_3 28 [(.int .i64 0), (.int .i64 0), (.int .i64 0), (.int .i64 0), (.int .i64 0), (.bool false), (.string (bstr ([]))), (.int .i64 0), (.int .i64 0), (.string (bstr ([]))), (.int .i64 0), (.int .i64 0), (.slice none 0 0)] true, bx b_1 23 [(.int .i64 rn), (.int .i64 rd)] true] (by kernel_rfl) (by kernel_rfl) (by kernel_rfl) rfl (by kernel_rfl) (by kernel_rfl) (by kernel_rfl) (by kernel_rfl) (by kernel_rfl) fun w_17 a H HP => ?_
      refine wpList_nil (then_normal (wp_seq (w_region ?_)))
      refine H.v 65 (.pointer (some ⟨b_11, 0, none⟩)) fun a H => ?_
      refine H.call 66 (by kernel_rfl) (Eq.trans (by kernel_rfl : _ = (callFunc 44 #[(.pointer (some ⟨b_11, 0, none⟩))]).run Tryd.prog w_17) (Tryd.call44 _ _)) ((by have hh := inum_any b_11 s q1 w_17 (HP.at_ 1 rfl) hsl hk1; simp only [h2] at hh; exact hh)) ?_
      rintro e w_18 ⟨rfl, hbx, hgr⟩
      refine ⟨_, rfl, ?_⟩
      intro a H
      have HP := HP.changed 1 rfl (rdCells s q2) [bx b_13 28 [(.int .i64 n1), (.int .i64 0), (.int .i64 0), (.int .i64 0), (.int .i64 0), (.bool false), (.string (bstr ([]))), (.int .i64 0), (.int .i64 0), (.string (bstr ([]))), (.int .i64 0), (.int .i64 0), (.slice none 0 0)] true, bx b_11 82 (rdCells s q2) true, bx b_3 28 [(.int .i64 0), (.int .i64 0), (.int .i64 0), (.int .i64 0), (.int .i64 0), (.bool false), (.string (bstr ([]))), (.int .i64 0), (.int .i64 0), (.string (bstr ([]))), (.int .i64 0), (.int .i64 0), (.slice none 0 0)] true, bx b_1 23 [(.int .i64 rn), (.int .i64 rd)] true] (by kernel_rfl) hgr hbx
      refine H.v 67 (.pointer (some ⟨b_13, 1, none⟩)) fun a H => ?_
      refine H.store HP 0 b_13 1 1 28 _ true (.int .i64 n2) [bx b_13 28 [(.int .i64 n1), (.int .i64 n2), (.int .i64 0), (.int .i64 0), (.int .i64 0), (.bool false), (.string (bstr ([]))), (.int .i64 0), (.int .i64 0), (.string (bstr ([]))), (.int .i64 0), (.int .i64 0), (.slice none 0 0)] true, bx b_11 82 (rdCells s q2) true, bx b_3 28 [(.int .i64 0), (.int .i64 0), (.int .i64 0), (.int .i64 0), (.int .i64 0), (.bool false), (.string (bstr ([]))), (.int .i64 0), (.int .i64 0), (.string (bstr ([]))), (.int .i64 0), (.int .i64 0), (.slice none 0 0)] true, bx b_1 23 [(.int .i64 rn), (.int .i64 rd)] true] (by kernel_rfl) (by kernel_rfl) (by kernel_rfl) rfl (by kernel_rfl) (by kernel_rfl) (by kernel_rfl) (by kernel_rfl) (by kernel_rfl) fun w_19 a H HP => ?_
      refine wpList_nil (then_normal (wp_seq (w_region ?_)))
      refine H.v 68 (.pointer (some ⟨b_11, 0, none⟩)) fun a H => ?_
      refine H.call 69 (by kernel_rfl) (Eq.trans (by kernel_rfl : _ = (callFunc 44 #[(.pointer (some ⟨b_11, 0, none⟩))]).run Tryd.prog w_19) (Tryd.call44 _ _)) ((by have hh := inum_any b_11 s q2 w_19 (HP.at_ 1 rfl) hsl hk2; simp only [h3] at hh; exact hh)) ?_
      rintro e w_20 ⟨rfl, hbx, hgr⟩
      refine ⟨_, rfl, ?_⟩
      intro a H
      have HP := HP.changed 1 rfl (rdCells s q3) [bx b_13 28 [(.int .i64 n1), (.int .i64 n2), (.int .i64 0), (.int .i64 0), (.int .i64 0), (.bool false), (.string (bstr ([]))), (.int .i64 0), (.int .i64 0), (.string (bstr ([]))), (.int .i64 0), (.int .i64 0), (.slice none 0 0)] true, bx b_11 82 (rdCells s q3) true, bx b_3 28 [(.int .i64 0), (.int .i64 0), (.int .i64 0), (.int .i64 0), (.int .i64 0), (.bool false), (.string (bstr ([]))), (.int .i64 0), (.int .i64 0), (.string (bstr ([]))), (.int .i64 0), (.int .i64 0), (.slice none 0 0)] true, bx b_1 23 [(.int .i64 rn), (.int .i64 rd)] true] (by kernel_rfl) hgr hbx
      refine H.v 70 (.pointer (some ⟨b_13, 2, none⟩)) fun a H => ?_
      refine H.store HP 0 b_13 2 1 28 _ true (.int .i64 n3) [bx b_13 28 [(.int .i64 n1), (.int .i64 n2), (.int .i64 n3), (.int .i64 0), (.int .i64 0), (.bool false), (.string (bstr ([]))), (.int .i64 0), (.int .i64 0), (.string (bstr ([]))), (.int .i64 0), (.int .i64 0), (.slice none 0 0)] true, bx b_11 82 (rdCells s q3) true, bx b_3 28 [(.int .i64 0), (.int .i64 0), (.int .i64 0), (.int .i64 0), (.int .i64 0), (.bool false), (.string (bstr ([]))), (.int .i64 0), (.int .i64 0), (.string (bstr ([]))), (.int .i64 0), (.int .i64 0), (.slice none 0 0)] true, bx b_1 23 [(.int .i64 rn), (.int .i64 rd)] true] (by kernel_rfl) (by kernel_rfl) (by kernel_rfl) rfl (by kernel_rfl) (by kernel_rfl) (by kernel_rfl) (by kernel_rfl) (by kernel_rfl) fun w_21 a H HP => ?_
      refine wpList_nil (then_normal (wp_seq (w_region ?_)))
      refine H.v 71 (.pointer (some ⟨b_11, 0, none⟩)) fun a H => ?_
      refine H.call 72 (by kernel_rfl) (Eq.trans (by kernel_rfl : _ = (callFunc 44 #[(.pointer (some ⟨b_11, 0, none⟩))]).run Tryd.prog w_21) (Tryd.call44 _ _)) ((by have hh := inum_any b_11 s q3 w_21 (HP.at_ 1 rfl) hsl hk3; simp only [h4] at hh; exact hh)) ?_
      rintro e w_22 ⟨rfl, hbx, hgr⟩
      refine ⟨_, rfl, ?_⟩
      intro a H
      have HP := HP.changed 1 rfl (rdCells s q4) [bx b_13 28 [(.int .i64 n1), (.int .i64 n2), (.int .i64 n3), (.int .i64 0), (.int .i64 0), (.bool false), (.string (bstr ([]))), (.int .i64 0), (.int .i64 0), (.string (bstr ([]))), (.int .i64 0), (.int .i64 0), (.slice none 0 0)] true, bx b_11 82 (rdCells s q4) true, bx b_3 28 [(.int .i64 0), (.int .i64 0), (.int .i64 0), (.int .i64 0), (.int .i64 0), (.bool false), (.string (bstr ([]))), (.int .i64 0), (.int .i64 0), (.string (bstr ([]))), (.int .i64 0), (.int .i64 0), (.slice none 0 0)] true, bx b_1 23 [(.int .i64 rn), (.int .i64 rd)] true] (by kernel_rfl) hgr hbx
      refine H.v 73 (.pointer (some ⟨b_13, 3, none⟩)) fun a H => ?_
      refine H.store HP 0 b_13 3 1 28 _ true (.int .i64 n4) [bx b_13 28 [(.int .i64 n1), (.int .i64 n2), (.int .i64 n3), (.int .i64 n4), (.int .i64 0), (.bool false), (.string (bstr ([]))), (.int .i64 0), (.int .i64 0), (.string (bstr ([]))), (.int .i64 0), (.int .i64 0), (.slice none 0 0)] true, bx b_11 82 (rdCells s q4) true, bx b_3 28 [(.int .i64 0), (.int .i64 0), (.int .i64 0), (.int .i64 0), (.int .i64 0), (.bool false), (.string (bstr ([]))), (.int .i64 0), (.int .i64 0), (.string (bstr ([]))), (.int .i64 0), (.int .i64 0), (.slice none 0 0)] true, bx b_1 23 [(.int .i64 rn), (.int .i64 rd)] true] (by kernel_rfl) (by kernel_rfl) (by kernel_rfl) rfl (by kernel_rfl) (by kernel_rfl) (by kernel_rfl) (by kernel_rfl) (by kernel_rfl) fun w_23 a H HP => ?_
      refine wpList_nil (then_normal (wp_seq (w_region ?_)))
      refine H.v 74 (.pointer (some ⟨b_11, 0, none⟩)) fun a H => ?_
      refine H.call 75 (by kernel_rfl) (Eq.trans (by kernel_rfl : _ = (callFunc 44 #[(.pointer (some ⟨b_11, 0, none⟩))]).run Tryd.prog w_23) (Tryd.call44 _ _)) ((by have hh := inum_any b_11 s q4 w_23 (HP.at_ 1 rfl) hsl hk4; simp only [h5] at hh; exact hh)) ?_
      rintro e w_24 ⟨rfl, hbx, hgr⟩
      refine ⟨_, rfl, ?_⟩
      intro a H
      have HP := HP.changed 1 rfl (rdCells s q5) [bx b_13 28 [(.int .i64 n1), (.int .i64 n2), (.int .i64 n3), (.int .i64 n4), (.int .i64 0), (.bool false), (.string (bstr ([]))), (.int .i64 0), (.int .i64 0), (.string (bstr ([]))), (.int .i64 0), (.int .i64 0), (.slice none 0 0)] true, bx b_11 82 (rdCells s q5) true, bx b_3 28 [(.int .i64 0), (.int .i64 0), (.int .i64 0), (.int .i64 0), (.int .i64 0), (.bool false), (.string (bstr ([]))), (.int .i64 0), (.int .i64 0), (.string (bstr ([]))), (.int .i64 0), (.int .i64 0), (.slice none 0 0)] true, bx b_1 23 [(.int .i64 rn), (.int .i64 rd)] true] (by kernel_rfl) hgr hbx
      refine H.v 76 (.pointer (some ⟨b_13, 4, none⟩)) fun a H => ?_
      refine H.store HP 0 b_13 4 1 28 _ true (.int .i64 n5) [bx b_13 28 [(.int .i64 n1), (.int .i64 n2), (.int .i64 n3), (.int .i64 n4), (.int .i64 n5), (.bool false), (.string (bstr ([]))), (.int .i64 0), (.int .i64 0), (.string (bstr ([]))), (.int .i64 0), (.int .i64 0), (.slice none 0 0)] true, bx b_11 82 (rdCells s q5) true, bx b_3 28 [(.int .i64 0), (.int .i64 0), (.int .i64 0), (.int .i64 0), (.int .i64 0), (.bool false), (.string (bstr ([]))), (.int .i64 0), (.int .i64 0), (.string (bstr ([]))), (.int .i64 0), (.int .i64 0), (.slice none 0 0)] true, bx b_1 23 [(.int .i64 rn), (.int .i64 rd)] true] (by kernel_rfl) (by kernel_rfl) (by kernel_rfl) rfl (by kernel_rfl) (by kernel_rfl) (by kernel_rfl) (by kernel_rfl) (by kernel_rfl) fun w_25 a H HP => ?_
      refine wpList_nil (then_normal (wp_seq (w_region ?_)))
      refine H.v 77 (.pointer (some ⟨b_11, 0, none⟩)) fun a H => ?_
      refine H.call 78 (by kernel_rfl) (Eq.trans (by kernel_rfl : _ = (callFunc 44 #[(.pointer (some ⟨b_11, 0, none⟩))]).run Tryd.prog w_25) (Tryd.call44 _ _)) ((by have hh := inum_any b_11 s q5 w_25 (HP.at_ 1 rfl) hsl hk5; simp only [h6] at hh; exact hh)) ?_
      rintro e w_26 ⟨rfl, hbx, hgr⟩
      refine ⟨_, rfl, ?_⟩
      intro a H
      have HP := HP.changed 1 rfl (rdCells s q6) [bx b_13 28 [(.int .i64 n1), (.int .i64 n2), (.int .i64 n3), (.int .i64 n4), (.int .i64 n5), (.bool false), (.string (bstr ([]))), (.int .i64 0), (.int .i64 0), (.string (bstr ([]))), (.int .i64 0), (.int .i64 0), (.slice none 0 0)] true, bx b_11 82 (rdCells s q6) true, bx b_3 28 [(.int .i64 0), (.int .i64 0), (.int .i64 0), (.int .i64 0), (.int .i64 0), (.bool false), (.string (bstr ([]))), (.int .i64 0), (.int .i64 0), (.string (bstr ([]))), (.int .i64 0), (.int .i64 0), (.slice none 0 0)] true, bx b_1 23 [(.int .i64 rn), (.int .i64 rd)] true] (by kernel_rfl) hgr hbx
      refine H.v 79 (.bool (n6 == 1)) fun a H => ?_
      refine H.v 80 (.pointer (some ⟨b_13, 5, none⟩)) fun a H => ?_
      refine H.store HP 0 b_13 5 1 28 _ true (.bool (n6 == 1)) [bx b_13 28 [(.int .i64 n1), (.int .i64 n2), (.int .i64 n3), (.int .i64 n4), (.int .i64 n5), (.bool (n6 == 1)), (.string (bstr ([]))), (.int .i64 0), (.int .i64 0), (.string (bstr ([]))), (.int .i64 0), (.int .i64 0), (.slice none 0 0)] true, bx b_11 82 (rdCells s q6) true, bx b_3 28 [(.int .i64 0), (.int .i64 0), (.int .i64 0), (.int .i64 0), (.int .i64 0), (.bool false), (.string (bstr ([]))), (.int .i64 0), (.int .i64 0), (.string (bstr ([]))), (.int .i64 0), (.int .i64 0), (.slice none 0 0)] true, bx b_1 23 [(.int .i64 rn), (.int .i64 rd)] true] (by kernel_rfl) (by kernel_rfl) (by kernel_rfl) rfl (by kernel_rfl) (by kernel_rfl) (by kernel_rfl) (by kernel_rfl) (by kernel_rfl) fun w_27 a H HP => ?_
      refine wpList_nil (then_normal (wp_seq (w_region ?_)))
      refine H.v 81 (.pointer (some ⟨b_11, 0, none⟩)) fun a H => ?_
      refine H.call 82 (by kernel_rfl) (Eq.trans (by kernel_rfl : _ = (callFunc 45 #[(.pointer (some ⟨b_11, 0, none⟩))]).run Tryd.prog w_27) (Tryd.call45 _ _)) ((by have hh := itxt_any b_11 s q6 w_27 (HP.at_ 1 rfl) hsl hk6; simp only [h7] at hh; exact hh)) ?_
      rintro e w_28 ⟨rfl, hbx, hgr⟩
      refine ⟨_, rfl, ?_⟩
      intro a H
      have HP := HP.changed 1 rfl (rdCells s q7) [bx b_13 28 [(.int .i64 n1), (.int .i64 n2), (.int .i64 n3), (.int .i64 n4), (.int .i64 n5), (.bool (n6 == 1)), (.string (bstr ([]))), (.int .i64 0), (.int .i64 0), (.string (bstr ([]))), (.int .i64 0), (.int .i64 0), (.slice none 0 0)] true, bx b_11 82 (rdCells s q7) true, bx b_3 28 [(.int .i64 0), (.int .i64 0), (.int .i64 0), (.int .i64 0), (.int .i64 0), (.bool false), (.string (bstr ([]))), (.int .i64 0), (.int .i64 0), (.string (bstr ([]))), (.int .i64 0), (.int .i64 0), (.slice none 0 0)] true, bx b_1 23 [(.int .i64 rn), (.int .i64 rd)] true] (by kernel_rfl) hgr hbx
      refine H.v 83 (.pointer (some ⟨b_13, 6, none⟩)) fun a H => ?_
      refine H.store HP 0 b_13 6 1 28 _ true (.string (bstr n7)) [bx b_13 28 [(.int .i64 n1), (.int .i64 n2), (.int .i64 n3), (.int .i64 n4), (.int .i64 n5), (.bool (n6 == 1)), (.string (bstr n7)), (.int .i64 0), (.int .i64 0), (.string (bstr ([]))), (.int .i64 0), (.int .i64 0), (.slice none 0 0)] true, bx b_11 82 (rdCells s q7) true, bx b_3 28 [(.int .i64 0), (.int .i64 0), (.int .i64 0), (.int .i64 0), (.int .i64 0), (.bool false), (.string (bstr ([]))), (.int .i64 0), (.int .i64 0), (.string (bstr ([]))), (.int .i64 0), (.int .i64 0), (.slice none 0 0)] true, bx b_1 23 [(.int .i64 rn), (.int .i64 rd)] true] (by kernel_rfl) (by kernel_rfl) (by kernel_rfl) rfl (by kernel_rfl) (by kernel_rfl) (by kernel_rfl) (by kernel_rfl) (by kernel_rfl) fun w_29 a H HP => ?_
      refine wpList_nil (then_normal (wp_seq (w_region ?_)))
      refine H.v 84 (.pointer (some ⟨b_11, 0, none⟩)) fun a H => ?_
      refine H.call 85 (by kernel_rfl) (Eq.trans (by kernel_rfl : _ = (callFunc 44 #[(.pointer (some ⟨b_11, 0, none⟩))]).run Tryd.prog w_29) (Tryd.call44 _ _)) ((by have hh := inum_any b_11 s q7 w_29 (HP.at_ 1 rfl) hsl hk7; simp only [h8] at hh; exact hh)) ?_
      rintro e w_30 ⟨rfl, hbx, hgr⟩
      refine ⟨_, rfl, ?_⟩
      intro a H
      have HP := HP.changed 1 rfl (rdCells s q8) [bx b_13 28 [(.int .i64 n1), (.int .i64 n2), (.int .i64 n3), (.int .i64 n4), (.int .i64 n5), (.bool (n6 == 1)), (.string (bstr n7)), (.int .i64 0), (.int .i64 0), (.string (bstr ([]))), (.int .i64 0), (.int .i64 0), (.slice none 0 0)] true, bx b_11 82 (rdCells s q8) true, bx b_3 28 [(.int .i64 0), (.int .i64 0), (.int .i64 0), (.int .i64 0), (.int .i64 0), (.bool false), (.string (bstr ([]))), (.int .i64 0), (.int .i64 0), (.string (bstr ([]))), (.int .i64 0), (.int .i64 0), (.slice none 0 0)] true, bx b_1 23 [(.int .i64 rn), (.int .i64 rd)] true] (by kernel_rfl) hgr hbx
      refine H.v 86 (.pointer (some ⟨b_13, 7, none⟩)) fun a H => ?_
      refine H.store HP 0 b_13 7 1 28 _ true (.int .i64 n8) [bx b_13 28 [(.int .i64 n1), (.int .i64 n2), (.int .i64 n3), (.int .i64 n4), (.int .i64 n5), (.bool (n6 == 1)), (.string (bstr n7)), (.int .i64 n8), (.int .i64 0), (.string (bstr ([]))), (.int .i64 0), (.int .i64 0), (.slice none 0 0)] true, bx b_11 82 (rdCells s q8) true, bx b_3 28 [(.int .i64 0), (.int .i64 0), (.int .i64 0), (.int .i64 0), (.int .i64 0), (.bool false), (.string (bstr ([]))), (.int .i64 0), (.int .i64 0), (.string (bstr ([]))), (.int .i64 0), (.int .i64 0), (.slice none 0 0)] true, bx b_1 23 [(.int .i64 rn), (.int .i64 rd)] true] (by kernel_rfl) (by kernel_rfl) (by kernel_rfl) rfl (by kernel_rfl) (by kernel_rfl) (by kernel_rfl) (by kernel_rfl) (by kernel_rfl) fun w_31 a H HP => ?_
      refine wpList_nil (then_normal (wp_seq (w_region ?_)))
      refine H.v 87 (.pointer (some ⟨b_11, 0, none⟩)) fun a H => ?_
      refine H.call 88 (by kernel_rfl) (Eq.trans (by kernel_rfl : _ = (callFunc 44 #[(.pointer (some ⟨b_11, 0, none⟩))]).run Tryd.prog w_31) (Tryd.call44 _ _)) ((by have hh := inum_any b_11 s q8 w_31 (HP.at_ 1 rfl) hsl hk8; simp only [h9] at hh; exact hh)) ?_
      rintro e w_32 ⟨rfl, hbx, hgr⟩
      refine ⟨_, rfl, ?_⟩
      intro a H
      have HP := HP.changed 1 rfl (rdCells s q9) [bx b_13 28 [(.int .i64 n1), (.int .i64 n2), (.int .i64 n3), (.int .i64 n4), (.int .i64 n5), (.bool (n6 == 1)), (.string (bstr n7)), (.int .i64 n8), (.int .i64 0), (.string (bstr ([]))), (.int .i64 0), (.int .i64 0), (.slice none 0 0)] true, bx b_11 82 (rdCells s q9) true, bx b_3 28 [(.int .i64 0), (.int .i64 0), (.int .i64 0), (.int .i64 0), (.int .i64 0), (.bool false), (.string (bstr ([]))), (.int .i64 0), (.int .i64 0), (.string (bstr ([]))), (.int .i64 0), (.int .i64 0), (.slice none 0 0)] true, bx b_1 23 [(.int .i64 rn), (.int .i64 rd)] true] (by kernel_rfl) hgr hbx
      refine H.v 89 (.pointer (some ⟨b_13, 8, none⟩)) fun a H => ?_
      refine H.store HP 0 b_13 8 1 28 _ true (.int .i64 n9) [bx b_13 28 [(.int .i64 n1), (.int .i64 n2), (.int .i64 n3), (.int .i64 n4), (.int .i64 n5), (.bool (n6 == 1)), (.string (bstr n7)), (.int .i64 n8), (.int .i64 n9), (.string (bstr ([]))), (.int .i64 0), (.int .i64 0), (.slice none 0 0)] true, bx b_11 82 (rdCells s q9) true, bx b_3 28 [(.int .i64 0), (.int .i64 0), (.int .i64 0), (.int .i64 0), (.int .i64 0), (.bool false), (.string (bstr ([]))), (.int .i64 0), (.int .i64 0), (.string (bstr ([]))), (.int .i64 0), (.int .i64 0), (.slice none 0 0)] true, bx b_1 23 [(.int .i64 rn), (.int .i64 rd)] true] (by kernel_rfl) (by kernel_rfl) (by kernel_rfl) rfl (by kernel_rfl) (by kernel_rfl) (by kernel_rfl) (by kernel_rfl) (by kernel_rfl) fun w_33 a H HP => ?_
      refine wpList_nil (then_normal (wp_seq (w_region ?_)))
      refine H.v 90 (.pointer (some ⟨b_11, 0, none⟩)) fun a H => ?_
      refine H.call 91 (by kernel_rfl) (Eq.trans (by kernel_rfl : _ = (callFunc 45 #[(.pointer (some ⟨b_11, 0, none⟩))]).run Tryd.prog w_33) (Tryd.call45 _ _)) ((by have hh := itxt_any b_11 s q9 w_33 (HP.at_ 1 rfl) hsl hk9; simp only [h10] at hh; exact hh)) ?_
      rintro e w_34 ⟨rfl, hbx, hgr⟩
      refine ⟨_, rfl, ?_⟩
      intro a H
      have HP := HP.changed 1 rfl (rdCells s q10) [bx b_13 28 [(.int .i64 n1), (.int .i64 n2), (.int .i64 n3), (.int .i64 n4), (.int .i64 n5), (.bool (n6 == 1)), (.string (bstr n7)), (.int .i64 n8), (.int .i64 n9), (.string (bstr ([]))), (.int .i64 0), (.int .i64 0), (.slice none 0 0)] true, bx b_11 82 (rdCells s q10) true, bx b_3 28 [(.int .i64 0), (.int .i64 0), (.int .i64 0), (.int .i64 0), (.int .i64 0), (.bool false), (.string (bstr ([]))), (.int .i64 0), (.int .i64 0), (.string (bstr ([]))), (.int .i64 0), (.int .i64 0), (.slice none 0 0)] true, bx b_1 23 [(.int .i64 rn), (.int .i64 rd)] true] (by kernel_rfl) hgr hbx
      refine H.v 92 (.pointer (some ⟨b_13, 9, none⟩)) fun a H => ?_
      refine H.store HP 0 b_13 9 1 28 _ true (.string (bstr n10)) [bx b_13 28 [(.int .i64 n1), (.int .i64 n2), (.int .i64 n3), (.int .i64 n4), (.int .i64 n5), (.bool (n6 == 1)), (.string (bstr n7)), (.int .i64 n8), (.int .i64 n9), (.string (bstr n10)), (.int .i64 0), (.int .i64 0), (.slice none 0 0)] true, bx b_11 82 (rdCells s q10) true, bx b_3 28 [(.int .i64 0), (.int .i64 0), (.int .i64 0), (.int .i64 0), (.int .i64 0), (.bool false), (.string (bstr ([]))), (.int .i64 0), (.int .i64 0), (.string (bstr ([]))), (.int .i64 0), (.int .i64 0), (.slice none 0 0)] true, bx b_1 23 [(.int .i64 rn), (.int .i64 rd)] true] (by kernel_rfl) (by kernel_rfl) (by kernel_rfl) rfl (by kernel_rfl) (by kernel_rfl) (by kernel_rfl) (by kernel_rfl) (by kernel_rfl) fun w_35 a H HP => ?_
      refine wpList_nil (then_normal (wp_seq (w_region ?_)))
      refine H.v 94 (.pointer (some ⟨b_11, 0, none⟩)) fun a H => ?_
      refine H.call 95 (by kernel_rfl) (Eq.trans (by kernel_rfl : _ = (callFunc 45 #[(.pointer (some ⟨b_11, 0, none⟩))]).run Tryd.prog w_35) (Tryd.call45 _ _)) ((by have hh := itxt_any b_11 s q10 w_35 (HP.at_ 1 rfl) hsl hk10; simp only [h11] at hh; exact hh)) ?_
      rintro e w_36 ⟨rfl, hbx, hgr⟩
      refine ⟨_, rfl, ?_⟩
      intro a H
      have HP := HP.changed 1 rfl (rdCells s q11) [bx b_13 28 [(.int .i64 n1), (.int .i64 n2), (.int .i64 n3), (.int .i64 n4), (.int .i64 n5), (.bool (n6 == 1)), (.string (bstr n7)), (.int .i64 n8), (.int .i64 n9), (.string (bstr n10)), (.int .i64 0), (.int .i64 0), (.slice none 0 0)] true, bx b_11 82 (rdCells s q11) true, bx b_3 28 [(.int .i64 0), (.int .i64 0), (.int .i64 0), (.int .i64 0), (.int .i64 0), (.bool false), (.string (bstr ([]))), (.int .i64 0), (.int .i64 0), (.string (bstr ([]))), (.int .i64 0), (.int .i64 0), (.slice none 0 0)] true, bx b_1 23 [(.int .i64 rn), (.int .i64 rd)] true] (by kernel_rfl) hgr hbx
      have hszd := (HP.below (by kernel_rfl)).size
      refine H.call 96 (by kernel_rfl) (Eq.trans (by kernel_rfl : _ = (callFunc 46 #[(.string (bstr n11))]).run Tryd.prog w_36) (Tryd.call46 _ _)) ((by have hh := rdecode_any n11 w_36 (by omega); rw [ho] at hh; exact hh)) ?_
      rintro e w_37 ⟨BB, cc, rfl, hal, hc1, hc2, hc3, hb, hfr⟩
      refine ⟨_, rfl, ?_⟩
      intro a H
      have HP := (HP.next hb).keepF ⟨rowFp o.al.length BB, fun w => IsAlts w BB o.al.length o.al⟩ hal (fun _ _ h hk hs => ⟨h.1, h.2.keep hk hs⟩) (fun j hj => row_sep HP hal.2 hfr hj)
      refine H.v 93 (.tuple #[(.agg #[(.int .i64 o.s), (.int .i64 o.f), (.slice BB o.al.length cc)]), (.int .i64 code)]) fun a H => ?_
      refine H.v 97 (.agg #[(.int .i64 o.s), (.int .i64 o.f), (.slice BB o.al.length cc)]) fun a H => ?_
      refine H.v 98 (.int .i64 code) fun a H => ?_
      refine H.alloc HP 11 (fun b => (.pointer (some ⟨b, 0, none⟩))) 26 [(.int .i64 0), (.int .i64 0), (.slice none 0 0)] (by kernel_rfl) (fun w => by kernel_rfl) fun b_38 w_39 a H HP => ?_
      refine H.store HP 0 b_38 0 3 26 _ true (.agg #[(.int .i64 o.s), (.int .i64 o.f), (.slice BB o.al.length cc)]) [bx b_38 26 [(.int .i64 o.s), (.int .i64 o.f), (.slice BB o.al.length cc)] true, bx b_13 28 [(.int .i64 n1), (.int .i64 n2), (.int .i64 n3), (.int .i64 n4), (.int .i64 n5), (.bool (n6 == 1)), (.string (bstr n7)), (.int .i64 n8), (.int .i64 n9), (.string (bstr n10)), (.int .i64 0), (.int .i64 0), (.slice none 0 0)] true, bx b_11 82 (rdCells s q11) true, bx b_3 28 [(.int .i64 0), (.int .i64 0), (.int .i64 0), (.int .i64 0), (.int .i64 0), (.bool false), (.string (bstr ([]))), (.int .i64 0), (.int .i64 0), (.string (bstr ([]))), (.int .i64 0), (.int .i64 0), (.slice none 0 0)] true, bx b_1 23 [(.int .i64 rn), (.int .i64 rd)] true] (by kernel_rfl) (by kernel_rfl) (by kernel_rfl) rfl (by kernel_rfl) (by kernel_rfl) (by kernel_rfl) (by kernel_rfl) (by kernel_rfl) fun w_40 a H HP => ?_
      refine H.v 12 (.int .i64 code) fun a H => ?_
      refine wpList_nil (then_normal (wp_seq (wp_seq (w_region ?_))))
      refine H.v 99 (.pointer (some ⟨b_11, 0, none⟩)) fun a H => ?_
      refine H.v 100 (.pointer (some ⟨b_11, 0, none⟩)) fun a H => ?_
      refine H.v 101 (.pointer (some ⟨b_11, 2, none⟩)) fun a H => ?_
      refine H.u 102 (.bool q11.2) (ex_load1 (by kernel_rfl) (by kernel_rfl) (v := .bool q11.2) (HP.cell 2 rfl 2 rfl)) fun a H => ?_
      refine H.v 103 (.bool q11.2) fun a H => ?_
      refine H.split 103 rfl (fun g103 H => ?_) (fun g103 H => ?_)
      ·have g103p := g103
       refine H.s 104 fun a H => ?_
       refine H.s 105 fun a H => ?_
       refine H.v 106 (.bool true) fun a H => ?_
       refine wpList_nil (then_normal ?_)
       refine w_ift H rfl ?_
       refine wp_seq (w_region ?_)
       refine H.v 107 (.agg #[(.int .i64 0), (.int .i64 0), (.int .i64 0), (.int .i64 0), (.int .i64 0), (.bool false), (.string (bstr ([]))), (.int .i64 0), (.int .i64 0), (.string (bstr ([]))), (.int .i64 0), (.int .i64 0), (.slice none 0 0)]) fun a H => ?_
       refine H.store HP 3 b_3 0 13 28 _ true (.agg #[(.int .i64 0), (.int .i64 0), (.int .i64 0), (.int .i64 0), (.int .i64 0), (.bool false), (.string (bstr ([]))), (.int .i64 0), (.int .i64 0), (.string (bstr ([]))), (.int .i64 0), (.int .i64 0), (.slice none 0 0)]) [bx b_38 26 [(.int .i64 o.s), (.int .i64 o.f), (.slice BB o.al.length cc)] true, bx b_13 28 [(.int .i64 n1), (.int .i64 n2), (.int .i64 n3), (.int .i64 n4), (.int .i64 n5), (.bool (n6 == 1)), (.string (bstr n7)), (.int .i64 n8), (.int .i64 n9), (.string (bstr n10)), (.int .i64 0), (.int .i64 0), (.slice none 0 0)] true, bx b_11 82 (rdCells s q11) true, bx b_3 28 [(.int .i64 0), (.int .i64 0), (.int .i64 0), (.int .i64 0), (.int .i64 0), (.bool false), (.string (bstr ([]))), (.int .i64 0), (.int .i64 0), (.string (bstr ([]))), (.int .i64 0), (.int .i64 0), (.slice none 0 0)] true, bx b_1 23 [(.int .i64 rn), (.int .i64 rd)] true] (by kernel_rfl) (by kernel_rfl) (by kernel_rfl) rfl (by kernel_rfl) (by kernel_rfl) (by kernel_rfl) (by kernel_rfl) (by kernel_rfl) fun w_41 a H HP => ?_
       refine H.v 5 (.int .i64 180) fun a H => ?_
       refine wpList_nil (then_normal (wp_ret (then_ret ?_)))
       refine H.ret2 (fn := Tryd.f23) Tryd.results23 (RV.cellN (vs := [(.int .i64 0), (.int .i64 0), (.int .i64 0), (.int .i64 0), (.int .i64 0), (.bool false), (.string (bstr ([]))), (.int .i64 0), (.int .i64 0), (.string (bstr ([]))), (.int .i64 0), (.int .i64 0), (.slice none 0 0)]) (b := b_3) (off := 0) (k := 13) (by kernel_rfl) (by kernel_rfl) (by kernel_rfl) rfl (HP.cells 3 rfl 0 13 (by kernel_rfl))) (RV.tmp_ (v := (.int .i64 180)) (by kernel_rfl)) ?_
       exact retUn_none hU rfl (HP.below (by kernel_rfl))
      ·have g103p := g103
       refine H.v 104 (.int .i64 code) fun a H => ?_
       refine H.v 105 (.bool (code != 0)) fun a H => ?_
       refine H.v 106 (.bool (code != 0)) fun a H => ?_
       refine wpList_nil (then_normal ?_)
       refine w_if H rfl (fun g106 => ?_) (fun g106 => ?_)
       ·have g106p := bne_iff_ne.1 g106
        refine wp_seq (w_region ?_)
        refine H.v 107 (.agg #[(.int .i64 0), (.int .i64 0), (.int .i64 0), (.int .i64 0), (.int .i64 0), (.bool false), (.string (bstr ([]))), (.int .i64 0), (.int .i64 0), (.string (bstr ([]))), (.int .i64 0), (.int .i64 0), (.slice none 0 0)]) fun a H => ?_
        refine H.store HP 3 b_3 0 13 28 _ true (.agg #[(.int .i64 0), (.int .i64 0), (.int .i64 0), (.int .i64 0), (.int .i64 0), (.bool false), (.string (bstr ([]))), (.int .i64 0), (.int .i64 0), (.string (bstr ([]))), (.int .i64 0), (.int .i64 0), (.slice none 0 0)]) [bx b_38 26 [(.int .i64 o.s), (.int .i64 o.f), (.slice BB o.al.length cc)] true, bx b_13 28 [(.int .i64 n1), (.int .i64 n2), (.int .i64 n3), (.int .i64 n4), (.int .i64 n5), (.bool (n6 == 1)), (.string (bstr n7)), (.int .i64 n8), (.int .i64 n9), (.string (bstr n10)), (.int .i64 0), (.int .i64 0), (.slice none 0 0)] true, bx b_11 82 (rdCells s q11) true, bx b_3 28 [(.int .i64 0), (.int .i64 0), (.int .i64 0), (.int .i64 0), (.int .i64 0), (.bool false), (.string (bstr ([]))), (.int .i64 0), (.int .i64 0), (.string (bstr ([]))), (.int .i64 0), (.int .i64 0), (.slice none 0 0)] true, bx b_1 23 [(.int .i64 rn), (.int .i64 rd)] true] (by kernel_rfl) (by kernel_rfl) (by kernel_rfl) rfl (by kernel_rfl) (by kernel_rfl) (by kernel_rfl) (by kernel_rfl) (by kernel_rfl) fun w_42 a H HP => ?_
        refine H.v 5 (.int .i64 180) fun a H => ?_
        refine wpList_nil (then_normal (wp_ret (then_ret ?_)))
        refine H.ret2 (fn := Tryd.f23) Tryd.results23 (RV.cellN (vs := [(.int .i64 0), (.int .i64 0), (.int .i64 0), (.int .i64 0), (.int .i64 0), (.bool false), (.string (bstr ([]))), (.int .i64 0), (.int .i64 0), (.string (bstr ([]))), (.int .i64 0), (.int .i64 0), (.slice none 0 0)]) (b := b_3) (off := 0) (k := 13) (by kernel_rfl) (by kernel_rfl) (by kernel_rfl) rfl (HP.cells 3 rfl 0 13 (by kernel_rfl))) (RV.tmp_ (v := (.int .i64 180)) (by kernel_rfl)) ?_
        exact retUn_none hU rfl (HP.below (by kernel_rfl))
       ·have g106p := eq_of_bne_false g106
        refine wp_skip (then_normal (wp_seq (w_region ?_)))
        refine H.u 108 (.agg #[(.int .i64 o.s), (.int .i64 o.f), (.slice BB o.al.length cc)]) (ex_loadN (vs := [(.int .i64 o.s), (.int .i64 o.f), (.slice BB o.al.length cc)]) (by kernel_rfl) (by kernel_rfl) (by kernel_rfl) rfl (HP.cells 0 rfl 0 3 (by kernel_rfl))) fun a H => ?_
        refine H.v 109 (.pointer (some ⟨b_13, 10, none⟩)) fun a H => ?_
        refine H.store HP 1 b_13 10 3 28 _ true (.agg #[(.int .i64 o.s), (.int .i64 o.f), (.slice BB o.al.length cc)]) [bx b_38 26 [(.int .i64 o.s), (.int .i64 o.f), (.slice BB o.al.length cc)] true, bx b_13 28 [(.int .i64 n1), (.int .i64 n2), (.int .i64 n3), (.int .i64 n4), (.int .i64 n5), (.bool (n6 == 1)), (.string (bstr n7)), (.int .i64 n8), (.int .i64 n9), (.string (bstr n10)), (.int .i64 o.s), (.int .i64 o.f), (.slice BB o.al.length cc)] true, bx b_11 82 (rdCells s q11) true, bx b_3 28 [(.int .i64 0), (.int .i64 0), (.int .i64 0), (.int .i64 0), (.int .i64 0), (.bool false), (.string (bstr ([]))), (.int .i64 0), (.int .i64 0), (.string (bstr ([]))), (.int .i64 0), (.int .i64 0), (.slice none 0 0)] true, bx b_1 23 [(.int .i64 rn), (.int .i64 rd)] true] (by kernel_rfl) (by kernel_rfl) (by kernel_rfl) rfl (by kernel_rfl) (by kernel_rfl) (by kernel_rfl) (by kernel_rfl) (by kernel_rfl) fun w_43 a H HP => ?_
        refine wpList_nil (then_normal (wp_seq (w_region ?_)))
        refine H.u 111 (.agg #[(.int .i64 rn), (.int .i64 rd)]) (ex_loadN (vs := [(.int .i64 rn), (.int .i64 rd)]) (by kernel_rfl) (by kernel_rfl) (by kernel_rfl) rfl (HP.cells 4 rfl 0 2 (by kernel_rfl))) fun a H => ?_
        refine H.u 112 (.agg #[(.int .i64 n1), (.int .i64 n2), (.int .i64 n3), (.int .i64 n4), (.int .i64 n5), (.bool (n6 == 1)), (.string (bstr n7)), (.int .i64 n8), (.int .i64 n9), (.string (bstr n10)), (.int .i64 o.s), (.int .i64 o.f), (.slice BB o.al.length cc)]) (ex_loadN (vs := [(.int .i64 n1), (.int .i64 n2), (.int .i64 n3), (.int .i64 n4), (.int .i64 n5), (.bool (n6 == 1)), (.string (bstr n7)), (.int .i64 n8), (.int .i64 n9), (.string (bstr n10)), (.int .i64 o.s), (.int .i64 o.f), (.slice BB o.al.length cc)]) (by kernel_rfl) (by kernel_rfl) (by kernel_rfl) rfl (HP.cells 1 rfl 0 13 (by kernel_rfl))) fun a H => ?_
        refine H.call 113 (by kernel_rfl) (Eq.trans (by kernel_rfl : _ = (callFunc 17 #[(.agg #[(.int .i64 rn), (.int .i64 rd)]), (.agg #[(.int .i64 n1), (.int .i64 n2), (.int .i64 n3), (.int .i64 n4), (.int .i64 n5), (.bool (n6 == 1)), (.string (bstr n7)), (.int .i64 n8), (.int .i64 n9), (.string (bstr n10)), (.int .i64 o.s), (.int .i64 o.f), (.slice BB o.al.length cc)])]).run Tryd.prog w_43) (Tryd.call17 _ _)) ((by have hh := rpack_any rn rd (⟨n1, n2, n3, n4, n5, n6 == 1, n7, n8, n9, n10, o.s, o.f, BB, cc, o.al⟩ : Un) w_43 (HP.fact 0 rfl) hc1 hc2; rw [hZ BB cc, packV_eq] at hh; exact hh)) ?_
        rintro e w_44 ⟨rfl, hb⟩
        refine ⟨_, rfl, ?_⟩
        intro a H
        have HP := HP.next hb
        refine H.v 110 (.tuple #[(.string (bstr (Z.getD []))), (.int .i64 (if Z.isSome = true then 0 else 180 : Int))]) fun a H => ?_
        refine H.v 114 (.string (bstr (Z.getD []))) fun a H => ?_
        refine H.v 115 (.int .i64 (if Z.isSome = true then 0 else 180 : Int)) fun a H => ?_
        refine H.v 13 (.string (bstr (Z.getD []))) fun a H => ?_
        refine H.v 14 (.int .i64 (if Z.isSome = true then 0 else 180 : Int)) fun a H => ?_
        refine wpList_nil (then_normal (wp_seq (wp_seq (w_region ?_))))
        refine H.v 116 (.int .i64 (if Z.isSome = true then 0 else 180 : Int)) fun a H => ?_
        refine H.v 117 (.bool ((if Z.isSome = true then 0 else 180 : Int) != 0)) fun a H => ?_
        refine H.v 118 (.bool ((if Z.isSome = true then 0 else 180 : Int) != 0)) fun a H => ?_
        refine H.split 118 rfl (fun g118 H => ?_) (fun g118 H => ?_)
        ·have g118p := bne_iff_ne.1 g118
         refine H.s 119 fun a H => ?_
         refine H.s 120 fun a H => ?_
         refine H.s 121 fun a H => ?_
         refine H.v 122 (.bool true) fun a H => ?_
         refine wpList_nil (then_normal ?_)
         refine w_ift H rfl ?_
         refine wp_seq (w_region ?_)
         refine H.v 123 (.agg #[(.int .i64 0), (.int .i64 0), (.int .i64 0), (.int .i64 0), (.int .i64 0), (.bool false), (.string (bstr ([]))), (.int .i64 0), (.int .i64 0), (.string (bstr ([]))), (.int .i64 0), (.int .i64 0), (.slice none 0 0)]) fun a H => ?_
         refine H.store HP 3 b_3 0 13 28 _ true (.agg #[(.int .i64 0), (.int .i64 0), (.int .i64 0), (.int .i64 0), (.int .i64 0), (.bool false), (.string (bstr ([]))), (.int .i64 0), (.int .i64 0), (.string (bstr ([]))), (.int .i64 0), (.int .i64 0), (.slice none 0 0)]) [bx b_38 26 [(.int .i64 o.s), (.int .i64 o.f), (.slice BB o.al.length cc)] true, bx b_13 28 [(.int .i64 n1), (.int .i64 n2), (.int .i64 n3), (.int .i64 n4), (.int .i64 n5), (.bool (n6 == 1)), (.string (bstr n7)), (.int .i64 n8), (.int .i64 n9), (.string (bstr n10)), (.int .i64 o.s), (.int .i64 o.f), (.slice BB o.al.length cc)] true, bx b_11 82 (rdCells s q11) true, bx b_3 28 [(.int .i64 0), (.int .i64 0), (.int .i64 0), (.int .i64 0), (.int .i64 0), (.bool false), (.string (bstr ([]))), (.int .i64 0), (.int .i64 0), (.string (bstr ([]))), (.int .i64 0), (.int .i64 0), (.slice none 0 0)] true, bx b_1 23 [(.int .i64 rn), (.int .i64 rd)] true] (by kernel_rfl) (by kernel_rfl) (by kernel_rfl) rfl (by kernel_rfl) (by kernel_rfl) (by kernel_rfl) (by kernel_rfl) (by kernel_rfl) fun w_45 a H HP => ?_
         refine H.v 5 (.int .i64 180) fun a H => ?_
         refine wpList_nil (then_normal (wp_ret (then_ret ?_)))
         refine H.ret2 (fn := Tryd.f23) Tryd.results23 (RV.cellN (vs := [(.int .i64 0), (.int .i64 0), (.int .i64 0), (.int .i64 0), (.int .i64 0), (.bool false), (.string (bstr ([]))), (.int .i64 0), (.int .i64 0), (.string (bstr ([]))), (.int .i64 0), (.int .i64 0), (.slice none 0 0)]) (b := b_3) (off := 0) (k := 13) (by kernel_rfl) (by kernel_rfl) (by kernel_rfl) rfl (HP.cells 3 rfl 0 13 (by kernel_rfl))) (RV.tmp_ (v := (.int .i64 180)) (by kernel_rfl)) ?_
         exact retUn_none hU rfl (HP.below (by kernel_rfl))
        ·have g118p := eq_of_bne_false g118
         refine H.v 119 (.string (bstr (Z.getD []))) fun a H => ?_
         refine H.v 120 (.string (bstr l)) fun a H => ?_
         refine H.valE 121 (.bool (!((bstr (Z.getD [])).toList == (bstr l).toList))) (.bool (!((Z.getD []) == l))) (by kernel_rfl) (by kernel_rfl) ((congrArg (fun b => Value.bool (!b)) (bstr_eq _ _))) fun a H => ?_
         refine H.v 122 (.bool (!((Z.getD []) == l))) fun a H => ?_
         refine wpList_nil (then_normal ?_)
         refine w_if H rfl (fun g122 => ?_) (fun g122 => ?_)
         ·have g122p := not_is_true g122
          refine wp_seq (w_region ?_)
          refine H.v 123 (.agg #[(.int .i64 0), (.int .i64 0), (.int .i64 0), (.int .i64 0), (.int .i64 0), (.bool false), (.string (bstr ([]))), (.int .i64 0), (.int .i64 0), (.string (bstr ([]))), (.int .i64 0), (.int .i64 0), (.slice none 0 0)]) fun a H => ?_
          refine H.store HP 3 b_3 0 13 28 _ true (.agg #[(.int .i64 0), (.int .i64 0), (.int .i64 0), (.int .i64 0), (.int .i64 0), (.bool false), (.string (bstr ([]))), (.int .i64 0), (.int .i64 0), (.string (bstr ([]))), (.int .i64 0), (.int .i64 0), (.slice none 0 0)]) [bx b_38 26 [(.int .i64 o.s), (.int .i64 o.f), (.slice BB o.al.length cc)] true, bx b_13 28 [(.int .i64 n1), (.int .i64 n2), (.int .i64 n3), (.int .i64 n4), (.int .i64 n5), (.bool (n6 == 1)), (.string (bstr n7)), (.int .i64 n8), (.int .i64 n9), (.string (bstr n10)), (.int .i64 o.s), (.int .i64 o.f), (.slice BB o.al.length cc)] true, bx b_11 82 (rdCells s q11) true, bx b_3 28 [(.int .i64 0), (.int .i64 0), (.int .i64 0), (.int .i64 0), (.int .i64 0), (.bool false), (.string (bstr ([]))), (.int .i64 0), (.int .i64 0), (.string (bstr ([]))), (.int .i64 0), (.int .i64 0), (.slice none 0 0)] true, bx b_1 23 [(.int .i64 rn), (.int .i64 rd)] true] (by kernel_rfl) (by kernel_rfl) (by kernel_rfl) rfl (by kernel_rfl) (by kernel_rfl) (by kernel_rfl) (by kernel_rfl) (by kernel_rfl) fun w_46 a H HP => ?_
          refine H.v 5 (.int .i64 180) fun a H => ?_
          refine wpList_nil (then_normal (wp_ret (then_ret ?_)))
          refine H.ret2 (fn := Tryd.f23) Tryd.results23 (RV.cellN (vs := [(.int .i64 0), (.int .i64 0), (.int .i64 0), (.int .i64 0), (.int .i64 0), (.bool false), (.string (bstr ([]))), (.int .i64 0), (.int .i64 0), (.string (bstr ([]))), (.int .i64 0), (.int .i64 0), (.slice none 0 0)]) (b := b_3) (off := 0) (k := 13) (by kernel_rfl) (by kernel_rfl) (by kernel_rfl) rfl (HP.cells 3 rfl 0 13 (by kernel_rfl))) (RV.tmp_ (v := (.int .i64 180)) (by kernel_rfl)) ?_
          exact retUn_none hU rfl (HP.below (by kernel_rfl))
         ·have g122p := not_is_false g122
          refine wp_skip (then_normal (wp_seq (w_region ?_)))
          refine H.u 124 (.agg #[(.int .i64 n1), (.int .i64 n2), (.int .i64 n3), (.int .i64 n4), (.int .i64 n5), (.bool (n6 == 1)), (.string (bstr n7)), (.int .i64 n8), (.int .i64 n9), (.string (bstr n10)), (.int .i64 o.s), (.int .i64 o.f), (.slice BB o.al.length cc)]) (ex_loadN (vs := [(.int .i64 n1), (.int .i64 n2), (.int .i64 n3), (.int .i64 n4), (.int .i64 n5), (.bool (n6 == 1)), (.string (bstr n7)), (.int .i64 n8), (.int .i64 n9), (.string (bstr n10)), (.int .i64 o.s), (.int .i64 o.f), (.slice BB o.al.length cc)]) (by kernel_rfl) (by kernel_rfl) (by kernel_rfl) rfl (HP.cells 1 rfl 0 13 (by kernel_rfl))) fun a H => ?_
          refine H.store HP 3 b_3 0 13 28 _ true (.agg #[(.int .i64 n1), (.int .i64 n2), (.int .i64 n3), (.int .i64 n4), (.int .i64 n5), (.bool (n6 == 1)), (.string (bstr n7)), (.int .i64 n8), (.int .i64 n9), (.string (bstr n10)), (.int .i64 o.s), (.int .i64 o.f), (.slice BB o.al.length cc)]) [bx b_38 26 [(.int .i64 o.s), (.int .i64 o.f), (.slice BB o.al.length cc)] true, bx b_13 28 [(.int .i64 n1), (.int .i64 n2), (.int .i64 n3), (.int .i64 n4), (.int .i64 n5), (.bool (n6 == 1)), (.string (bstr n7)), (.int .i64 n8), (.int .i64 n9), (.string (bstr n10)), (.int .i64 o.s), (.int .i64 o.f), (.slice BB o.al.length cc)] true, bx b_11 82 (rdCells s q11) true, bx b_3 28 [(.int .i64 n1), (.int .i64 n2), (.int .i64 n3), (.int .i64 n4), (.int .i64 n5), (.bool (n6 == 1)), (.string (bstr n7)), (.int .i64 n8), (.int .i64 n9), (.string (bstr n10)), (.int .i64 o.s), (.int .i64 o.f), (.slice BB o.al.length cc)] true, bx b_1 23 [(.int .i64 rn), (.int .i64 rd)] true] (by kernel_rfl) (by kernel_rfl) (by kernel_rfl) rfl (by kernel_rfl) (by kernel_rfl) (by kernel_rfl) (by kernel_rfl) (by kernel_rfl) fun w_47 a H HP => ?_
          refine H.v 5 (.int .i64 0) fun a H => ?_
          refine wpList_nil (then_normal (wp_ret ?_))
          refine H.ret2 (fn := Tryd.f23) Tryd.results23 (RV.cellN (vs := [(.int .i64 n1), (.int .i64 n2), (.int .i64 n3), (.int .i64 n4), (.int .i64 n5), (.bool (n6 == 1)), (.string (bstr n7)), (.int .i64 n8), (.int .i64 n9), (.string (bstr n10)), (.int .i64 o.s), (.int .i64 o.f), (.slice BB o.al.length cc)]) (b := b_3) (off := 0) (k := 13) (by kernel_rfl) (by kernel_rfl) (by kernel_rfl) rfl (HP.cells 3 rfl 0 13 (by kernel_rfl))) (RV.tmp_ (v := (.int .i64 0)) (by kernel_rfl)) ?_
          exfalso
          have hZs : Z = some l := by
           cases Z with
           | none => exact absurd g118p (by decide)
           | some z => exact congrArg some (eq_of_beq g122p)
          have := unpack_pack (hZ0.trans hZs)
          rw [hU] at this
          cases this
set_option maxRecDepth 100000 in
set_option maxHeartbeats 4000000 in
theorem runpack_some (rn rd : Int) (l : List UInt8) (w : World) (hl : l.length ≤ 1000000) (U : Un) (hA : U.A = none) (hc : U.c = 0) (hU : unpackP rn rd l = some U) :
  Calls Tryd.prog 23 #[.agg #[.int .i64 rn, .int .i64 rd], .string (bstr l)] w (RetUn (unpackP rn rd l) w) := by
 have HP := Hp.start w
 have hpU := pack_unpack hU
 obtain ⟨hln, hn1, hn13⟩ := pack_len hpU
 obtain ⟨_, hvu, hlk⟩ := packP_some hpU
 obtain ⟨hvf, hvo⟩ := validU_facts hvu
 have hol := encOpt_len hvo
 have hSp := streamU_pos rn rd U
 have hSl := streamU_len (rn := rn) (rd := rd) hvu
 obtain ⟨s, hs⟩ : ∃ s, streamU rn rd U = s := ⟨_, rfl⟩
 rw [hs] at hln hn1 hn13 hlk hSp hSl
 obtain ⟨N, hN⟩ : ∃ N, pktN s = N := ⟨_, rfl⟩
 rw [hN] at hln hn1 hn13
 have hsl : s.length ≤ 1000000 := by omega
 have hlN := hln
 have hsz : ∀ j, j < N → payN l j ≤ 59 := fun j hj => by rw [hlk, payN_pk (by omega)]; omega
 have hstr : payTo l N = s := by
  rw [hlk, payTo_pk (by omega), List.take_of_length_le (by have := pktN_bd s; omega)]
 obtain ⟨k1, k2, k3, k4, k5, k6, k7, k8, k9, k10, k11, ⟨h1, h2, h3, h4, h5, h6, h7, h8, h9, h10, h11⟩, hk1, hk2, hk3, hk4, hk5, hk6, hk7, hk8, hk9, hk10, hk11⟩ := iread_all (c := clockP (ticksP rn rd U.frame).toNat) (t := encInt ((sumP (contentP U) : Nat) : Int)) rfl hvu (hs.symm.trans (streamU_eq rn rd U))
 have hk0 : ((5, false) : Nat × Bool).1 ≤ s.length := hSp
 refine w_enter 125 [(0, (.agg #[(.int .i64 rn), (.int .i64 rd)])), (1, (.string (bstr l)))] Tryd.func23 rfl Tryd.ntmps23 (by kernel_rfl) (by kernel_rfl) fun a H => ?_
 refine wp_seq (w_region ?_)
 refine H.alloc HP 2 (fun b => (.pointer (some ⟨b, 0, none⟩))) 23 [(.int .i64 rn), (.int .i64 rd)] (by kernel_rfl) (fun w => by kernel_rfl) fun b_1 w_2 a H HP => ?_
 refine H.alloc HP 4 (fun b => (.pointer (some ⟨b, 0, none⟩))) 28 [(.int .i64 0), (.int .i64 0), (.int .i64 0), (.int .i64 0), (.int .i64 0), (.bool false), (.string (bstr ([]))), (.int .i64 0), (.int .i64 0), (.string (bstr ([]))), (.int .i64 0), (.int .i64 0), (.slice none 0 0)] (by kernel_rfl) (fun w => by kernel_rfl) fun b_3 w_4 a H HP => ?_
 refine H.v 5 (.int .i64 0) fun a H => ?_
 refine wpList_nil (then_normal (wp_seq (wp_seq (w_region ?_))))
 refine H.v 15 (.string (bstr l)) fun a H => ?_
 refine H.v 16 (.int .i64 ((l.length : Nat) : Int)) fun a H => ?_
 refine H.valE 17 (.bool (((l.length : Nat) : Int) == 0)) (.bool false) (by kernel_rfl) (by kernel_rfl) ((congrArg Value.bool (beq_eq_false_iff_ne.2 (by omega)))) fun a H => ?_
 refine H.v 18 (.bool false) fun a H => ?_
 refine H.v 19 (.string (bstr l)) fun a H => ?_
 refine H.v 20 (.int .i64 ((l.length : Nat) : Int)) fun a H => ?_
 refine H.valE 21 (.int .i64 (((l.length : Nat) : Int).tmod 64)) (.int .i64 ((l.length % 64 : Nat) : Int)) (by kernel_rfl) (by kernel_rfl) ((by rw [tmod_nn _ _ (by omega)]; exact congrArg (Value.int .i64) (by omega))) fun a H => ?_
 refine H.valE 22 (.bool (((l.length % 64 : Nat) : Int) != 0)) (.bool false) (by kernel_rfl) (by kernel_rfl) ((congrArg Value.bool (by rw [bne_eq_false_iff_eq]; omega))) fun a H => ?_
 refine H.v 23 (.bool false) fun a H => ?_
 refine H.v 24 (.bool false) fun a H => ?_
 refine H.v 25 (.string (bstr l)) fun a H => ?_
 refine H.v 26 (.int .i64 ((l.length : Nat) : Int)) fun a H => ?_
 refine H.valE 27 (.bool (decide (((l.length : Nat) : Int) > 1024))) (.bool false) (by kernel_rfl) (by kernel_rfl) ((congrArg Value.bool (decide_eq_false (by omega)))) fun a H => ?_
 refine H.v 28 (.bool false) fun a H => ?_
 refine wpList_nil (then_normal ?_)
 refine w_iff H rfl ?_
 refine wp_skip (then_normal (wp_seq (w_region ?_)))
 refine H.v 6 (.string (bstr ([]))) fun a H => ?_
 refine wpList_nil (then_normal (wp_seq (wp_seq (w_region ?_))))
 refine H.v 7 (.int .i64 0) fun a H => ?_
 refine wpList_nil (then_normal (wp_block ?_))
 refine w_loop (fun mm a wv => ∃ (j : Nat), N - j = mm ∧ Sl 125 [(7, (.int .i64 ((64 * j : Nat) : Int))), (6, (.string (bstr (payTo l j)))), (1, (.string (bstr l))), (2, (.pointer (some ⟨b_1, 0, none⟩))), (4, (.pointer (some ⟨b_3, 0, none⟩)))] a ∧ Hp w wv [bx b_3 28 [(.int .i64 0), (.int .i64 0), (.int .i64 0), (.int .i64 0), (.int .i64 0), (.bool false), (.string (bstr ([]))), (.int .i64 0), (.int .i64 0), (.string (bstr ([]))), (.int .i64 0), (.int .i64 0), (.slice none 0 0)] true, bx b_1 23 [(.int .i64 rn), (.int .i64 rd)] true] [] ∧ (j ≤ N) ∧ ((payTo l j).length ≤ 59 * j)) (N - 0) ?_ ?_
 ·exact ⟨0, (by omega), H.keep (by kernel_rfl), HP, by omega, (by simp [payTo])⟩
 rintro mm a w_5 ⟨j, hmeas, H, HP, hj, hpl⟩
 refine wp_seq (wp_seq (w_region ?_))
 refine H.v 30 (.int .i64 ((64 * j : Nat) : Int)) fun a H => ?_
 refine H.v 31 (.string (bstr l)) fun a H => ?_
 refine H.v 32 (.int .i64 ((l.length : Nat) : Int)) fun a H => ?_
 refine H.v 33 (.bool (decide (((64 * j : Nat) : Int) < ((l.length : Nat) : Int)))) fun a H => ?_
 refine wpList_nil (then_normal ?_)
 refine w_if H rfl (fun g33 => ?_) (fun g33 => ?_)
 ·have g33p := of_decide_eq_true g33
  refine wp_skip (then_normal (wp_seq (wp_block (wp_seq ?_))))
  have hjN : j < N := by omega
  obtain ⟨n, hn⟩ : ∃ n, (l.getD (64 * j + 4) 0).toNat = n := ⟨_, rfl⟩
  have hnb : n < 256 := by rw [← hn]; exact byte_lt _
  have hn59 : n ≤ 59 := by have := hsz j hjN; unfold payN at this; omega
  refine w_region ?_
  refine H.v 36 (.string (bstr l)) fun a H => ?_
  refine H.v 37 (.int .i64 ((64 * j : Nat) : Int)) fun a H => ?_
  refine H.valE 38 (.int .i64 (IntKind.i64.wrap (((64 * j : Nat) : Int) + 4))) (.int .i64 ((64 * j + 4 : Nat) : Int)) (by kernel_rfl) (by kernel_rfl) ((by rw [wrap_ini64 _ (by omega)]; first | done | exact congrArg (Value.int .i64) (by omega))) fun a H => ?_
  refine H.valE 39 (.int .u8 (((l.getD (64 * j + 4) 0).toNat : Nat) : Int)) (.int .u8 ((n : Nat) : Int)) (by kernel_rfl) (ex_sindex (k := .i64) (l := l) (i := ((64 * j + 4 : Nat) : Int)) (m := 64 * j + 4) (by kernel_rfl) (by kernel_rfl) (by kernel_rfl) (by omega) (by omega)) ((congrArg (Value.int .u8) (by rw [hn]))) fun a H => ?_
  refine H.valE 40 (.int .i64 (IntKind.i64.wrap ((n : Nat) : Int))) (.int .i64 ((n : Nat) : Int)) (by kernel_rfl) (by kernel_rfl) ((by rw [wrap_ini64 _ (by omega)])) fun a H => ?_
  refine H.v 8 (.int .i64 ((n : Nat) : Int)) fun a H => ?_
  refine wpList_nil (then_normal (wp_seq (wp_seq (w_region ?_))))
  refine H.v 41 (.int .i64 ((n : Nat) : Int)) fun a H => ?_
  refine H.valE 42 (.bool (decide (((n : Nat) : Int) > 59))) (.bool false) (by kernel_rfl) (by kernel_rfl) ((congrArg Value.bool (decide_eq_false (by omega)))) fun a H => ?_
  refine wpList_nil (then_normal ?_)
  refine w_iff H rfl ?_
  refine wp_skip (then_normal ?_)
  have hpay : payAt l j = (l.drop (64 * j + 5)).take (64 * j + 5 + n - (64 * j + 5)) := by unfold payAt payN; rw [hn]; congr 1; omega
  refine w_region ?_
  refine H.v 44 (.string (bstr (payTo l j))) fun a H => ?_
  refine H.v 45 (.string (bstr l)) fun a H => ?_
  refine H.v 46 (.int .i64 ((64 * j : Nat) : Int)) fun a H => ?_
  refine H.valE 47 (.int .i64 (IntKind.i64.wrap (((64 * j : Nat) : Int) + 5))) (.int .i64 ((64 * j + 5 : Nat) : Int)) (by kernel_rfl) (by kernel_rfl) ((by rw [wrap_ini64 _ (by omega)]; first | done | exact congrArg (Value.int .i64) (by omega))) fun a H => ?_
  refine H.v 48 (.int .i64 ((64 * j : Nat) : Int)) fun a H => ?_
  refine H.valE 49 (.int .i64 (IntKind.i64.wrap (((64 * j : Nat) : Int) + 5))) (.int .i64 ((64 * j + 5 : Nat) : Int)) (by kernel_rfl) (by kernel_rfl) ((by rw [wrap_ini64 _ (by omega)]; first | done | exact congrArg (Value.int .i64) (by omega))) fun a H => ?_
  refine H.v 50 (.int .i64 ((n : Nat) : Int)) fun a H => ?_
  refine H.valE 51 (.int .i64 (IntKind.i64.wrap (((64 * j + 5 : Nat) : Int) + ((n : Nat) : Int)))) (.int .i64 ((64 * j + 5 + n : Nat) : Int)) (by kernel_rfl) (by kernel_rfl) ((by rw [wrap_ini64 _ (by omega)]; first | done | exact congrArg (Value.int .i64) (by omega))) fun a H => ?_
  refine H.u 52 (.string (bstr ((l.drop (64 * j + 5)).take ((64 * j + 5 + n) - (64 * j + 5))))) (ex_sslice (k := .i64) (kk := .i64) (l := l) (i := ((64 * j + 5 : Nat) : Int)) (j := ((64 * j + 5 + n : Nat) : Int)) (a := (64 * j + 5)) (b := (64 * j + 5 + n)) (by kernel_rfl) (by kernel_rfl) (by kernel_rfl) (by kernel_rfl) (by omega) (by omega) (by omega) (by omega)) fun a H => ?_
  refine H.u 53 (.string (bstr ((payTo l j) ++ ((l.drop (64 * j + 5)).take ((64 * j + 5 + n) - (64 * j + 5)))))) (ex_sadd (by kernel_rfl) (by kernel_rfl) (by first | omega | (have hpt := hpl; rw [hpay] at *; simp only [List.length_take, List.length_drop]; omega))) fun a H => ?_
  refine H.v 6 (.string (bstr ((payTo l j) ++ ((l.drop (64 * j + 5)).take ((64 * j + 5 + n) - (64 * j + 5)))))) fun a H => ?_
  refine wpList_nil (inb_normal (then_normal (w_region ?_)))
  refine H.v 34 (.int .i64 ((64 * j : Nat) : Int)) fun a H => ?_
  refine H.valE 35 (.int .i64 (IntKind.i64.wrap (((64 * j : Nat) : Int) + 64))) (.int .i64 ((64 * j + 64 : Nat) : Int)) (by kernel_rfl) (by kernel_rfl) ((by rw [wrap_ini64 _ (by omega)]; first | done | exact congrArg (Value.int .i64) (by omega))) fun a H => ?_
  refine H.v 7 (.int .i64 ((64 * j + 64 : Nat) : Int)) fun a H => ?_
  refine wpList_nil (then_normal ?_)
  have H := H.as 7 (.int .i64 ((64 * (j + 1) : Nat) : Int)) rfl (congrArg (Value.int .i64) (by omega))
  have H := H.as 6 (.string (bstr (payTo l (j + 1)))) rfl (congrArg (fun x => Value.string (bstr x)) (by rw [payTo_succ, hpay]))
  refine ⟨_, ?_, j + 1, rfl, H.keep (by kernel_rfl), HP, by omega, (by rw [payTo_succ, hpay, List.length_append, List.length_take, List.length_drop]; omega)⟩
  omega
 ·have g33p := of_decide_eq_false g33
  refine wp_exit (then_exit (then_exit ?_))
  refine w_exit_here ?_
  refine then_normal (wp_seq (wp_seq ?_))
  have hjN : j = N := by omega
  have hps : payTo l j = s := by rw [hjN]; exact hstr
  have H := H.as 6 (.string (bstr s)) rfl (by rw [hps])
  have H := H.keep (L' := [(6, (.string (bstr s))), (1, (.string (bstr l))), (2, (.pointer (some ⟨b_1, 0, none⟩))), (4, (.pointer (some ⟨b_3, 0, none⟩)))]) (by kernel_rfl)
  refine w_region ?_
  refine H.v 54 (.string (bstr s)) fun a H => ?_
  refine H.v 55 (.int .i64 ((s.length : Nat) : Int)) fun a H => ?_
  refine H.valE 56 (.bool (decide (((s.length : Nat) : Int) < 5))) (.bool false) (by kernel_rfl) (by kernel_rfl) ((congrArg Value.bool (decide_eq_false (by omega)))) fun a H => ?_
  refine wpList_nil (then_normal ?_)
  refine w_iff H rfl ?_
  refine wp_skip (then_normal (wp_seq (w_region ?_)))
  refine H.v 58 (.string (bstr s)) fun a H => ?_
  refine H.v 59 (.agg #[(.string (bstr s)), (.int .i64 5), (.bool false)]) fun a H => ?_
  refine H.alloc HP 60 (fun b => (.pointer (some ⟨b, 0, none⟩))) 82 [(.string (bstr s)), (.int .i64 5), (.bool false)] (by kernel_rfl) (fun w => by kernel_rfl) fun b_6 w_7 a H HP => ?_
  refine H.v 9 (.pointer (some ⟨b_6, 0, none⟩)) fun a H => ?_
  refine wpList_nil ?_
  have HP : Hp w w_7 [bx b_6 82 (rdCells s (5, false)) true, bx b_3 28 [(.int .i64 0), (.int .i64 0), (.int .i64 0), (.int .i64 0), (.int .i64 0), (.bool false), (.string (bstr ([]))), (.int .i64 0), (.int .i64 0), (.string (bstr ([]))), (.int .i64 0), (.int .i64 0), (.slice none 0 0)] true, bx b_1 23 [(.int .i64 rn), (.int .i64 rd)] true] [] := by exact HP
  refine then_normal (wp_seq (w_region ?_))
  refine H.v 61 (.agg #[(.int .i64 0), (.int .i64 0), (.int .i64 0), (.int .i64 0), (.int .i64 0), (.bool false), (.string (bstr ([]))), (.int .i64 0), (.int .i64 0), (.string (bstr ([]))), (.int .i64 0), (.int .i64 0), (.slice none 0 0)]) fun a H => ?_
  refine H.alloc HP 10 (fun b => (.pointer (some ⟨b, 0, none⟩))) 28 [(.int .i64 0), (.int .i64 0), (.int .i64 0), (.int .i64 0), (.int .i64 0), (.bool false), (.string (bstr ([]))), (.int .i64 0), (.int .i64 0), (.string (bstr ([]))), (.int .i64 0), (.int .i64 0), (.slice none 0 0)] (by kernel_rfl) (fun w => by kernel_rfl) fun b_8 w_9 a H HP => ?_
  refine H.store HP 0 b_8 0 13 28 _ true (.agg #[(.int .i64 0), (.int .i64 0), (.int .i64 0), (.int .i64 0), (.int .i64 0), (.bool false), (.string (bstr ([]))), (.int .i64 0), (.int .i64 0), (.string (bstr ([]))), (.int .i64 0), (.int .i64 0), (.slice none 0 0)]) [bx b_8 28 [(.int .i64 0), (.int .i64 0), (.int .i64 0), (.int .i64 0), (.int .i64 0), (.bool false), (.string (bstr ([]))), (.int .i64 0), (.int .i64 0), (.string (bstr ([]))), (.int .i64 0), (.int .i64 0), (.slice none 0 0)] true, bx b_6 82 (rdCells s (5, false)) true, bx b_3 28 [(.int .i64 0), (.int .i64 0), (.int .i64 0), (.int .i64 0), (.int .i64 0), (.bool false), (.string (bstr ([]))), (.int .i64 0), (.int .i64 0), (.string (bstr ([]))), (.int .i64 0), (.int .i64 0), (.slice none 0 0)] true, bx b_1 23 [(.int .i64 rn), (.int .i64 rd)] true] (by kernel_rfl) (by kernel_rfl) (by kernel_rfl) rfl (by kernel_rfl) (by kernel_rfl) (by kernel_rfl) (by kernel_rfl) (by kernel_rfl) fun w_10 a H HP => ?_
  refine wpList_nil (then_normal (wp_seq (w_region ?_)))
  refine H.v 62 (.pointer (some ⟨b_6, 0, none⟩)) fun a H => ?_
  refine H.call 63 (by kernel_rfl) (Eq.trans (by kernel_rfl : _ = (callFunc 44 #[(.pointer (some ⟨b_6, 0, none⟩))]).run Tryd.prog w_10) (Tryd.call44 _ _)) ((by have hh := inum_any b_6 s (5, false) w_10 (HP.at_ 1 rfl) hsl hk0; simp only [h1] at hh; exact hh)) ?_
  rintro e w_11 ⟨rfl, hbx, hgr⟩
  refine ⟨_, rfl, ?_⟩
  intro a H
  have HP := HP.changed 1 rfl (rdCells s (k1, false)) [bx b_8 28 [(.int .i64 0), (.int .i64 0), (.int .i64 0), (.int .i64 0), (.int .i64 0), (.bool false), (.string (bstr ([]))), (.int .i64 0), (.int .i64 0), (.string (bstr ([]))), (.int .i64 0), (.int .i64 0), (.slice none 0 0)] true, bx b_6 82 (rdCells s (k1, false)) true, bx b_3 28 [(.int .i64 0), (.int .i64 0), (.int .i64 0), (.int .i64 0), (.int .i64 0), (.bool false), (.string (bstr ([]))), (.int .i64 0), (.int .i64 0), (.string (bstr ([]))), (.int .i64 0), (.int .i64 0), (.slice none 0 0)] true, bx b_1 23 [(.int .i64 rn), (.int .i64 rd)] true] (by kernel_rfl) hgr hbx
  refine H.v 64 (.pointer (some ⟨b_8, 0, none⟩)) fun a H => ?_
  refine H.store HP 0 b_8 0 1 28 _ true (.int .i64 U.channel) [bx b_8 28 [(.int .i64 U.channel), (.int .i64 0), (.int .i64 0), (.int .i64 0), (.int .i64 0), (.bool false), (.string (bstr ([]))), (.int .i64 0), (.int .i64 0), (.string (bstr ([]))), (.int .i64 0), (.int .i64 0), (.slice none 0 0)] true, bx b_6 82 (rdCells s (k1, false)) true, bx b_3 28 [(.int .i64 0), (.int .i64 0), (.int .i64 0), (.int .i64 0), (.int .i64 0), (.bool false), (.string (bstr ([]))), (.int .i64 0), (.int .i64 0), (.string (bstr ([]))), (.int .i64 0), (.int .i64 0), (.slice none 0 0)] true, bx b_1 23 [(.int .i64 rn), (.int .i64 rd)] true] (by kernel_rfl) (by kernel_rfl) (by kernel_rfl) rfl (by kernel_rfl) (by kernel_rfl) (by kernel_rfl) (by kernel_rfl) (by kernel_rfl) fun w_12 a H HP => ?_
  refine wpList_nil (then_normal (wp_seq (w_region ?_)))
  refine H.v 65 (.pointer (some ⟨b_6, 0, none⟩)) fun a H => ?_
  refine H.call 66 (by kernel_rfl) (Eq.trans (by kernel_rfl : _ = (callFunc 44 #[(.pointer (some ⟨b_6, 0, none⟩))]).run Tryd.prog w_12) (Tryd.call44 _ _)) ((by have hh := inum_any b_6 s (k1, false) w_12 (HP.at_ 1 rfl) hsl hk1; simp only [h2] at hh; exact hh)) ?_
  rintro e w_13 ⟨rfl, hbx, hgr⟩
  refine ⟨_, rfl, ?_⟩
  intro a H
  have HP := HP.changed 1 rfl (rdCells s (k2, false)) [bx b_8 28 [(.int .i64 U.channel), (.int .i64 0), (.int .i64 0), (.int .i64 0), (.int .i64 0), (.bool false), (.string (bstr ([]))), (.int .i64 0), (.int .i64 0), (.string (bstr ([]))), (.int .i64 0), (.int .i64 0), (.slice none 0 0)] true, bx b_6 82 (rdCells s (k2, false)) true, bx b_3 28 [(.int .i64 0), (.int .i64 0), (.int .i64 0), (.int .i64 0), (.int .i64 0), (.bool false), (.string (bstr ([]))), (.int .i64 0), (.int .i64 0), (.string (bstr ([]))), (.int .i64 0), (.int .i64 0), (.slice none 0 0)] true, bx b_1 23 [(.int .i64 rn), (.int .i64 rd)] true] (by kernel_rfl) hgr hbx
  refine H.v 67 (.pointer (some ⟨b_8, 1, none⟩)) fun a H => ?_
  refine H.store HP 0 b_8 1 1 28 _ true (.int .i64 U.frame) [bx b_8 28 [(.int .i64 U.channel), (.int .i64 U.frame), (.int .i64 0), (.int .i64 0), (.int .i64 0), (.bool false), (.string (bstr ([]))), (.int .i64 0), (.int .i64 0), (.string (bstr ([]))), (.int .i64 0), (.int .i64 0), (.slice none 0 0)] true, bx b_6 82 (rdCells s (k2, false)) true, bx b_3 28 [(.int .i64 0), (.int .i64 0), (.int .i64 0), (.int .i64 0), (.int .i64 0), (.bool false), (.string (bstr ([]))), (.int .i64 0), (.int .i64 0), (.string (bstr ([]))), (.int .i64 0), (.int .i64 0), (.slice none 0 0)] true, bx b_1 23 [(.int .i64 rn), (.int .i64 rd)] true] (by kernel_rfl) (by kernel_rfl) (by kernel_rfl) rfl (by kernel_rfl) (by kernel_rfl) (by kernel_rfl) (by kernel_rfl) (by kernel_rfl) fun w_14 a H HP => ?_
  refine wpList_nil (then_normal (wp_seq (w_region ?_)))
  refine H.v 68 (.pointer (some ⟨b_6, 0, none⟩)) fun a H => ?_
  refine H.call 69 (by kernel_rfl) (Eq.trans (by kernel_rfl : _ = (callFunc 44 #[(.pointer (some ⟨b_6, 0, none⟩))]).run Tryd.prog w_14) (Tryd.call44 _ _)) ((by have hh := inum_any b_6 s (k2, false) w_14 (HP.at_ 1 rfl) hsl hk2; simp only [h3] at hh; exact hh)) ?_
  rintro e w_15 ⟨rfl, hbx, hgr⟩
  refine ⟨_, rfl, ?_⟩
  intro a H
  have HP := HP.changed 1 rfl (rdCells s (k3, false)) [bx b_8 28 [(.int .i64 U.channel), (.int .i64 U.frame), (.int .i64 0), (.int .i64 0), (.int .i64 0), (.bool false), (.string (bstr ([]))), (.int .i64 0), (.int .i64 0), (.string (bstr ([]))), (.int .i64 0), (.int .i64 0), (.slice none 0 0)] true, bx b_6 82 (rdCells s (k3, false)) true, bx b_3 28 [(.int .i64 0), (.int .i64 0), (.int .i64 0), (.int .i64 0), (.int .i64 0), (.bool false), (.string (bstr ([]))), (.int .i64 0), (.int .i64 0), (.string (bstr ([]))), (.int .i64 0), (.int .i64 0), (.slice none 0 0)] true, bx b_1 23 [(.int .i64 rn), (.int .i64 rd)] true] (by kernel_rfl) hgr hbx
  refine H.v 70 (.pointer (some ⟨b_8, 2, none⟩)) fun a H => ?_
  refine H.store HP 0 b_8 2 1 28 _ true (.int .i64 U.version) [bx b_8 28 [(.int .i64 U.channel), (.int .i64 U.frame), (.int .i64 U.version), (.int .i64 0), (.int .i64 0), (.bool false), (.string (bstr ([]))), (.int .i64 0), (.int .i64 0), (.string (bstr ([]))), (.int .i64 0), (.int .i64 0), (.slice none 0 0)] true, bx b_6 82 (rdCells s (k3, false)) true, bx b_3 28 [(.int .i64 0), (.int .i64 0), (.int .i64 0), (.int .i64 0), (.int .i64 0), (.bool false), (.string (bstr ([]))), (.int .i64 0), (.int .i64 0), (.string (bstr ([]))), (.int .i64 0), (.int .i64 0), (.slice none 0 0)] true, bx b_1 23 [(.int .i64 rn), (.int .i64 rd)] true] (by kernel_rfl) (by kernel_rfl) (by kernel_rfl) rfl (by kernel_rfl) (by kernel_rfl) (by kernel_rfl) (by kernel_rfl) (by kernel_rfl) fun w_16 a H HP => ?_
  refine wpList_nil (then_normal (wp_seq (w_region ?_)))
  refine H.v 71 (.pointer (some ⟨b_6, 0, none⟩)) fun a H => ?_
  refine H.call 72 (by kernel_rfl) (Eq.trans (by kernel_rfl : _ = (callFunc 44 #[(.pointer (some ⟨b_6, 0, none⟩))]).run Tryd.prog w_16) (Tryd.call44 _ _)) ((by have hh := inum_any b_6 s (k3, false) w_16 (HP.at_ 1 rfl) hsl hk3; simp only [h4] at hh; exact hh)) ?_
  rintro e w_17 ⟨rfl, hbx, hgr⟩
  refine ⟨_, rfl, ?_⟩
  intro a H
  have HP := HP.changed 1 rfl (rdCells s (k4, false)) [bx b_8 28 [(.int .i64 U.channel), (.int .i64 U.frame), (.int .i64 U.version), (.int .i64 0), (.int .i64 0), (.bool false), (.string (bstr ([]))), (.int .i64 0), (.int .i64 0), (.string (bstr ([]))), (.int .i64 0), (.int .i64 0), (.slice none 0 0)] true, bx b_6 82 (rdCells s (k4, false)) true, bx b_3 28 [(.int .i64 0), (.int .i64 0), (.int .i64 0), (.int .i64 0), (.int .i64 0), (.bool false), (.string (bstr ([]))), (.int .i64 0), (.int .i64 0), (.string (bstr ([]))), (.int .i64 0), (.int .i64 0), (.slice none 0 0)] true, bx b_1 23 [(.int .i64 rn), (.int .i64 rd)] true] (by kernel_rfl) hgr hbx
  refine H.v 73 (.pointer (some ⟨b_8, 3, none⟩)) fun a H => ?_
  refine H.store HP 0 b_8 3 1 28 _ true (.int .i64 U.item) [bx b_8 28 [(.int .i64 U.channel), (.int .i64 U.frame), (.int .i64 U.version), (.int .i64 U.item), (.int .i64 0), (.bool false), (.string (bstr ([]))), (.int .i64 0), (.int .i64 0), (.string (bstr ([]))), (.int .i64 0), (.int .i64 0), (.slice none 0 0)] true, bx b_6 82 (rdCells s (k4, false)) true, bx b_3 28 [(.int .i64 0), (.int .i64 0), (.int .i64 0), (.int .i64 0), (.int .i64 0), (.bool false), (.string (bstr ([]))), (.int .i64 0), (.int .i64 0), (.string (bstr ([]))), (.int .i64 0), (.int .i64 0), (.slice none 0 0)] true, bx b_1 23 [(.int .i64 rn), (.int .i64 rd)] true] (by kernel_rfl) (by kernel_rfl) (by kernel_rfl) rfl (by kernel_rfl) (by kernel_rfl) (by kernel_rfl) (by kernel_rfl) (by kernel_rfl) fun w_18 a H HP => ?_
  refine wpList_nil (then_normal (wp_seq (w_region ?_)))
  refine H.v 74 (.pointer (some ⟨b_6, 0, none⟩)) fun a H => ?_
  refine H.call 75 (by kernel_rfl) (Eq.trans (by kernel_rfl : _ = (callFunc 44 #[(.pointer (some ⟨b_6, 0, none⟩))]).run Tryd.prog w_18) (Tryd.call44 _ _)) ((by have hh := inum_any b_6 s (k4, false) w_18 (HP.at_ 1 rfl) hsl hk4; simp only [h5] at hh; exact hh)) ?_
  rintro e w_19 ⟨rfl, hbx, hgr⟩
  refine ⟨_, rfl, ?_⟩
  intro a H
  have HP := HP.changed 1 rfl (rdCells s (k5, false)) [bx b_8 28 [(.int .i64 U.channel), (.int .i64 U.frame), (.int .i64 U.version), (.int .i64 U.item), (.int .i64 0), (.bool false), (.string (bstr ([]))), (.int .i64 0), (.int .i64 0), (.string (bstr ([]))), (.int .i64 0), (.int .i64 0), (.slice none 0 0)] true, bx b_6 82 (rdCells s (k5, false)) true, bx b_3 28 [(.int .i64 0), (.int .i64 0), (.int .i64 0), (.int .i64 0), (.int .i64 0), (.bool false), (.string (bstr ([]))), (.int .i64 0), (.int .i64 0), (.string (bstr ([]))), (.int .i64 0), (.int .i64 0), (.slice none 0 0)] true, bx b_1 23 [(.int .i64 rn), (.int .i64 rd)] true] (by kernel_rfl) hgr hbx
  refine H.v 76 (.pointer (some ⟨b_8, 4, none⟩)) fun a H => ?_
  refine H.store HP 0 b_8 4 1 28 _ true (.int .i64 U.index) [bx b_8 28 [(.int .i64 U.channel), (.int .i64 U.frame), (.int .i64 U.version), (.int .i64 U.item), (.int .i64 U.index), (.bool false), (.string (bstr ([]))), (.int .i64 0), (.int .i64 0), (.string (bstr ([]))), (.int .i64 0), (.int .i64 0), (.slice none 0 0)] true, bx b_6 82 (rdCells s (k5, false)) true, bx b_3 28 [(.int .i64 0), (.int .i64 0), (.int .i64 0), (.int .i64 0), (.int .i64 0), (.bool false), (.string (bstr ([]))), (.int .i64 0), (.int .i64 0), (.string (bstr ([]))), (.int .i64 0), (.int .i64 0), (.slice none 0 0)] true, bx b_1 23 [(.int .i64 rn), (.int .i64 rd)] true] (by kernel_rfl) (by kernel_rfl) (by kernel_rfl) rfl (by kernel_rfl) (by kernel_rfl) (by kernel_rfl) (by kernel_rfl) (by kernel_rfl) fun w_20 a H HP => ?_
  refine wpList_nil (then_normal (wp_seq (w_region ?_)))
  refine H.v 77 (.pointer (some ⟨b_6, 0, none⟩)) fun a H => ?_
  refine H.call 78 (by kernel_rfl) (Eq.trans (by kernel_rfl : _ = (callFunc 44 #[(.pointer (some ⟨b_6, 0, none⟩))]).run Tryd.prog w_20) (Tryd.call44 _ _)) ((by have hh := inum_any b_6 s (k5, false) w_20 (HP.at_ 1 rfl) hsl hk5; simp only [h6] at hh; exact hh)) ?_
  rintro e w_21 ⟨rfl, hbx, hgr⟩
  refine ⟨_, rfl, ?_⟩
  intro a H
  have HP := HP.changed 1 rfl (rdCells s (k6, false)) [bx b_8 28 [(.int .i64 U.channel), (.int .i64 U.frame), (.int .i64 U.version), (.int .i64 U.item), (.int .i64 U.index), (.bool false), (.string (bstr ([]))), (.int .i64 0), (.int .i64 0), (.string (bstr ([]))), (.int .i64 0), (.int .i64 0), (.slice none 0 0)] true, bx b_6 82 (rdCells s (k6, false)) true, bx b_3 28 [(.int .i64 0), (.int .i64 0), (.int .i64 0), (.int .i64 0), (.int .i64 0), (.bool false), (.string (bstr ([]))), (.int .i64 0), (.int .i64 0), (.string (bstr ([]))), (.int .i64 0), (.int .i64 0), (.slice none 0 0)] true, bx b_1 23 [(.int .i64 rn), (.int .i64 rd)] true] (by kernel_rfl) hgr hbx
  refine H.valE 79 (.bool ((if U.key = true then 1 else 0 : Int) == 1)) (.bool U.key) (by kernel_rfl) (by kernel_rfl) ((congrArg Value.bool (by cases U.key <;> rfl))) fun a H => ?_
  refine H.v 80 (.pointer (some ⟨b_8, 5, none⟩)) fun a H => ?_
  refine H.store HP 0 b_8 5 1 28 _ true (.bool U.key) [bx b_8 28 [(.int .i64 U.channel), (.int .i64 U.frame), (.int .i64 U.version), (.int .i64 U.item), (.int .i64 U.index), (.bool U.key), (.string (bstr ([]))), (.int .i64 0), (.int .i64 0), (.string (bstr ([]))), (.int .i64 0), (.int .i64 0), (.slice none 0 0)] true, bx b_6 82 (rdCells s (k6, false)) true, bx b_3 28 [(.int .i64 0), (.int .i64 0), (.int .i64 0), (.int .i64 0), (.int .i64 0), (.bool false), (.string (bstr ([]))), (.int .i64 0), (.int .i64 0), (.string (bstr ([]))), (.int .i64 0), (.int .i64 0), (.slice none 0 0)] true, bx b_1 23 [(.int .i64 rn), (.int .i64 rd)] true] (by kernel_rfl) (by kernel_rfl) (by kernel_rfl) rfl (by kernel_rfl) (by kernel_rfl) (by kernel_rfl) (by kernel_rfl) (by kernel_rfl) fun w_22 a H HP => ?_
  refine wpList_nil (then_normal (wp_seq (w_region ?_)))
  refine H.v 81 (.pointer (some ⟨b_6, 0, none⟩)) fun a H => ?_
  refine H.call 82 (by kernel_rfl) (Eq.trans (by kernel_rfl : _ = (callFunc 45 #[(.pointer (some ⟨b_6, 0, none⟩))]).run Tryd.prog w_22) (Tryd.call45 _ _)) ((by have hh := itxt_any b_6 s (k6, false) w_22 (HP.at_ 1 rfl) hsl hk6; simp only [h7] at hh; exact hh)) ?_
  rintro e w_23 ⟨rfl, hbx, hgr⟩
  refine ⟨_, rfl, ?_⟩
  intro a H
  have HP := HP.changed 1 rfl (rdCells s (k7, false)) [bx b_8 28 [(.int .i64 U.channel), (.int .i64 U.frame), (.int .i64 U.version), (.int .i64 U.item), (.int .i64 U.index), (.bool U.key), (.string (bstr ([]))), (.int .i64 0), (.int .i64 0), (.string (bstr ([]))), (.int .i64 0), (.int .i64 0), (.slice none 0 0)] true, bx b_6 82 (rdCells s (k7, false)) true, bx b_3 28 [(.int .i64 0), (.int .i64 0), (.int .i64 0), (.int .i64 0), (.int .i64 0), (.bool false), (.string (bstr ([]))), (.int .i64 0), (.int .i64 0), (.string (bstr ([]))), (.int .i64 0), (.int .i64 0), (.slice none 0 0)] true, bx b_1 23 [(.int .i64 rn), (.int .i64 rd)] true] (by kernel_rfl) hgr hbx
  refine H.v 83 (.pointer (some ⟨b_8, 6, none⟩)) fun a H => ?_
  refine H.store HP 0 b_8 6 1 28 _ true (.string (bstr U.data)) [bx b_8 28 [(.int .i64 U.channel), (.int .i64 U.frame), (.int .i64 U.version), (.int .i64 U.item), (.int .i64 U.index), (.bool U.key), (.string (bstr U.data)), (.int .i64 0), (.int .i64 0), (.string (bstr ([]))), (.int .i64 0), (.int .i64 0), (.slice none 0 0)] true, bx b_6 82 (rdCells s (k7, false)) true, bx b_3 28 [(.int .i64 0), (.int .i64 0), (.int .i64 0), (.int .i64 0), (.int .i64 0), (.bool false), (.string (bstr ([]))), (.int .i64 0), (.int .i64 0), (.string (bstr ([]))), (.int .i64 0), (.int .i64 0), (.slice none 0 0)] true, bx b_1 23 [(.int .i64 rn), (.int .i64 rd)] true] (by kernel_rfl) (by kernel_rfl) (by kernel_rfl) rfl (by kernel_rfl) (by kernel_rfl) (by kernel_rfl) (by kernel_rfl) (by kernel_rfl) fun w_24 a H HP => ?_
  refine wpList_nil (then_normal (wp_seq (w_region ?_)))
  refine H.v 84 (.pointer (some ⟨b_6, 0, none⟩)) fun a H => ?_
  refine H.call 85 (by kernel_rfl) (Eq.trans (by kernel_rfl : _ = (callFunc 44 #[(.pointer (some ⟨b_6, 0, none⟩))]).run Tryd.prog w_24) (Tryd.call44 _ _)) ((by have hh := inum_any b_6 s (k7, false) w_24 (HP.at_ 1 rfl) hsl hk7; simp only [h8] at hh; exact hh)) ?_
  rintro e w_25 ⟨rfl, hbx, hgr⟩
  refine ⟨_, rfl, ?_⟩
  intro a H
  have HP := HP.changed 1 rfl (rdCells s (k8, false)) [bx b_8 28 [(.int .i64 U.channel), (.int .i64 U.frame), (.int .i64 U.version), (.int .i64 U.item), (.int .i64 U.index), (.bool U.key), (.string (bstr U.data)), (.int .i64 0), (.int .i64 0), (.string (bstr ([]))), (.int .i64 0), (.int .i64 0), (.slice none 0 0)] true, bx b_6 82 (rdCells s (k8, false)) true, bx b_3 28 [(.int .i64 0), (.int .i64 0), (.int .i64 0), (.int .i64 0), (.int .i64 0), (.bool false), (.string (bstr ([]))), (.int .i64 0), (.int .i64 0), (.string (bstr ([]))), (.int .i64 0), (.int .i64 0), (.slice none 0 0)] true, bx b_1 23 [(.int .i64 rn), (.int .i64 rd)] true] (by kernel_rfl) hgr hbx
  refine H.v 86 (.pointer (some ⟨b_8, 7, none⟩)) fun a H => ?_
  refine H.store HP 0 b_8 7 1 28 _ true (.int .i64 U.regions) [bx b_8 28 [(.int .i64 U.channel), (.int .i64 U.frame), (.int .i64 U.version), (.int .i64 U.item), (.int .i64 U.index), (.bool U.key), (.string (bstr U.data)), (.int .i64 U.regions), (.int .i64 0), (.string (bstr ([]))), (.int .i64 0), (.int .i64 0), (.slice none 0 0)] true, bx b_6 82 (rdCells s (k8, false)) true, bx b_3 28 [(.int .i64 0), (.int .i64 0), (.int .i64 0), (.int .i64 0), (.int .i64 0), (.bool false), (.string (bstr ([]))), (.int .i64 0), (.int .i64 0), (.string (bstr ([]))), (.int .i64 0), (.int .i64 0), (.slice none 0 0)] true, bx b_1 23 [(.int .i64 rn), (.int .i64 rd)] true] (by kernel_rfl) (by kernel_rfl) (by kernel_rfl) rfl (by kernel_rfl) (by kernel_rfl) (by kernel_rfl) (by kernel_rfl) (by kernel_rfl) fun w_26 a H HP => ?_
  refine wpList_nil (then_normal (wp_seq (w_region ?_)))
  refine H.v 87 (.pointer (some ⟨b_6, 0, none⟩)) fun a H => ?_
  refine H.call 88 (by kernel_rfl) (Eq.trans (by kernel_rfl : _ = (callFunc 44 #[(.pointer (some ⟨b_6, 0, none⟩))]).run Tryd.prog w_26) (Tryd.call44 _ _)) ((by have hh := inum_any b_6 s (k8, false) w_26 (HP.at_ 1 rfl) hsl hk8; simp only [h9] at hh; exact hh)) ?_
  rintro e w_27 ⟨rfl, hbx, hgr⟩
  refine ⟨_, rfl, ?_⟩
  intro a H
  have HP := HP.changed 1 rfl (rdCells s (k9, false)) [bx b_8 28 [(.int .i64 U.channel), (.int .i64 U.frame), (.int .i64 U.version), (.int .i64 U.item), (.int .i64 U.index), (.bool U.key), (.string (bstr U.data)), (.int .i64 U.regions), (.int .i64 0), (.string (bstr ([]))), (.int .i64 0), (.int .i64 0), (.slice none 0 0)] true, bx b_6 82 (rdCells s (k9, false)) true, bx b_3 28 [(.int .i64 0), (.int .i64 0), (.int .i64 0), (.int .i64 0), (.int .i64 0), (.bool false), (.string (bstr ([]))), (.int .i64 0), (.int .i64 0), (.string (bstr ([]))), (.int .i64 0), (.int .i64 0), (.slice none 0 0)] true, bx b_1 23 [(.int .i64 rn), (.int .i64 rd)] true] (by kernel_rfl) hgr hbx
  refine H.v 89 (.pointer (some ⟨b_8, 8, none⟩)) fun a H => ?_
  refine H.store HP 0 b_8 8 1 28 _ true (.int .i64 U.gain) [bx b_8 28 [(.int .i64 U.channel), (.int .i64 U.frame), (.int .i64 U.version), (.int .i64 U.item), (.int .i64 U.index), (.bool U.key), (.string (bstr U.data)), (.int .i64 U.regions), (.int .i64 U.gain), (.string (bstr ([]))), (.int .i64 0), (.int .i64 0), (.slice none 0 0)] true, bx b_6 82 (rdCells s (k9, false)) true, bx b_3 28 [(.int .i64 0), (.int .i64 0), (.int .i64 0), (.int .i64 0), (.int .i64 0), (.bool false), (.string (bstr ([]))), (.int .i64 0), (.int .i64 0), (.string (bstr ([]))), (.int .i64 0), (.int .i64 0), (.slice none 0 0)] true, bx b_1 23 [(.int .i64 rn), (.int .i64 rd)] true] (by kernel_rfl) (by kernel_rfl) (by kernel_rfl) rfl (by kernel_rfl) (by kernel_rfl) (by kernel_rfl) (by kernel_rfl) (by kernel_rfl) fun w_28 a H HP => ?_
  refine wpList_nil (then_normal (wp_seq (w_region ?_)))
  refine H.v 90 (.pointer (some ⟨b_6, 0, none⟩)) fun a H => ?_
  refine H.call 91 (by kernel_rfl) (Eq.trans (by kernel_rfl : _ = (callFunc 45 #[(.pointer (some ⟨b_6, 0, none⟩))]).run Tryd.prog w_28) (Tryd.call45 _ _)) ((by have hh := itxt_any b_6 s (k9, false) w_28 (HP.at_ 1 rfl) hsl hk9; simp only [h10] at hh; exact hh)) ?_
  rintro e w_29 ⟨rfl, hbx, hgr⟩
  refine ⟨_, rfl, ?_⟩
  intro a H
  have HP := HP.changed 1 rfl (rdCells s (k10, false)) [bx b_8 28 [(.int .i64 U.channel), (.int .i64 U.frame), (.int .i64 U.version), (.int .i64 U.item), (.int .i64 U.index), (.bool U.key), (.string (bstr U.data)), (.int .i64 U.regions), (.int .i64 U.gain), (.string (bstr ([]))), (.int .i64 0), (.int .i64 0), (.slice none 0 0)] true, bx b_6 82 (rdCells s (k10, false)) true, bx b_3 28 [(.int .i64 0), (.int .i64 0), (.int .i64 0), (.int .i64 0), (.int .i64 0), (.bool false), (.string (bstr ([]))), (.int .i64 0), (.int .i64 0), (.string (bstr ([]))), (.int .i64 0), (.int .i64 0), (.slice none 0 0)] true, bx b_1 23 [(.int .i64 rn), (.int .i64 rd)] true] (by kernel_rfl) hgr hbx
  refine H.v 92 (.pointer (some ⟨b_8, 9, none⟩)) fun a H => ?_
  refine H.store HP 0 b_8 9 1 28 _ true (.string (bstr U.caption)) [bx b_8 28 [(.int .i64 U.channel), (.int .i64 U.frame), (.int .i64 U.version), (.int .i64 U.item), (.int .i64 U.index), (.bool U.key), (.string (bstr U.data)), (.int .i64 U.regions), (.int .i64 U.gain), (.string (bstr U.caption)), (.int .i64 0), (.int .i64 0), (.slice none 0 0)] true, bx b_6 82 (rdCells s (k10, false)) true, bx b_3 28 [(.int .i64 0), (.int .i64 0), (.int .i64 0), (.int .i64 0), (.int .i64 0), (.bool false), (.string (bstr ([]))), (.int .i64 0), (.int .i64 0), (.string (bstr ([]))), (.int .i64 0), (.int .i64 0), (.slice none 0 0)] true, bx b_1 23 [(.int .i64 rn), (.int .i64 rd)] true] (by kernel_rfl) (by kernel_rfl) (by kernel_rfl) rfl (by kernel_rfl) (by kernel_rfl) (by kernel_rfl) (by kernel_rfl) (by kernel_rfl) fun w_30 a H HP => ?_
  refine wpList_nil (then_normal (wp_seq (w_region ?_)))
  refine H.v 94 (.pointer (some ⟨b_6, 0, none⟩)) fun a H => ?_
  refine H.call 95 (by kernel_rfl) (Eq.trans (by kernel_rfl : _ = (callFunc 45 #[(.pointer (some ⟨b_6, 0, none⟩))]).run Tryd.prog w_30) (Tryd.call45 _ _)) ((by have hh := itxt_any b_6 s (k10, false) w_30 (HP.at_ 1 rfl) hsl hk10; simp only [h11] at hh; exact hh)) ?_
  rintro e w_31 ⟨rfl, hbx, hgr⟩
  refine ⟨_, rfl, ?_⟩
  intro a H
  have HP := HP.changed 1 rfl (rdCells s (k11, false)) [bx b_8 28 [(.int .i64 U.channel), (.int .i64 U.frame), (.int .i64 U.version), (.int .i64 U.item), (.int .i64 U.index), (.bool U.key), (.string (bstr U.data)), (.int .i64 U.regions), (.int .i64 U.gain), (.string (bstr U.caption)), (.int .i64 0), (.int .i64 0), (.slice none 0 0)] true, bx b_6 82 (rdCells s (k11, false)) true, bx b_3 28 [(.int .i64 0), (.int .i64 0), (.int .i64 0), (.int .i64 0), (.int .i64 0), (.bool false), (.string (bstr ([]))), (.int .i64 0), (.int .i64 0), (.string (bstr ([]))), (.int .i64 0), (.int .i64 0), (.slice none 0 0)] true, bx b_1 23 [(.int .i64 rn), (.int .i64 rd)] true] (by kernel_rfl) hgr hbx
  have hszd := (HP.below (by kernel_rfl)).size
  refine H.call 96 (by kernel_rfl) (Eq.trans (by kernel_rfl : _ = (callFunc 46 #[(.string (bstr (encOpt U.os U.of U.al)))]).run Tryd.prog w_31) (Tryd.call46 _ _)) ((by have hh := rdecode_any (encOpt U.os U.of U.al) w_31 (by omega); rw [dec_enc hvo] at hh; exact hh)) ?_
  rintro e w_32 ⟨BB, cc, rfl, hal, hc1, hc2, hc3, hb, hfr⟩
  refine ⟨_, rfl, ?_⟩
  intro a H
  have HP := (HP.next hb).keepF ⟨rowFp U.al.length BB, fun w => IsAlts w BB U.al.length U.al⟩ hal (fun _ _ h hk hs => ⟨h.1, h.2.keep hk hs⟩) (fun j hj => row_sep HP hal.2 hfr hj)
  refine H.v 93 (.tuple #[(.agg #[(.int .i64 U.os), (.int .i64 U.of), (.slice BB U.al.length cc)]), (.int .i64 0)]) fun a H => ?_
  refine H.v 97 (.agg #[(.int .i64 U.os), (.int .i64 U.of), (.slice BB U.al.length cc)]) fun a H => ?_
  refine H.v 98 (.int .i64 0) fun a H => ?_
  refine H.alloc HP 11 (fun b => (.pointer (some ⟨b, 0, none⟩))) 26 [(.int .i64 0), (.int .i64 0), (.slice none 0 0)] (by kernel_rfl) (fun w => by kernel_rfl) fun b_33 w_34 a H HP => ?_
  refine H.store HP 0 b_33 0 3 26 _ true (.agg #[(.int .i64 U.os), (.int .i64 U.of), (.slice BB U.al.length cc)]) [bx b_33 26 [(.int .i64 U.os), (.int .i64 U.of), (.slice BB U.al.length cc)] true, bx b_8 28 [(.int .i64 U.channel), (.int .i64 U.frame), (.int .i64 U.version), (.int .i64 U.item), (.int .i64 U.index), (.bool U.key), (.string (bstr U.data)), (.int .i64 U.regions), (.int .i64 U.gain), (.string (bstr U.caption)), (.int .i64 0), (.int .i64 0), (.slice none 0 0)] true, bx b_6 82 (rdCells s (k11, false)) true, bx b_3 28 [(.int .i64 0), (.int .i64 0), (.int .i64 0), (.int .i64 0), (.int .i64 0), (.bool false), (.string (bstr ([]))), (.int .i64 0), (.int .i64 0), (.string (bstr ([]))), (.int .i64 0), (.int .i64 0), (.slice none 0 0)] true, bx b_1 23 [(.int .i64 rn), (.int .i64 rd)] true] (by kernel_rfl) (by kernel_rfl) (by kernel_rfl) rfl (by kernel_rfl) (by kernel_rfl) (by kernel_rfl) (by kernel_rfl) (by kernel_rfl) fun w_35 a H HP => ?_
  refine H.v 12 (.int .i64 0) fun a H => ?_
  refine wpList_nil (then_normal (wp_seq (wp_seq (w_region ?_))))
  refine H.v 99 (.pointer (some ⟨b_6, 0, none⟩)) fun a H => ?_
  refine H.v 100 (.pointer (some ⟨b_6, 0, none⟩)) fun a H => ?_
  refine H.v 101 (.pointer (some ⟨b_6, 2, none⟩)) fun a H => ?_
  refine H.u 102 (.bool false) (ex_load1 (by kernel_rfl) (by kernel_rfl) (v := .bool false) (HP.cell 2 rfl 2 rfl)) fun a H => ?_
  refine H.v 103 (.bool false) fun a H => ?_
  refine H.v 104 (.int .i64 0) fun a H => ?_
  refine H.v 105 (.bool false) fun a H => ?_
  refine H.v 106 (.bool false) fun a H => ?_
  refine wpList_nil (then_normal ?_)
  refine w_iff H rfl ?_
  refine wp_skip (then_normal (wp_seq (w_region ?_)))
  refine H.u 108 (.agg #[(.int .i64 U.os), (.int .i64 U.of), (.slice BB U.al.length cc)]) (ex_loadN (vs := [(.int .i64 U.os), (.int .i64 U.of), (.slice BB U.al.length cc)]) (by kernel_rfl) (by kernel_rfl) (by kernel_rfl) rfl (HP.cells 0 rfl 0 3 (by kernel_rfl))) fun a H => ?_
  refine H.v 109 (.pointer (some ⟨b_8, 10, none⟩)) fun a H => ?_
  refine H.store HP 1 b_8 10 3 28 _ true (.agg #[(.int .i64 U.os), (.int .i64 U.of), (.slice BB U.al.length cc)]) [bx b_33 26 [(.int .i64 U.os), (.int .i64 U.of), (.slice BB U.al.length cc)] true, bx b_8 28 (ul U BB cc) true, bx b_6 82 (rdCells s (k11, false)) true, bx b_3 28 [(.int .i64 0), (.int .i64 0), (.int .i64 0), (.int .i64 0), (.int .i64 0), (.bool false), (.string (bstr ([]))), (.int .i64 0), (.int .i64 0), (.string (bstr ([]))), (.int .i64 0), (.int .i64 0), (.slice none 0 0)] true, bx b_1 23 [(.int .i64 rn), (.int .i64 rd)] true] (by kernel_rfl) (by kernel_rfl) (by kernel_rfl) rfl (by kernel_rfl) (by kernel_rfl) (by kernel_rfl) (by kernel_rfl) (by kernel_rfl) fun w_36 a H HP => ?_
  refine wpList_nil (then_normal (wp_seq (w_region ?_)))
  refine H.u 111 (.agg #[(.int .i64 rn), (.int .i64 rd)]) (ex_loadN (vs := [(.int .i64 rn), (.int .i64 rd)]) (by kernel_rfl) (by kernel_rfl) (by kernel_rfl) rfl (HP.cells 4 rfl 0 2 (by kernel_rfl))) fun a H => ?_
  refine H.u 112 (.agg (ua U BB cc)) (ex_loadN (vs := (ul U BB cc)) (by kernel_rfl) (by kernel_rfl) (by kernel_rfl) rfl (HP.cells 1 rfl 0 13 (by kernel_rfl))) fun a H => ?_
  refine H.call 113 (by kernel_rfl) (Eq.trans (by kernel_rfl : _ = (callFunc 17 #[(.agg #[(.int .i64 rn), (.int .i64 rd)]), (.agg (ua U BB cc))]).run Tryd.prog w_36) (Tryd.call17 _ _)) ((by have hh := rpack_any rn rd ({ U with A := BB, c := cc } : Un) w_36 (HP.fact 0 rfl) hc1 hc2; rw [show packP rn rd ({ U with A := BB, c := cc } : Un) = some l from hpU] at hh; exact hh)) ?_
  rintro e w_37 ⟨rfl, hb⟩
  refine ⟨_, rfl, ?_⟩
  intro a H
  have HP := HP.next hb
  refine H.v 110 (.tuple #[(.string (bstr l)), (.int .i64 0)]) fun a H => ?_
  refine H.v 114 (.string (bstr l)) fun a H => ?_
  refine H.v 115 (.int .i64 0) fun a H => ?_
  refine H.v 13 (.string (bstr l)) fun a H => ?_
  refine H.v 14 (.int .i64 0) fun a H => ?_
  refine wpList_nil (then_normal (wp_seq (wp_seq (w_region ?_))))
  refine H.v 116 (.int .i64 0) fun a H => ?_
  refine H.v 117 (.bool false) fun a H => ?_
  refine H.v 118 (.bool false) fun a H => ?_
  refine H.v 119 (.string (bstr l)) fun a H => ?_
  refine H.v 120 (.string (bstr l)) fun a H => ?_
  refine H.valE 121 (.bool (!((bstr l).toList == (bstr l).toList))) (.bool false) (by kernel_rfl) (by kernel_rfl) ((congrArg Value.bool (by simp))) fun a H => ?_
  refine H.v 122 (.bool false) fun a H => ?_
  refine wpList_nil (then_normal ?_)
  refine w_iff H rfl ?_
  refine wp_skip (then_normal (wp_seq (w_region ?_)))
  refine H.u 124 (.agg (ua U BB cc)) (ex_loadN (vs := (ul U BB cc)) (by kernel_rfl) (by kernel_rfl) (by kernel_rfl) rfl (HP.cells 1 rfl 0 13 (by kernel_rfl))) fun a H => ?_
  refine H.store HP 3 b_3 0 13 28 _ true (.agg (ua U BB cc)) [bx b_33 26 [(.int .i64 U.os), (.int .i64 U.of), (.slice BB U.al.length cc)] true, bx b_8 28 (ul U BB cc) true, bx b_6 82 (rdCells s (k11, false)) true, bx b_3 28 (ul U BB cc) true, bx b_1 23 [(.int .i64 rn), (.int .i64 rd)] true] (by kernel_rfl) (by kernel_rfl) (by kernel_rfl) rfl (by kernel_rfl) (by kernel_rfl) (by kernel_rfl) (by kernel_rfl) (by kernel_rfl) fun w_38 a H HP => ?_
  refine H.v 5 (.int .i64 0) fun a H => ?_
  refine wpList_nil (then_normal (wp_ret ?_))
  refine H.ret2 (fn := Tryd.f23) Tryd.results23 (RV.cellN (vs := (ul U BB cc)) (b := b_3) (off := 0) (k := 13) (by kernel_rfl) (by kernel_rfl) (by kernel_rfl) rfl (HP.cells 3 rfl 0 13 (by kernel_rfl))) (RV.tmp_ (v := (.int .i64 0)) (by kernel_rfl)) ?_
  exact retUn_some hU BB cc rfl (HP.fact 0 rfl) hc1 hc2 hc3 (fun b off h => Nat.le_trans hszd (hfr b off h)) (HP.below (by kernel_rfl))
theorem runpack_any (rn rd : Int) (l : List UInt8) (w : World) (hl : l.length ≤ 1000000) :
  Calls Tryd.prog 23 #[.agg #[.int .i64 rn, .int .i64 rd], .string (bstr l)] w (RetUn (unpackP rn rd l) w) := by
 cases hU : unpackP rn rd l with
 | none => have := runpack_none rn rd l w hl hU; rw [hU] at this; exact this
 | some U =>
  have hb : bareU U = U := by
   have h1 := unpack_pack (pack_unpack hU)
   rw [hU] at h1
   exact (Option.some.inj h1).symm
  have := runpack_some rn rd l w hl U (by rw [← hb]; rfl) (by rw [← hb]; rfl) hU
  rw [hU] at this
  exact this

end Go.Proofs.YtgdjpaeclicdfaaDoor
