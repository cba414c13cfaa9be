/- Contract of transport.Unpack. -/
import Derived.Test.YtgdjpaeclicdfaaDoorTrI
namespace Go.Proofs.YtgdjpaeclicdfaaDoor
open Go.ChangeShapes Go.WideShapes Go.ChangeAt Go.RowKit Go.Shelf
set_option linter.unusedVariables false
set_option linter.unusedSimpArgs false

def zeroU : Un := ⟨0, 0, 0, 0, 0, false, [], 0, 0, [], 0, 0, none, 0, []⟩
theorem packV_eq (Z : Option (List UInt8)) : packV Z = .tuple #[.string (bstr (Z.getD [])), .int .i64 (if Z.isSome = true then 0 else 180)] := by cases Z <;> rfl
/-- What the reader reads behind the clock: the unit, whether something could not be read, and the code of the opt-out. -/
def readU (s : List UInt8) : Un × Bool × Int :=
 let a1 := rnum s (5, false)
 let a2 := rnum s a1.2
 let a3 := rnum s a2.2
 let a4 := rnum s a3.2
 let a5 := rnum s a4.2
 let a6 := rnum s a5.2
 let a7 := rtxt s a6.2
 let a8 := rnum s a7.2
 let a9 := rnum s a8.2
 let a10 := rtxt s a9.2
 let a11 := rtxt s a10.2
 let o := decP a11.1
 (⟨a1.1, a2.1, a3.1, a4.1, a5.1, a6.1 == 1, a7.1, a8.1, a9.1, a10.1, o.1.s, o.1.f, none, 0, o.1.al⟩, a11.2.2, o.2)
def unpackP (rn rd : Int) (l : List UInt8) : Option Un := match streamP l with
 | none => none
 | some s => if s.length < 5 then none else if (readU s).2.1 = true ∨ (readU s).2.2 ≠ 0 then none else if packP rn rd (readU s).1 = some l then some (readU s).1 else none
def RetUn (r : Option Un) (w : World) (e : Ending) (w' : World) : Prop := match r with
 | none => e = .returned (.tuple #[zeroU.val, .int .i64 180]) ∧ Below w.heap.size w w'
 | some u => ∃ B c, e = .returned (.tuple #[({ u with A := B, c := c } : Un).val, .int .i64 0]) ∧ IsAlts w' B u.al.length u.al ∧ u.al.length ≤ c ∧ c ≤ maxLen ∧ (B = none → c = 0) ∧ (∀ b off, B = some ⟨b, off, none⟩ → w.heap.size ≤ b) ∧ Below w.heap.size w w'
theorem retUn_none {r : Option Un} {w w' : World} {e : Ending} (hr : r = none) (he : e = .returned (.tuple #[zeroU.val, .int .i64 180])) (hb : Below w.heap.size w w') : RetUn r w e w' := by subst hr; exact ⟨he, hb⟩
theorem retUn_some {r : Option Un} {w w' : World} {e : Ending} {u : Un} (hr : r = some u) (B : Option Addr) (c : Nat) (he : e = .returned (.tuple #[({ u with A := B, c := c } : Un).val, .int .i64 0])) (h1 : IsAlts w' B u.al.length u.al) (h2 : u.al.length ≤ c) (h3 : c ≤ maxLen) (h4 : B = none → c = 0) (h5 : ∀ b off, B = some ⟨b, off, none⟩ → w.heap.size ≤ b) (hb : Below w.heap.size w w') : RetUn r w e w' := by
 subst hr; exact ⟨B, c, he, h1, h2, h3, h4, h5, hb⟩
theorem unpack_nos {rn rd : Int} {l : List UInt8} (hX : streamP l = none) : unpackP rn rd l = none := by unfold unpackP; rw [hX]
theorem unpack_short {rn rd : Int} {l s : List UInt8} (hX : streamP l = some s) (h : ¬ 5 ≤ s.length) : unpackP rn rd l = none := by unfold unpackP; rw [hX]; simp only; rw [if_pos (by omega)]
theorem unpack_bad {rn rd : Int} {l s : List UInt8} {u : Un} {q : Bool} {c : Int} (hX : streamP l = some s) (hR : readU s = (u, q, c)) (h : q = true ∨ c ≠ 0) : unpackP rn rd l = none := by
 unfold unpackP; rw [hX]; simp only [hR]; rw [if_pos h, ite_self]
theorem unpack_diff {rn rd : Int} {l s : List UInt8} {u : Un} {q : Bool} {c : Int} (hX : streamP l = some s) (hR : readU s = (u, q, c)) (h : packP rn rd u ≠ some l) : unpackP rn rd l = none := by
 unfold unpackP; rw [hX]; simp only [hR]; rw [if_neg h, ite_self, ite_self]
theorem unpack_ok {rn rd : Int} {l s : List UInt8} {u : Un} {q : Bool} {c : Int} (hX : streamP l = some s) (hR : readU s = (u, q, c)) (h5 : 5 ≤ s.length) (hq : q = false) (hc : c = 0) (h : packP rn rd u = some l) : unpackP rn rd l = some u := by
 unfold unpackP; rw [hX]; simp only [hR]; rw [if_neg (by omega), if_neg (by simp [hq, hc]), if_pos h]
theorem stream_len {l s : List UInt8} (h : streamP l = some s) (hl : l.length ≤ 1000000) : s.length ≤ 9000000000000000000 := by
 unfold streamP at h
 split at h
 ·cases h
 ·next hc =>
  cases h
  have := payTo_len (l := l) (j := l.length / 64) (by simpa using fun hh => hc (.inr (.inr hh)))
  omega
theorem rnum_le {s : List UInt8} {q : Nat × Bool} (h : q.1 ≤ s.length) : (rnum s q).2.1 ≤ s.length := by
 unfold rnum
 split
 ·exact h
 ·cases hr : rdInt s q.1 with
  | none => exact h
  | some p => exact (rdInt_le h hr).2
theorem rtxt_le {s : List UInt8} {q : Nat × Bool} (h : q.1 ≤ s.length) : (rtxt s q).2.1 ≤ s.length := by
 unfold rtxt
 split
 ·exact h
 ·cases hr : rdStr s q.1 with
  | none => exact h
  | some p =>
   unfold rdStr at hr
   cases hi : rdInt s q.1 with
   | none => rw [hi] at hr; cases hr
   | some x =>
    rw [hi] at hr
    simp only at hr
    split at hr
    ·cases hr
    ·cases hr; simp only; omega
theorem rtxt_len {s : List UInt8} {q : Nat × Bool} : (rtxt s q).1.length ≤ s.length := by
 unfold rtxt
 split
 ·exact Nat.zero_le _
 ·cases hr : rdStr s q.1 with
  | none => exact Nat.zero_le _
  | some p =>
   unfold rdStr at hr
   cases hi : rdInt s q.1 with
   | none => rw [hi] at hr; cases hr
   | some x =>
    rw [hi] at hr
    simp only at hr
    split at hr
    ·cases hr
    ·cases hr; simp only [List.length_take, List.length_drop]; omega
set_option maxRecDepth 100000 in
set_option maxHeartbeats 4000000 in
theorem unpack_none (rn rd : Int) (l : List UInt8) (w : World) (hL : Laid w) (hl : l.length ≤ 1000000) (hX : streamP l = none) :
  Calls Tryd.prog 22 #[.agg #[.int .i64 rn, .int .i64 rd], .string (bstr l)] w (RetUn (unpackP rn rd l) w) := by
 have HP := Hp.start w
 refine w_enter 78 [(0, (.agg #[(.int .i64 rn), (.int .i64 rd)])), (1, (.string (bstr l)))] Tryd.func22 rfl Tryd.ntmps22 (by kernel_rfl) (by kernel_rfl) fun a H => ?_
 refine wp_seq (w_region ?_)
 refine H.alloc HP 2 (fun b => (.pointer (some ⟨b, 0, none⟩))) 23 [(.int .i64 rn), (.int .i64 rd)] (by kernel_rfl) (fun w => by kernel_rfl) fun b_1 w_2 a H HP => ?_
 refine H.alloc HP 4 (fun b => (.pointer (some ⟨b, 0, none⟩))) 28 [(.int .i64 0), (.int .i64 0), (.int .i64 0), (.int .i64 0), (.int .i64 0), (.bool false), (.string (bstr ([]))), (.int .i64 0), (.int .i64 0), (.string (bstr ([]))), (.int .i64 0), (.int .i64 0), (.slice none 0 0)] (by kernel_rfl) (fun w => by kernel_rfl) fun b_3 w_4 a H HP => ?_
 refine H.v 5 (.int .i64 0) fun a H => ?_
 refine wpList_nil (then_normal (wp_seq (w_region ?_)))
 refine H.v 14 (.string (bstr l)) fun a H => ?_
 refine H.call 15 (by kernel_rfl) (Eq.trans (by kernel_rfl : _ = (callFunc 40 #[(.string (bstr l))]).run Tryd.prog w_4) (Tryd.call40 _ _)) ((by have hh := stream_any l w_4 hl; rw [hX] at hh; exact hh)) ?_
 rintro e w_5 ⟨rfl, hb⟩
 refine ⟨_, rfl, ?_⟩
 intro a H
 have HP := HP.next hb
 refine H.v 13 (.tuple #[(.string (bstr ([]))), (.bool false)]) fun a H => ?_
 refine H.v 16 (.string (bstr ([]))) fun a H => ?_
 refine H.v 17 (.bool false) fun a H => ?_
 refine H.v 6 (.string (bstr ([]))) fun a H => ?_
 refine H.v 7 (.bool false) fun a H => ?_
 refine wpList_nil (then_normal (wp_seq (wp_seq (w_region ?_))))
 refine H.v 18 (.bool false) fun a H => ?_
 refine H.v 19 (.bool true) fun a H => ?_
 refine H.v 20 (.bool true) fun a H => ?_
 refine H.s 21 fun a H => ?_
 refine H.s 22 fun a H => ?_
 refine H.s 23 fun a H => ?_
 refine H.v 24 (.bool true) fun a H => ?_
 refine wpList_nil (then_normal ?_)
 refine w_ift H rfl ?_
 refine wp_seq (w_region ?_)
 refine H.v 25 (.agg #[(.int .i64 0), (.int .i64 0), (.int .i64 0), (.int .i64 0), (.int .i64 0), (.bool false), (.string (bstr ([]))), (.int .i64 0), (.int .i64 0), (.string (bstr ([]))), (.int .i64 0), (.int .i64 0), (.slice none 0 0)]) fun a H => ?_
 refine H.store HP 0 b_3 0 13 28 _ true (.agg #[(.int .i64 0), (.int .i64 0), (.int .i64 0), (.int .i64 0), (.int .i64 0), (.bool false), (.string (bstr ([]))), (.int .i64 0), (.int .i64 0), (.string (bstr ([]))), (.int .i64 0), (.int .i64 0), (.slice none 0 0)]) [bx b_3 28 [(.int .i64 0), (.int .i64 0), (.int .i64 0), (.int .i64 0), (.int .i64 0), (.bool false), (.string (bstr ([]))), (.int .i64 0), (.int .i64 0), (.string (bstr ([]))), (.int .i64 0), (.int .i64 0), (.slice none 0 0)] true, bx b_1 23 [(.int .i64 rn), (.int .i64 rd)] true] (by kernel_rfl) (by kernel_rfl) (by kernel_rfl) rfl (by kernel_rfl) (by kernel_rfl) (by kernel_rfl) (by kernel_rfl) (by kernel_rfl) fun w_6 a H HP => ?_
 refine H.v 5 (.int .i64 180) fun a H => ?_
 refine wpList_nil (then_normal (wp_ret (then_ret ?_)))
 refine H.ret2 (fn := Tryd.f22) Tryd.results22 (RV.cellN (vs := [(.int .i64 0), (.int .i64 0), (.int .i64 0), (.int .i64 0), (.int .i64 0), (.bool false), (.string (bstr ([]))), (.int .i64 0), (.int .i64 0), (.string (bstr ([]))), (.int .i64 0), (.int .i64 0), (.slice none 0 0)]) (b := b_3) (off := 0) (k := 13) (by kernel_rfl) (by kernel_rfl) (by kernel_rfl) rfl (HP.cells 0 rfl 0 13 (by kernel_rfl))) (RV.tmp_ (v := (.int .i64 180)) (by kernel_rfl)) ?_
 exact retUn_none (unpack_nos hX) rfl (HP.below (by kernel_rfl))
set_option maxRecDepth 100000 in
set_option maxHeartbeats 4000000 in
theorem unpack_short1 (rn rd : Int) (l : List UInt8) (w : World) (hL : Laid w) (hl : l.length ≤ 1000000) (s : List UInt8) (hX : streamP l = some s) (hs5 : ¬ 5 ≤ s.length) :
  Calls Tryd.prog 22 #[.agg #[.int .i64 rn, .int .i64 rd], .string (bstr l)] w (RetUn (unpackP rn rd l) w) := by
 have HP := Hp.start w
 refine w_enter 78 [(0, (.agg #[(.int .i64 rn), (.int .i64 rd)])), (1, (.string (bstr l)))] Tryd.func22 rfl Tryd.ntmps22 (by kernel_rfl) (by kernel_rfl) fun a H => ?_
 refine wp_seq (w_region ?_)
 refine H.alloc HP 2 (fun b => (.pointer (some ⟨b, 0, none⟩))) 23 [(.int .i64 rn), (.int .i64 rd)] (by kernel_rfl) (fun w => by kernel_rfl) fun b_1 w_2 a H HP => ?_
 refine H.alloc HP 4 (fun b => (.pointer (some ⟨b, 0, none⟩))) 28 [(.int .i64 0), (.int .i64 0), (.int .i64 0), (.int .i64 0), (.int .i64 0), (.bool false), (.string (bstr ([]))), (.int .i64 0), (.int .i64 0), (.string (bstr ([]))), (.int .i64 0), (.int .i64 0), (.slice none 0 0)] (by kernel_rfl) (fun w => by kernel_rfl) fun b_3 w_4 a H HP => ?_
 refine H.v 5 (.int .i64 0) fun a H => ?_
 refine wpList_nil (then_normal (wp_seq (w_region ?_)))
 refine H.v 14 (.string (bstr l)) fun a H => ?_
 refine H.call 15 (by kernel_rfl) (Eq.trans (by kernel_rfl : _ = (callFunc 40 #[(.string (bstr l))]).run Tryd.prog w_4) (Tryd.call40 _ _)) ((by have hh := stream_any l w_4 hl; rw [hX] at hh; exact hh)) ?_
 rintro e w_5 ⟨rfl, hb⟩
 refine ⟨_, rfl, ?_⟩
 intro a H
 have HP := HP.next hb
 refine H.v 13 (.tuple #[(.string (bstr s)), (.bool true)]) fun a H => ?_
 refine H.v 16 (.string (bstr s)) fun a H => ?_
 refine H.v 17 (.bool true) fun a H => ?_
 refine H.v 6 (.string (bstr s)) fun a H => ?_
 refine H.v 7 (.bool true) fun a H => ?_
 refine wpList_nil (then_normal (wp_seq (wp_seq (w_region ?_))))
 refine H.v 18 (.bool true) fun a H => ?_
 refine H.v 19 (.bool false) fun a H => ?_
 refine H.v 20 (.bool false) fun a H => ?_
 refine H.v 21 (.string (bstr s)) fun a H => ?_
 refine H.v 22 (.int .i64 ((s.length : Nat) : Int)) fun a H => ?_
 refine H.valE 23 (.bool (decide (((s.length : Nat) : Int) < 5))) (.bool true) (by kernel_rfl) (by kernel_rfl) (congrArg Value.bool (decide_eq_true (by omega))) fun a H => ?_
 refine H.v 24 (.bool true) fun a H => ?_
 refine wpList_nil (then_normal ?_)
 refine w_ift H rfl ?_
 refine wp_seq (w_region ?_)
 refine H.v 25 (.agg #[(.int .i64 0), (.int .i64 0), (.int .i64 0), (.int .i64 0), (.int .i64 0), (.bool false), (.string (bstr ([]))), (.int .i64 0), (.int .i64 0), (.string (bstr ([]))), (.int .i64 0), (.int .i64 0), (.slice none 0 0)]) fun a H => ?_
 refine H.store HP 0 b_3 0 13 28 _ true (.agg #[(.int .i64 0), (.int .i64 0), (.int .i64 0), (.int .i64 0), (.int .i64 0), (.bool false), (.string (bstr ([]))), (.int .i64 0), (.int .i64 0), (.string (bstr ([]))), (.int .i64 0), (.int .i64 0), (.slice none 0 0)]) [bx b_3 28 [(.int .i64 0), (.int .i64 0), (.int .i64 0), (.int .i64 0), (.int .i64 0), (.bool false), (.string (bstr ([]))), (.int .i64 0), (.int .i64 0), (.string (bstr ([]))), (.int .i64 0), (.int .i64 0), (.slice none 0 0)] true, bx b_1 23 [(.int .i64 rn), (.int .i64 rd)] true] (by kernel_rfl) (by kernel_rfl) (by kernel_rfl) rfl (by kernel_rfl) (by kernel_rfl) (by kernel_rfl) (by kernel_rfl) (by kernel_rfl) fun w_6 a H HP => ?_
 refine H.v 5 (.int .i64 180) fun a H => ?_
 refine wpList_nil (then_normal (wp_ret (then_ret ?_)))
 refine H.ret2 (fn := Tryd.f22) Tryd.results22 (RV.cellN (vs := [(.int .i64 0), (.int .i64 0), (.int .i64 0), (.int .i64 0), (.int .i64 0), (.bool false), (.string (bstr ([]))), (.int .i64 0), (.int .i64 0), (.string (bstr ([]))), (.int .i64 0), (.int .i64 0), (.slice none 0 0)]) (b := b_3) (off := 0) (k := 13) (by kernel_rfl) (by kernel_rfl) (by kernel_rfl) rfl (HP.cells 0 rfl 0 13 (by kernel_rfl))) (RV.tmp_ (v := (.int .i64 180)) (by kernel_rfl)) ?_
 exact retUn_none (unpack_short hX hs5) rfl (HP.below (by kernel_rfl))
set_option maxRecDepth 100000 in
set_option maxHeartbeats 4000000 in
theorem unpack_long (rn rd : Int) (l : List UInt8) (w : World) (hL : Laid w) (hl : l.length ≤ 1000000) (s : List UInt8) (hX : streamP l = some s) (hs5 : 5 ≤ s.length) :
  Calls Tryd.prog 22 #[.agg #[.int .i64 rn, .int .i64 rd], .string (bstr l)] w (RetUn (unpackP rn rd l) w) := by
 have HP := Hp.start w
 have hsl := stream_len hX hl
 obtain ⟨q0, hq0⟩ : ∃ q : Nat × Bool, q = (5, false) := ⟨_, rfl⟩
 have hk0 : q0.1 ≤ s.length := by rw [hq0]; exact hs5
 obtain ⟨n1, q1, h1⟩ : ∃ n q, rnum s q0 = (n, q) := ⟨_, _, rfl⟩
 have hk1 : q1.1 ≤ s.length := by have := rnum_le hk0; rw [h1] at this; exact this
 obtain ⟨n2, q2, h2⟩ : ∃ n q, rnum s q1 = (n, q) := ⟨_, _, rfl⟩
 have hk2 : q2.1 ≤ s.length := by have := rnum_le hk1; rw [h2] at this; exact this
 obtain ⟨n3, q3, h3⟩ : ∃ n q, rnum s q2 = (n, q) := ⟨_, _, rfl⟩
 have hk3 : q3.1 ≤ s.length := by have := rnum_le hk2; rw [h3] at this; exact this
 obtain ⟨n4, q4, h4⟩ : ∃ n q, rnum s q3 = (n, q) := ⟨_, _, rfl⟩
 have hk4 : q4.1 ≤ s.length := by have := rnum_le hk3; rw [h4] at this; exact this
 obtain ⟨n5, q5, h5⟩ : ∃ n q, rnum s q4 = (n, q) := ⟨_, _, rfl⟩
 have hk5 : q5.1 ≤ s.length := by have := rnum_le hk4; rw [h5] at this; exact this
 obtain ⟨n6, q6, h6⟩ : ∃ n q, rnum s q5 = (n, q) := ⟨_, _, rfl⟩
 have hk6 : q6.1 ≤ s.length := by have := rnum_le hk5; rw [h6] at this; exact this
 obtain ⟨n7, q7, h7⟩ : ∃ n q, rtxt s q6 = (n, q) := ⟨_, _, rfl⟩
 have hk7 : q7.1 ≤ s.length := by have := rtxt_le hk6; rw [h7] at this; exact this
 obtain ⟨n8, q8, h8⟩ : ∃ n q, rnum s q7 = (n, q) := ⟨_, _, rfl⟩
 have hk8 : q8.1 ≤ s.length := by have := rnum_le hk7; rw [h8] at this; exact this
 obtain ⟨n9, q9, h9⟩ : ∃ n q, rnum s q8 = (n, q) := ⟨_, _, rfl⟩
 have hk9 : q9.1 ≤ s.length := by have := rnum_le hk8; rw [h9] at this; exact this
 obtain ⟨n10, q10, h10⟩ : ∃ n q, rtxt s q9 = (n, q) := ⟨_, _, rfl⟩
 have hk10 : q10.1 ≤ s.length := by have := rtxt_le hk9; rw [h10] at this; exact this
 obtain ⟨n11, q11, h11⟩ : ∃ n q, rtxt s q10 = (n, q) := ⟨_, _, rfl⟩
 have hk11 : q11.1 ≤ s.length := by have := rtxt_le hk10; rw [h11] at this; exact this
 have hn11 : n11.length ≤ s.length := by have := rtxt_len (s := s) (q := q10); rw [h11] at this; exact this
 have hsz11 : (bstr n11).size ≤ 9000000000000000000 := by rw [bstr_size]; omega
 obtain ⟨o, code, ho⟩ : ∃ o c, decP n11 = (o, c) := ⟨_, _, rfl⟩
 obtain ⟨Z, hZ0⟩ : ∃ Z, packP rn rd (⟨n1, n2, n3, n4, n5, n6 == 1, n7, n8, n9, n10, o.s, o.f, none, 0, o.al⟩ : Un) = Z := ⟨_, rfl⟩
 have hZ : ∀ B c, packP rn rd (⟨n1, n2, n3, n4, n5, n6 == 1, n7, n8, n9, n10, o.s, o.f, B, c, o.al⟩ : Un) = Z := fun B c => hZ0
 have hRU : readU s = ((⟨n1, n2, n3, n4, n5, n6 == 1, n7, n8, n9, n10, o.s, o.f, none, 0, o.al⟩ : Un), q11.2, code) := by
  unfold readU
  simp only [← hq0, h1, h2, h3, h4, h5, h6, h7, h8, h9, h10, h11, ho]
 refine w_enter 78 [(0, (.agg #[(.int .i64 rn), (.int .i64 rd)])), (1, (.string (bstr l)))] Tryd.func22 rfl Tryd.ntmps22 (by kernel_rfl) (by kernel_rfl) fun a H => ?_
 refine wp_seq (w_region ?_)
 refine H.alloc HP 2 (fun b => (.pointer (some ⟨b, 0, none⟩))) 23 [(.int .i64 rn), (.int .i64 rd)] (by kernel_rfl) (fun w => by kernel_rfl) fun b_1 w_2 a H HP => ?_
 refine H.alloc HP 4 (fun b => (.pointer (some ⟨b, 0, none⟩))) 28 [(.int .i64 0), (.int .i64 0), (.int .i64 0), (.int .i64 0), (.int .i64 0), (.bool false), (.string (bstr ([]))), (.int .i64 0), (.int .i64 0), (.string (bstr ([]))), (.int .i64 0), (.int .i64 0), (.slice none 0 0)] (by kernel_rfl) (fun w => by kernel_rfl) fun b_3 w_4 a H HP => ?_
 refine H.v 5 (.int .i64 0) fun a H => ?_
 refine wpList_nil (then_normal (wp_seq (w_region ?_)))
 refine H.v 14 (.string (bstr l)) fun a H => ?_
 refine H.call 15 (by kernel_rfl) (Eq.trans (by kernel_rfl : _ = (callFunc 40 #[(.string (bstr l))]).run Tryd.prog w_4) (Tryd.call40 _ _)) ((by have hh := stream_any l w_4 hl; rw [hX] at hh; exact hh)) ?_
 rintro e w_5 ⟨rfl, hb⟩
 refine ⟨_, rfl, ?_⟩
 intro a H
 have HP := HP.next hb
 refine H.v 13 (.tuple #[(.string (bstr s)), (.bool true)]) fun a H => ?_
 refine H.v 16 (.string (bstr s)) fun a H => ?_
 refine H.v 17 (.bool true) fun a H => ?_
 refine H.v 6 (.string (bstr s)) fun a H => ?_
 refine H.v 7 (.bool true) fun a H => ?_
 refine wpList_nil (then_normal (wp_seq (wp_seq (w_region ?_))))
 refine H.v 18 (.bool true) fun a H => ?_
 refine H.v 19 (.bool false) fun a H => ?_
 refine H.v 20 (.bool false) fun a H => ?_
 refine H.v 21 (.string (bstr s)) fun a H => ?_
 refine H.v 22 (.int .i64 ((s.length : Nat) : Int)) fun a H => ?_
 refine H.valE 23 (.bool (decide (((s.length : Nat) : Int) < 5))) (.bool false) (by kernel_rfl) (by kernel_rfl) (congrArg Value.bool (decide_eq_false (by omega))) fun a H => ?_
 refine H.v 24 (.bool false) fun a H => ?_
 refine wpList_nil (then_normal ?_)
 refine w_iff H rfl ?_
 refine wp_skip (then_normal (wp_seq (w_region ?_)))
 refine H.v 26 (.string (bstr s)) fun a H => ?_
 refine H.v 27 (.agg #[(.string (bstr s)), (.int .i64 5), (.bool false)]) fun a H => ?_
 refine H.alloc HP 8 (fun b => (.pointer (some ⟨b, 0, none⟩))) 76 [(.string (bstr ([]))), (.int .i64 0), (.bool false)] (by kernel_rfl) (fun w => by kernel_rfl) fun b_6 w_7 a H HP => ?_
 refine H.store HP 0 b_6 0 3 76 _ true (.agg #[(.string (bstr s)), (.int .i64 5), (.bool false)]) [bx b_6 76 [(.string (bstr s)), (.int .i64 5), (.bool false)] true, bx b_3 28 [(.int .i64 0), (.int .i64 0), (.int .i64 0), (.int .i64 0), (.int .i64 0), (.bool false), (.string (bstr ([]))), (.int .i64 0), (.int .i64 0), (.string (bstr ([]))), (.int .i64 0), (.int .i64 0), (.slice none 0 0)] true, bx b_1 23 [(.int .i64 rn), (.int .i64 rd)] true] (by kernel_rfl) (by kernel_rfl) (by kernel_rfl) rfl (by kernel_rfl) (by kernel_rfl) (by kernel_rfl) (by kernel_rfl) (by kernel_rfl) fun w_8 a H HP => ?_
 refine wpList_nil (then_normal (wp_seq (w_region ?_)))
 refine H.alloc HP 9 (fun b => (.pointer (some ⟨b, 0, none⟩))) 28 [(.int .i64 0), (.int .i64 0), (.int .i64 0), (.int .i64 0), (.int .i64 0), (.bool false), (.string (bstr ([]))), (.int .i64 0), (.int .i64 0), (.string (bstr ([]))), (.int .i64 0), (.int .i64 0), (.slice none 0 0)] (by kernel_rfl) (fun w => by kernel_rfl) fun b_9 w_10 a H HP => ?_
 refine wpList_nil (then_normal (wp_seq ?_))
 have HP : Hp w w_10 [bx b_9 28 [(.int .i64 0), (.int .i64 0), (.int .i64 0), (.int .i64 0), (.int .i64 0), (.bool false), (.string (bstr ([]))), (.int .i64 0), (.int .i64 0), (.string (bstr ([]))), (.int .i64 0), (.int .i64 0), (.slice none 0 0)] true, bx b_6 76 (rdCells s q0) true, bx b_3 28 [(.int .i64 0), (.int .i64 0), (.int .i64 0), (.int .i64 0), (.int .i64 0), (.bool false), (.string (bstr ([]))), (.int .i64 0), (.int .i64 0), (.string (bstr ([]))), (.int .i64 0), (.int .i64 0), (.slice none 0 0)] true, bx b_1 23 [(.int .i64 rn), (.int .i64 rd)] true] [] := by rw [hq0]; exact HP
 refine w_region ?_
 refine H.call 28 (by kernel_rfl) (Eq.trans (by kernel_rfl : _ = (callFunc 41 #[(.pointer (some ⟨b_6, 0, none⟩))]).run Tryd.prog w_10) (Tryd.call41 _ _)) ((by have hh := num_any b_6 s q0 w_10 (HP.at_ 1 rfl) hsl hk0; simp only [h1] at hh; exact hh)) ?_
 rintro e w_11 ⟨rfl, hbx, hgr⟩
 refine ⟨_, rfl, ?_⟩
 intro a H
 have HP := HP.changed 1 rfl (rdCells s q1) [bx b_9 28 [(.int .i64 0), (.int .i64 0), (.int .i64 0), (.int .i64 0), (.int .i64 0), (.bool false), (.string (bstr ([]))), (.int .i64 0), (.int .i64 0), (.string (bstr ([]))), (.int .i64 0), (.int .i64 0), (.slice none 0 0)] true, bx b_6 76 (rdCells s q1) true, bx b_3 28 [(.int .i64 0), (.int .i64 0), (.int .i64 0), (.int .i64 0), (.int .i64 0), (.bool false), (.string (bstr ([]))), (.int .i64 0), (.int .i64 0), (.string (bstr ([]))), (.int .i64 0), (.int .i64 0), (.slice none 0 0)] true, bx b_1 23 [(.int .i64 rn), (.int .i64 rd)] true] (by kernel_rfl) hgr hbx
 refine H.v 29 (.pointer (some ⟨b_9, 0, none⟩)) fun a H => ?_
 refine H.store HP 0 b_9 0 1 28 _ true (.int .i64 n1) [bx b_9 28 [(.int .i64 n1), (.int .i64 0), (.int .i64 0), (.int .i64 0), (.int .i64 0), (.bool false), (.string (bstr ([]))), (.int .i64 0), (.int .i64 0), (.string (bstr ([]))), (.int .i64 0), (.int .i64 0), (.slice none 0 0)] true, bx b_6 76 (rdCells s q1) true, bx b_3 28 [(.int .i64 0), (.int .i64 0), (.int .i64 0), (.int .i64 0), (.int .i64 0), (.bool false), (.string (bstr ([]))), (.int .i64 0), (.int .i64 0), (.string (bstr ([]))), (.int .i64 0), (.int .i64 0), (.slice none 0 0)] true, bx b_1 23 [(.int .i64 rn), (.int .i64 rd)] true] (by kernel_rfl) (by kernel_rfl) (by kernel_rfl) rfl (by kernel_rfl) (by kernel_rfl) (by kernel_rfl) (by kernel_rfl) (by kernel_rfl) fun w_12 a H HP => ?_
 refine wpList_nil (then_normal (wp_seq (w_region ?_)))
 refine H.call 30 (by kernel_rfl) (Eq.trans (by kernel_rfl : _ = (callFunc 41 #[(.pointer (some ⟨b_6, 0, none⟩))]).run Tryd.prog w_12) (Tryd.call41 _ _)) ((by have hh := num_any b_6 s q1 w_12 (HP.at_ 1 rfl) hsl hk1; simp only [h2] at hh; exact hh)) ?_
 rintro e w_13 ⟨rfl, hbx, hgr⟩
 refine ⟨_, rfl, ?_⟩
 intro a H
 have HP := HP.changed 1 rfl (rdCells s q2) [bx b_9 28 [(.int .i64 n1), (.int .i64 0), (.int .i64 0), (.int .i64 0), (.int .i64 0), (.bool false), (.string (bstr ([]))), (.int .i64 0), (.int .i64 0), (.string (bstr ([]))), (.int .i64 0), (.int .i64 0), (.slice none 0 0)] true, bx b_6 76 (rdCells s q2) true, bx b_3 28 [(.int .i64 0), (.int .i64 0), (.int .i64 0), (.int .i64 0), (.int .i64 0), (.bool false), (.string (bstr ([]))), (.int .i64 0), (.int .i64 0), (.string (bstr ([]))), (.int .i64 0), (.int .i64 0), (.slice none 0 0)] true, bx b_1 23 [(.int .i64 rn), (.int .i64 rd)] true] (by kernel_rfl) hgr hbx
 refine H.v 31 (.pointer (some ⟨b_9, 1, none⟩)) fun a H => ?_
 refine H.store HP 0 b_9 1 1 28 _ true (.int .i64 n2) [bx b_9 28 [(.int .i64 n1), (.int .i64 n2), (.int .i64 0), (.int .i64 0), (.int .i64 0), (.bool false), (.string (bstr ([]))), (.int .i64 0), (.int .i64 0), (.string (bstr ([]))), (.int .i64 0), (.int .i64 0), (.slice none 0 0)] true, bx b_6 76 (rdCells s q2) true, bx b_3 28 [(.int .i64 0), (.int .i64 0), (.int .i64 0), (.int .i64 0), (.int .i64 0), (.bool false), (.string (bstr ([]))), (.int .i64 0), (.int .i64 0), (.string (bstr ([]))), (.int .i64 0), (.int .i64 0), (.slice none 0 0)] true, bx b_1 23 [(.int .i64 rn), (.int .i64 rd)] true] (by kernel_rfl) (by kernel_rfl) (by kernel_rfl) rfl (by kernel_rfl) (by kernel_rfl) (by kernel_rfl) (by kernel_rfl) (by kernel_rfl) fun w_14 a H HP => ?_
 refine wpList_nil (then_normal (wp_seq (w_region ?_)))
 refine H.call 32 (by kernel_rfl) (Eq.trans (by kernel_rfl : _ = (callFunc 41 #[(.pointer (some ⟨b_6, 0, none⟩))]).run Tryd.prog w_14) (Tryd.call41 _ _)) ((by have hh := num_any b_6 s q2 w_14 (HP.at_ 1 rfl) hsl hk2; simp only [h3] at hh; exact hh)) ?_
 rintro e w_15 ⟨rfl, hbx, hgr⟩
 refine ⟨_, rfl, ?_⟩
 intro a H
 have HP := HP.changed 1 rfl (rdCells s q3) [bx b_9 28 [(.int .i64 n1), (.int .i64 n2), (.int .i64 0), (.int .i64 0), (.int .i64 0), (.bool false), (.string (bstr ([]))), (.int .i64 0), (.int .i64 0), (.string (bstr ([]))), (.int .i64 0), (.int .i64 0), (.slice none 0 0)] true, bx b_6 76 (rdCells s q3) true, bx b_3 28 [(.int .i64 0), (.int .i64 0), (.int .i64 0), (.int .i64 0), (.int .i64 0), (.bool false), (.string (bstr ([]))), (.int .i64 0), (.int .i64 0), (.string (bstr ([]))), (.int .i64 0), (.int .i64 0), (.slice none 0 0)] true, bx b_1 23 [(.int .i64 rn), (.int .i64 rd)] true] (by kernel_rfl) hgr hbx
 refine H.v 33 (.pointer (some ⟨b_9, 2, none⟩)) fun a H => ?_
 refine H.store HP 0 b_9 2 1 28 _ true (.int .i64 n3) [bx b_9 28 [(.int .i64 n1), (.int .i64 n2), (.int .i64 n3), (.int .i64 0), (.int .i64 0), (.bool false), (.string (bstr ([]))), (.int .i64 0), (.int .i64 0), (.string (bstr ([]))), (.int .i64 0), (.int .i64 0), (.slice none 0 0)] true, bx b_6 76 (rdCells s q3) true, bx b_3 28 [(.int .i64 0), (.int .i64 0), (.int .i64 0), (.int .i64 0), (.int .i64 0), (.bool false), (.string (bstr ([]))), (.int .i64 0), (.int .i64 0), (.string (bstr ([]))), (.int .i64 0), (.int .i64 0), (.slice none 0 0)] true, bx b_1 23 [(.int .i64 rn), (.int .i64 rd)] true] (by kernel_rfl) (by kernel_rfl) (by kernel_rfl) rfl (by kernel_rfl) (by kernel_rfl) (by kernel_rfl) (by kernel_rfl) (by kernel_rfl) fun w_16 a H HP => ?_
 refine wpList_nil (then_normal (wp_seq (w_region ?_)))
 refine H.call 34 (by kernel_rfl) (Eq.trans (by kernel_rfl : _ = (callFunc 41 #[(.pointer (some ⟨b_6, 0, none⟩))]).run Tryd.prog w_16) (Tryd.call41 _ _)) ((by have hh := num_any b_6 s q3 w_16 (HP.at_ 1 rfl) hsl hk3; simp only [h4] at hh; exact hh)) ?_
 rintro e w_17 ⟨rfl, hbx, hgr⟩
 refine ⟨_, rfl, ?_⟩
 intro a H
 have HP := HP.changed 1 rfl (rdCells s q4) [bx b_9 28 [(.int .i64 n1), (.int .i64 n2), (.int .i64 n3), (.int .i64 0), (.int .i64 0), (.bool false), (.string (bstr ([]))), (.int .i64 0), (.int .i64 0), (.string (bstr ([]))), (.int .i64 0), (.int .i64 0), (.slice none 0 0)] true, bx b_6 76 (rdCells s q4) true, bx b_3 28 [(.int .i64 0), (.int .i64 0), (.int .i64 0), (.int .i64 0), (.int .i64 0), (.bool false), (.string (bstr ([]))), (.int .i64 0), (.int .i64 0), (.string (bstr ([]))), (.int .i64 0), (.int .i64 0), (.slice none 0 0)] true, bx b_1 23 [(.int .i64 rn), (.int .i64 rd)] true] (by kernel_rfl) hgr hbx
 refine H.v 35 (.pointer (some ⟨b_9, 3, none⟩)) fun a H => ?_
 refine H.store HP 0 b_9 3 1 28 _ true (.int .i64 n4) [bx b_9 28 [(.int .i64 n1), (.int .i64 n2), (.int .i64 n3), (.int .i64 n4), (.int .i64 0), (.bool false), (.string (bstr ([]))), (.int .i64 0), (.int .i64 0), (.string (bstr ([]))), (.int .i64 0), (.int .i64 0), (.slice none 0 0)] true, bx b_6 76 (rdCells s q4) true, bx b_3 28 [(.int .i64 0), (.int .i64 0), (.int .i64 0), (.int .i64 0), (.int .i64 0), (.bool false), (.string (bstr ([]))), (.int .i64 0), (.int .i64 0), (.string (bstr ([]))), (.int .i64 0), (.int .i64 0), (.slice none 0 0)] true, bx b_1 23 [(.int .i64 rn), (.int .i64 rd)] true] (by kernel_rfl) (by kernel_rfl) (by kernel_rfl) rfl (by kernel_rfl) (by kernel_rfl) (by kernel_rfl) (by kernel_rfl) (by kernel_rfl) fun w_18 a H HP => ?_
 refine wpList_nil (then_normal (wp_seq (w_region ?_)))
 refine H.call 36 (by kernel_rfl) (Eq.trans (by kernel_rfl : _ = (callFunc 41 #[(.pointer (some ⟨b_6, 0, none⟩))]).run Tryd.prog w_18) (Tryd.call41 _ _)) ((by have hh := num_any b_6 s q4 w_18 (HP.at_ 1 rfl) hsl hk4; simp only [h5] at hh; exact hh)) ?_
 rintro e w_19 ⟨rfl, hbx, hgr⟩
 refine ⟨_, rfl, ?_⟩
 intro a H
 have HP := HP.changed 1 rfl (rdCells s q5) [bx b_9 28 [(.int .i64 n1), (.int .i64 n2), (.int .i64 n3), (.int .i64 n4), (.int .i64 0), (.bool false), (.string (bstr ([]))), (.int .i64 0), (.int .i64 0), (.string (bstr ([]))), (.int .i64 0), (.int .i64 0), (.slice none 0 0)] true, bx b_6 76 (rdCells s q5) true, bx b_3 28 [(.int .i64 0), (.int .i64 0), (.int .i64 0), (.int .i64 0), (.int .i64 0), (.bool false), (.string (bstr ([]))), (.int .i64 0), (.int .i64 0), (.string (bstr ([]))), (.int .i64 0), (.int .i64 0), (.slice none 0 0)] true, bx b_1 23 [(.int .i64 rn), (.int .i64 rd)] true] (by kernel_rfl) hgr hbx
 refine H.v 37 (.pointer (some ⟨b_9, 4, none⟩)) fun a H => ?_
 refine H.store HP 0 b_9 4 1 28 _ true (.int .i64 n5) [bx b_9 28 [(.int .i64 n1), (.int .i64 n2), (.int .i64 n3), (.int .i64 n4), (.int .i64 n5), (.bool false), (.string (bstr ([]))), (.int .i64 0), (.int .i64 0), (.string (bstr ([]))), (.int .i64 0), (.int .i64 0), (.slice none 0 0)] true, bx b_6 76 (rdCells s q5) true, bx b_3 28 [(.int .i64 0), (.int .i64 0), (.int .i64 0), (.int .i64 0), (.int .i64 0), (.bool false), (.string (bstr ([]))), (.int .i64 0), (.int .i64 0), (.string (bstr ([]))), (.int .i64 0), (.int .i64 0), (.slice none 0 0)] true, bx b_1 23 [(.int .i64 rn), (.int .i64 rd)] true] (by kernel_rfl) (by kernel_rfl) (by kernel_rfl) rfl (by kernel_rfl) (by kernel_rfl) (by kernel_rfl) (by kernel_rfl) (by kernel_rfl) fun w_20 a H HP => ?_
 refine wpList_nil (then_normal (wp_seq (w_region ?_)))
 refine H.call 38 (by kernel_rfl) (Eq.trans (by kernel_rfl : _ = (callFunc 41 #[(.pointer (some ⟨b_6, 0, none⟩))]).run Tryd.prog w_20) (Tryd.call41 _ _)) ((by have hh := num_any b_6 s q5 w_20 (HP.at_ 1 rfl) hsl hk5; simp only [h6] at hh; exact hh)) ?_
 rintro e w_21 ⟨rfl, hbx, hgr⟩
 refine ⟨_, rfl, ?_⟩
 intro a H
 have HP := HP.changed 1 rfl (rdCells s q6) [bx b_9 28 [(.int .i64 n1), (.int .i64 n2), (.int .i64 n3), (.int .i64 n4), (.int .i64 n5), (.bool false), (.string (bstr ([]))), (.int .i64 0), (.int .i64 0), (.string (bstr ([]))), (.int .i64 0), (.int .i64 0), (.slice none 0 0)] true, bx b_6 76 (rdCells s q6) true, bx b_3 28 [(.int .i64 0), (.int .i64 0), (.int .i64 0), (.int .i64 0), (.int .i64 0), (.bool false), (.string (bstr ([]))), (.int .i64 0), (.int .i64 0), (.string (bstr ([]))), (.int .i64 0), (.int .i64 0), (.slice none 0 0)] true, bx b_1 23 [(.int .i64 rn), (.int .i64 rd)] true] (by kernel_rfl) hgr hbx
 refine H.v 39 (.bool (n6 == 1)) fun a H => ?_
 refine H.v 40 (.pointer (some ⟨b_9, 5, none⟩)) fun a H => ?_
 refine H.store HP 0 b_9 5 1 28 _ true (.bool (n6 == 1)) [bx b_9 28 [(.int .i64 n1), (.int .i64 n2), (.int .i64 n3), (.int .i64 n4), (.int .i64 n5), (.bool (n6 == 1)), (.string (bstr ([]))), (.int .i64 0), (.int .i64 0), (.string (bstr ([]))), (.int .i64 0), (.int .i64 0), (.slice none 0 0)] true, bx b_6 76 (rdCells s q6) true, bx b_3 28 [(.int .i64 0), (.int .i64 0), (.int .i64 0), (.int .i64 0), (.int .i64 0), (.bool false), (.string (bstr ([]))), (.int .i64 0), (.int .i64 0), (.string (bstr ([]))), (.int .i64 0), (.int .i64 0), (.slice none 0 0)] true, bx b_1 23 [(.int .i64 rn), (.int .i64 rd)] true] (by kernel_rfl) (by kernel_rfl) (by kernel_rfl) rfl (by kernel_rfl) (by kernel_rfl) (by kernel_rfl) (by kernel_rfl) (by kernel_rfl) fun w_22 a H HP => ?_
 refine wpList_nil (then_normal (wp_seq (w_region ?_)))
 refine H.call 41 (by kernel_rfl) (Eq.trans (by kernel_rfl : _ = (callFunc 42 #[(.pointer (some ⟨b_6, 0, none⟩))]).run Tryd.prog w_22) (Tryd.call42 _ _)) ((by have hh := txt_any b_6 s q6 w_22 (HP.at_ 1 rfl) hsl hk6; simp only [h7] at hh; exact hh)) ?_
 rintro e w_23 ⟨rfl, hbx, hgr⟩
 refine ⟨_, rfl, ?_⟩
 intro a H
 have HP := HP.changed 1 rfl (rdCells s q7) [bx b_9 28 [(.int .i64 n1), (.int .i64 n2), (.int .i64 n3), (.int .i64 n4), (.int .i64 n5), (.bool (n6 == 1)), (.string (bstr ([]))), (.int .i64 0), (.int .i64 0), (.string (bstr ([]))), (.int .i64 0), (.int .i64 0), (.slice none 0 0)] true, bx b_6 76 (rdCells s q7) true, bx b_3 28 [(.int .i64 0), (.int .i64 0), (.int .i64 0), (.int .i64 0), (.int .i64 0), (.bool false), (.string (bstr ([]))), (.int .i64 0), (.int .i64 0), (.string (bstr ([]))), (.int .i64 0), (.int .i64 0), (.slice none 0 0)] true, bx b_1 23 [(.int .i64 rn), (.int .i64 rd)] true] (by kernel_rfl) hgr hbx
 refine H.v 42 (.pointer (some ⟨b_9, 6, none⟩)) fun a H => ?_
 refine H.store HP 0 b_9 6 1 28 _ true (.string (bstr n7)) [bx b_9 28 [(.int .i64 n1), (.int .i64 n2), (.int .i64 n3), (.int .i64 n4), (.int .i64 n5), (.bool (n6 == 1)), (.string (bstr n7)), (.int .i64 0), (.int .i64 0), (.string (bstr ([]))), (.int .i64 0), (.int .i64 0), (.slice none 0 0)] true, bx b_6 76 (rdCells s q7) true, bx b_3 28 [(.int .i64 0), (.int .i64 0), (.int .i64 0), (.int .i64 0), (.int .i64 0), (.bool false), (.string (bstr ([]))), (.int .i64 0), (.int .i64 0), (.string (bstr ([]))), (.int .i64 0), (.int .i64 0), (.slice none 0 0)] true, bx b_1 23 [(.int .i64 rn), (.int .i64 rd)] true] (by kernel_rfl) (by kernel_rfl) (by kernel_rfl) rfl (by kernel_rfl) (by kernel_rfl) (by kernel_rfl) (by kernel_rfl) (by kernel_rfl) fun w_24 a H HP => ?_
 refine wpList_nil (then_normal (wp_seq (w_region ?_)))
 refine H.call 43 (by kernel_rfl) (Eq.trans (by kernel_rfl : _ = (callFunc 41 #[(.pointer (some ⟨b_6, 0, none⟩))]).run Tryd.prog w_24) (Tryd.call41 _ _)) ((by have hh := num_any b_6 s q7 w_24 (HP.at_ 1 rfl) hsl hk7; simp only [h8] at hh; exact hh)) ?_
 rintro e w_25 ⟨rfl, hbx, hgr⟩
 refine ⟨_, rfl, ?_⟩
 intro a H
 have HP := HP.changed 1 rfl (rdCells s q8) [bx b_9 28 [(.int .i64 n1), (.int .i64 n2), (.int .i64 n3), (.int .i64 n4), (.int .i64 n5), (.bool (n6 == 1)), (.string (bstr n7)), (.int .i64 0), (.int .i64 0), (.string (bstr ([]))), (.int .i64 0), (.int .i64 0), (.slice none 0 0)] true, bx b_6 76 (rdCells s q8) true, bx b_3 28 [(.int .i64 0), (.int .i64 0), (.int .i64 0), (.int .i64 0), (.int .i64 0), (.bool false), (.string (bstr ([]))), (.int .i64 0), (.int .i64 0), (.string (bstr ([]))), (.int .i64 0), (.int .i64 0), (.slice none 0 0)] true, bx b_1 23 [(.int .i64 rn), (.int .i64 rd)] true] (by kernel_rfl) hgr hbx
 refine H.v 44 (.pointer (some ⟨b_9, 7, none⟩)) fun a H => ?_
 refine H.store HP 0 b_9 7 1 28 _ true (.int .i64 n8) [bx b_9 28 [(.int .i64 n1), (.int .i64 n2), (.int .i64 n3), (.int .i64 n4), (.int .i64 n5), (.bool (n6 == 1)), (.string (bstr n7)), (.int .i64 n8), (.int .i64 0), (.string (bstr ([]))), (.int .i64 0), (.int .i64 0), (.slice none 0 0)] true, bx b_6 76 (rdCells s q8) true, bx b_3 28 [(.int .i64 0), (.int .i64 0), (.int .i64 0), (.int .i64 0), (.int .i64 0), (.bool false), (.string (bstr ([]))), (.int .i64 0), (.int .i64 0), (.string (bstr ([]))), (.int .i64 0), (.int .i64 0), (.slice none 0 0)] true, bx b_1 23 [(.int .i64 rn), (.int .i64 rd)] true] (by kernel_rfl) (by kernel_rfl) (by kernel_rfl) rfl (by kernel_rfl) (by kernel_rfl) (by kernel_rfl) (by kernel_rfl) (by kernel_rfl) fun w_26 a H HP => ?_
 refine wpList_nil (then_normal (wp_seq (w_region ?_)))
 refine H.call 45 (by kernel_rfl) (Eq.trans (by kernel_rfl : _ = (callFunc 41 #[(.pointer (some ⟨b_6, 0, none⟩))]).run Tryd.prog w_26) (Tryd.call41 _ _)) ((by have hh := num_any b_6 s q8 w_26 (HP.at_ 1 rfl) hsl hk8; simp only [h9] at hh; exact hh)) ?_
 rintro e w_27 ⟨rfl, hbx, hgr⟩
 refine ⟨_, rfl, ?_⟩
 intro a H
 have HP := HP.changed 1 rfl (rdCells s q9) [bx b_9 28 [(.int .i64 n1), (.int .i64 n2), (.int .i64 n3), (.int .i64 n4), (.int .i64 n5), (.bool (n6 == 1)), (.string (bstr n7)), (.int .i64 n8), (.int .i64 0), (.string (bstr ([]))), (.int .i64 0), (.int .i64 0), (.slice none 0 0)] true, bx b_6 76 (rdCells s q9) true, bx b_3 28 [(.int .i64 0), (.int .i64 0), (.int .i64 0), (.int .i64 0), (.int .i64 0), (.bool false), (.string (bstr ([]))), (.int .i64 0), (.int .i64 0), (.string (bstr ([]))), (.int .i64 0), (.int .i64 0), (.slice none 0 0)] true, bx b_1 23 [(.int .i64 rn), (.int .i64 rd)] true] (by kernel_rfl) hgr hbx
 refine H.v 46 (.pointer (some ⟨b_9, 8, none⟩)) fun a H => ?_
 refine H.store HP 0 b_9 8 1 28 _ true (.int .i64 n9) [bx b_9 28 [(.int .i64 n1), (.int .i64 n2), (.int .i64 n3), (.int .i64 n4), (.int .i64 n5), (.bool (n6 == 1)), (.string (bstr n7)), (.int .i64 n8), (.int .i64 n9), (.string (bstr ([]))), (.int .i64 0), (.int .i64 0), (.slice none 0 0)] true, bx b_6 76 (rdCells s q9) true, bx b_3 28 [(.int .i64 0), (.int .i64 0), (.int .i64 0), (.int .i64 0), (.int .i64 0), (.bool false), (.string (bstr ([]))), (.int .i64 0), (.int .i64 0), (.string (bstr ([]))), (.int .i64 0), (.int .i64 0), (.slice none 0 0)] true, bx b_1 23 [(.int .i64 rn), (.int .i64 rd)] true] (by kernel_rfl) (by kernel_rfl) (by kernel_rfl) rfl (by kernel_rfl) (by kernel_rfl) (by kernel_rfl) (by kernel_rfl) (by kernel_rfl) fun w_28 a H HP => ?_
 refine wpList_nil (then_normal (wp_seq (w_region ?_)))
 refine H.call 47 (by kernel_rfl) (Eq.trans (by kernel_rfl : _ = (callFunc 42 #[(.pointer (some ⟨b_6, 0, none⟩))]).run Tryd.prog w_28) (Tryd.call42 _ _)) ((by have hh := txt_any b_6 s q9 w_28 (HP.at_ 1 rfl) hsl hk9; simp only [h10] at hh; exact hh)) ?_
 rintro e w_29 ⟨rfl, hbx, hgr⟩
 refine ⟨_, rfl, ?_⟩
 intro a H
 have HP := HP.changed 1 rfl (rdCells s q10) [bx b_9 28 [(.int .i64 n1), (.int .i64 n2), (.int .i64 n3), (.int .i64 n4), (.int .i64 n5), (.bool (n6 == 1)), (.string (bstr n7)), (.int .i64 n8), (.int .i64 n9), (.string (bstr ([]))), (.int .i64 0), (.int .i64 0), (.slice none 0 0)] true, bx b_6 76 (rdCells s q10) true, bx b_3 28 [(.int .i64 0), (.int .i64 0), (.int .i64 0), (.int .i64 0), (.int .i64 0), (.bool false), (.string (bstr ([]))), (.int .i64 0), (.int .i64 0), (.string (bstr ([]))), (.int .i64 0), (.int .i64 0), (.slice none 0 0)] true, bx b_1 23 [(.int .i64 rn), (.int .i64 rd)] true] (by kernel_rfl) hgr hbx
 refine H.v 48 (.pointer (some ⟨b_9, 9, none⟩)) fun a H => ?_
 refine H.store HP 0 b_9 9 1 28 _ true (.string (bstr n10)) [bx b_9 28 [(.int .i64 n1), (.int .i64 n2), (.int .i64 n3), (.int .i64 n4), (.int .i64 n5), (.bool (n6 == 1)), (.string (bstr n7)), (.int .i64 n8), (.int .i64 n9), (.string (bstr n10)), (.int .i64 0), (.int .i64 0), (.slice none 0 0)] true, bx b_6 76 (rdCells s q10) true, bx b_3 28 [(.int .i64 0), (.int .i64 0), (.int .i64 0), (.int .i64 0), (.int .i64 0), (.bool false), (.string (bstr ([]))), (.int .i64 0), (.int .i64 0), (.string (bstr ([]))), (.int .i64 0), (.int .i64 0), (.slice none 0 0)] true, bx b_1 23 [(.int .i64 rn), (.int .i64 rd)] true] (by kernel_rfl) (by kernel_rfl) (by kernel_rfl) rfl (by kernel_rfl) (by kernel_rfl) (by kernel_rfl) (by kernel_rfl) (by kernel_rfl) fun w_30 a H HP => ?_
 refine wpList_nil (then_normal (wp_seq (w_region ?_)))
 refine H.call 50 (by kernel_rfl) (Eq.trans (by kernel_rfl : _ = (callFunc 42 #[(.pointer (some ⟨b_6, 0, none⟩))]).run Tryd.prog w_30) (Tryd.call42 _ _)) ((by have hh := txt_any b_6 s q10 w_30 (HP.at_ 1 rfl) hsl hk10; simp only [h11] at hh; exact hh)) ?_
 rintro e w_31 ⟨rfl, hbx, hgr⟩
 refine ⟨_, rfl, ?_⟩
 intro a H
 have HP := HP.changed 1 rfl (rdCells s q11) [bx b_9 28 [(.int .i64 n1), (.int .i64 n2), (.int .i64 n3), (.int .i64 n4), (.int .i64 n5), (.bool (n6 == 1)), (.string (bstr n7)), (.int .i64 n8), (.int .i64 n9), (.string (bstr n10)), (.int .i64 0), (.int .i64 0), (.slice none 0 0)] true, bx b_6 76 (rdCells s q11) true, bx b_3 28 [(.int .i64 0), (.int .i64 0), (.int .i64 0), (.int .i64 0), (.int .i64 0), (.bool false), (.string (bstr ([]))), (.int .i64 0), (.int .i64 0), (.string (bstr ([]))), (.int .i64 0), (.int .i64 0), (.slice none 0 0)] true, bx b_1 23 [(.int .i64 rn), (.int .i64 rd)] true] (by kernel_rfl) hgr hbx
 have hszd := (HP.below (by kernel_rfl)).size
 refine H.call 51 (by kernel_rfl) (Eq.trans (by kernel_rfl : _ = (callFunc 43 #[(.string (bstr n11))]).run Tryd.prog w_31) (Tryd.call43 _ _)) ((by have hh := decode_any (bstr n11) w_31 hsz11; rw [bstr_dataE, ho] at hh; exact hh)) ?_
 rintro e w_32 ⟨BB, cc, rfl, hal, hc1, hc2, hc3, hb, hfr⟩
 refine ⟨_, rfl, ?_⟩
 intro a H
 have HP := (HP.next hb).keepF ⟨rowFp o.al.length BB, fun w => IsAlts w BB o.al.length o.al⟩ hal (fun _ _ h hk hs => ⟨h.1, h.2.keep hk hs⟩) (fun j hj => row_sep HP hal.2 hfr hj)
 refine H.v 49 (.tuple #[(.agg #[(.int .i64 o.s), (.int .i64 o.f), (.slice BB o.al.length cc)]), (.int .i64 code)]) fun a H => ?_
 refine H.v 52 (.agg #[(.int .i64 o.s), (.int .i64 o.f), (.slice BB o.al.length cc)]) fun a H => ?_
 refine H.v 53 (.int .i64 code) fun a H => ?_
 refine H.alloc HP 10 (fun b => (.pointer (some ⟨b, 0, none⟩))) 26 [(.int .i64 0), (.int .i64 0), (.slice none 0 0)] (by kernel_rfl) (fun w => by kernel_rfl) fun b_33 w_34 a H HP => ?_
 refine H.store HP 0 b_33 0 3 26 _ true (.agg #[(.int .i64 o.s), (.int .i64 o.f), (.slice BB o.al.length cc)]) [bx b_33 26 [(.int .i64 o.s), (.int .i64 o.f), (.slice BB o.al.length cc)] true, bx b_9 28 [(.int .i64 n1), (.int .i64 n2), (.int .i64 n3), (.int .i64 n4), (.int .i64 n5), (.bool (n6 == 1)), (.string (bstr n7)), (.int .i64 n8), (.int .i64 n9), (.string (bstr n10)), (.int .i64 0), (.int .i64 0), (.slice none 0 0)] true, bx b_6 76 (rdCells s q11) true, bx b_3 28 [(.int .i64 0), (.int .i64 0), (.int .i64 0), (.int .i64 0), (.int .i64 0), (.bool false), (.string (bstr ([]))), (.int .i64 0), (.int .i64 0), (.string (bstr ([]))), (.int .i64 0), (.int .i64 0), (.slice none 0 0)] true, bx b_1 23 [(.int .i64 rn), (.int .i64 rd)] true] (by kernel_rfl) (by kernel_rfl) (by kernel_rfl) rfl (by kernel_rfl) (by kernel_rfl) (by kernel_rfl) (by kernel_rfl) (by kernel_rfl) fun w_35 a H HP => ?_
 refine H.v 11 (.int .i64 code) fun a H => ?_
 refine wpList_nil (then_normal (wp_seq (wp_seq (w_region ?_))))
 refine H.v 54 (.pointer (some ⟨b_6, 2, none⟩)) fun a H => ?_
 refine H.u 55 (.bool q11.2) (ex_load1 (by kernel_rfl) (by kernel_rfl) (v := .bool q11.2) (HP.cell 2 rfl 2 rfl)) fun a H => ?_
 refine H.v 56 (.bool q11.2) fun a H => ?_
 refine H.split 56 rfl (fun g56 H => ?_) (fun g56 H => ?_)
 ·have g56p := g56
  refine H.s 57 fun a H => ?_
  refine H.s 58 fun a H => ?_
  refine H.v 59 (.bool true) fun a H => ?_
  refine wpList_nil (then_normal ?_)
  refine w_ift H rfl ?_
  refine wp_seq (w_region ?_)
  refine H.v 60 (.agg #[(.int .i64 0), (.int .i64 0), (.int .i64 0), (.int .i64 0), (.int .i64 0), (.bool false), (.string (bstr ([]))), (.int .i64 0), (.int .i64 0), (.string (bstr ([]))), (.int .i64 0), (.int .i64 0), (.slice none 0 0)]) fun a H => ?_
  refine H.store HP 3 b_3 0 13 28 _ true (.agg #[(.int .i64 0), (.int .i64 0), (.int .i64 0), (.int .i64 0), (.int .i64 0), (.bool false), (.string (bstr ([]))), (.int .i64 0), (.int .i64 0), (.string (bstr ([]))), (.int .i64 0), (.int .i64 0), (.slice none 0 0)]) [bx b_33 26 [(.int .i64 o.s), (.int .i64 o.f), (.slice BB o.al.length cc)] true, bx b_9 28 [(.int .i64 n1), (.int .i64 n2), (.int .i64 n3), (.int .i64 n4), (.int .i64 n5), (.bool (n6 == 1)), (.string (bstr n7)), (.int .i64 n8), (.int .i64 n9), (.string (bstr n10)), (.int .i64 0), (.int .i64 0), (.slice none 0 0)] true, bx b_6 76 (rdCells s q11) true, bx b_3 28 [(.int .i64 0), (.int .i64 0), (.int .i64 0), (.int .i64 0), (.int .i64 0), (.bool false), (.string (bstr ([]))), (.int .i64 0), (.int .i64 0), (.string (bstr ([]))), (.int .i64 0), (.int .i64 0), (.slice none 0 0)] true, bx b_1 23 [(.int .i64 rn), (.int .i64 rd)] true] (by kernel_rfl) (by kernel_rfl) (by kernel_rfl) rfl (by kernel_rfl) (by kernel_rfl) (by kernel_rfl) (by kernel_rfl) (by kernel_rfl) fun w_36 a H HP => ?_
  refine H.v 5 (.int .i64 180) fun a H => ?_
  refine wpList_nil (then_normal (wp_ret (then_ret ?_)))
  refine H.ret2 (fn := Tryd.f22) Tryd.results22 (RV.cellN (vs := [(.int .i64 0), (.int .i64 0), (.int .i64 0), (.int .i64 0), (.int .i64 0), (.bool false), (.string (bstr ([]))), (.int .i64 0), (.int .i64 0), (.string (bstr ([]))), (.int .i64 0), (.int .i64 0), (.slice none 0 0)]) (b := b_3) (off := 0) (k := 13) (by kernel_rfl) (by kernel_rfl) (by kernel_rfl) rfl (HP.cells 3 rfl 0 13 (by kernel_rfl))) (RV.tmp_ (v := (.int .i64 180)) (by kernel_rfl)) ?_
  exact retUn_none (unpack_bad hX hRU (.inl g56p)) rfl (HP.below (by kernel_rfl))
 ·have g56p := g56
  refine H.v 57 (.int .i64 code) fun a H => ?_
  refine H.v 58 (.bool (code != 0)) fun a H => ?_
  refine H.v 59 (.bool (code != 0)) fun a H => ?_
  refine wpList_nil (then_normal ?_)
  refine w_if H rfl (fun g59 => ?_) (fun g59 => ?_)
  ·have g59p := bne_iff_ne.1 g59
   refine wp_seq (w_region ?_)
   refine H.v 60 (.agg #[(.int .i64 0), (.int .i64 0), (.int .i64 0), (.int .i64 0), (.int .i64 0), (.bool false), (.string (bstr ([]))), (.int .i64 0), (.int .i64 0), (.string (bstr ([]))), (.int .i64 0), (.int .i64 0), (.slice none 0 0)]) fun a H => ?_
   refine H.store HP 3 b_3 0 13 28 _ true (.agg #[(.int .i64 0), (.int .i64 0), (.int .i64 0), (.int .i64 0), (.int .i64 0), (.bool false), (.string (bstr ([]))), (.int .i64 0), (.int .i64 0), (.string (bstr ([]))), (.int .i64 0), (.int .i64 0), (.slice none 0 0)]) [bx b_33 26 [(.int .i64 o.s), (.int .i64 o.f), (.slice BB o.al.length cc)] true, bx b_9 28 [(.int .i64 n1), (.int .i64 n2), (.int .i64 n3), (.int .i64 n4), (.int .i64 n5), (.bool (n6 == 1)), (.string (bstr n7)), (.int .i64 n8), (.int .i64 n9), (.string (bstr n10)), (.int .i64 0), (.int .i64 0), (.slice none 0 0)] true, bx b_6 76 (rdCells s q11) true, bx b_3 28 [(.int .i64 0), (.int .i64 0), (.int .i64 0), (.int .i64 0), (.int .i64 0), (.bool false), (.string (bstr ([]))), (.int .i64 0), (.int .i64 0), (.string (bstr ([]))), (.int .i64 0), (.int .i64 0), (.slice none 0 0)] true, bx b_1 23 [(.int .i64 rn), (.int .i64 rd)] true] (by kernel_rfl) (by kernel_rfl) (by kernel_rfl) rfl (by kernel_rfl) (by kernel_rfl) (by kernel_rfl) (by kernel_rfl) (by kernel_rfl) fun w_37 a H HP => ?_
   refine H.v 5 (.int .i64 180) fun a H => ?_
   refine wpList_nil (then_normal (wp_ret (then_ret ?_)))
   refine H.ret2 (fn := Tryd.f22) Tryd.results22 (RV.cellN (vs := [(.int .i64 0), (.int .i64 0), (.int .i64 0), (.int .i64 0), (.int .i64 0), (.bool false), (.string (bstr ([]))), (.int .i64 0), (.int .i64 0), (.string (bstr ([]))), (.int .i64 0), (.int .i64 0), (.slice none 0 0)]) (b := b_3) (off := 0) (k := 13) (by kernel_rfl) (by kernel_rfl) (by kernel_rfl) rfl (HP.cells 3 rfl 0 13 (by kernel_rfl))) (RV.tmp_ (v := (.int .i64 180)) (by kernel_rfl)) ?_
   exact retUn_none (unpack_bad hX hRU (.inr g59p)) rfl (HP.below (by kernel_rfl))
  ·have g59p := eq_of_bne_false g59
   refine wp_skip (then_normal (wp_seq (w_region ?_)))
   refine H.u 61 (.agg #[(.int .i64 o.s), (.int .i64 o.f), (.slice BB o.al.length cc)]) (ex_loadN (vs := [(.int .i64 o.s), (.int .i64 o.f), (.slice BB o.al.length cc)]) (by kernel_rfl) (by kernel_rfl) (by kernel_rfl) rfl (HP.cells 0 rfl 0 3 (by kernel_rfl))) fun a H => ?_
   refine H.v 62 (.pointer (some ⟨b_9, 10, none⟩)) fun a H => ?_
   refine H.store HP 1 b_9 10 3 28 _ true (.agg #[(.int .i64 o.s), (.int .i64 o.f), (.slice BB o.al.length cc)]) [bx b_33 26 [(.int .i64 o.s), (.int .i64 o.f), (.slice BB o.al.length cc)] true, bx b_9 28 [(.int .i64 n1), (.int .i64 n2), (.int .i64 n3), (.int .i64 n4), (.int .i64 n5), (.bool (n6 == 1)), (.string (bstr n7)), (.int .i64 n8), (.int .i64 n9), (.string (bstr n10)), (.int .i64 o.s), (.int .i64 o.f), (.slice BB o.al.length cc)] true, bx b_6 76 (rdCells s q11) true, bx b_3 28 [(.int .i64 0), (.int .i64 0), (.int .i64 0), (.int .i64 0), (.int .i64 0), (.bool false), (.string (bstr ([]))), (.int .i64 0), (.int .i64 0), (.string (bstr ([]))), (.int .i64 0), (.int .i64 0), (.slice none 0 0)] true, bx b_1 23 [(.int .i64 rn), (.int .i64 rd)] true] (by kernel_rfl) (by kernel_rfl) (by kernel_rfl) rfl (by kernel_rfl) (by kernel_rfl) (by kernel_rfl) (by kernel_rfl) (by kernel_rfl) fun w_38 a H HP => ?_
   refine wpList_nil (then_normal (wp_seq (w_region ?_)))
   refine H.u 64 (.agg #[(.int .i64 rn), (.int .i64 rd)]) (ex_loadN (vs := [(.int .i64 rn), (.int .i64 rd)]) (by kernel_rfl) (by kernel_rfl) (by kernel_rfl) rfl (HP.cells 4 rfl 0 2 (by kernel_rfl))) fun a H => ?_
   refine H.u 65 (.agg #[(.int .i64 n1), (.int .i64 n2), (.int .i64 n3), (.int .i64 n4), (.int .i64 n5), (.bool (n6 == 1)), (.string (bstr n7)), (.int .i64 n8), (.int .i64 n9), (.string (bstr n10)), (.int .i64 o.s), (.int .i64 o.f), (.slice BB o.al.length cc)]) (ex_loadN (vs := [(.int .i64 n1), (.int .i64 n2), (.int .i64 n3), (.int .i64 n4), (.int .i64 n5), (.bool (n6 == 1)), (.string (bstr n7)), (.int .i64 n8), (.int .i64 n9), (.string (bstr n10)), (.int .i64 o.s), (.int .i64 o.f), (.slice BB o.al.length cc)]) (by kernel_rfl) (by kernel_rfl) (by kernel_rfl) rfl (HP.cells 1 rfl 0 13 (by kernel_rfl))) fun a H => ?_
   refine H.call 66 (by kernel_rfl) (Eq.trans (by kernel_rfl : _ = (callFunc 16 #[(.agg #[(.int .i64 rn), (.int .i64 rd)]), (.agg #[(.int .i64 n1), (.int .i64 n2), (.int .i64 n3), (.int .i64 n4), (.int .i64 n5), (.bool (n6 == 1)), (.string (bstr n7)), (.int .i64 n8), (.int .i64 n9), (.string (bstr n10)), (.int .i64 o.s), (.int .i64 o.f), (.slice BB o.al.length cc)])]).run Tryd.prog w_38) (Tryd.call16 _ _)) ((by have hh := pack_any rn rd (⟨n1, n2, n3, n4, n5, n6 == 1, n7, n8, n9, n10, o.s, o.f, BB, cc, o.al⟩ : Un) w_38 (hL.below (HP.below (by kernel_rfl))) (HP.fact 0 rfl) (Nat.le_trans hc1 hc2); rw [hZ BB cc, packV_eq] at hh; exact hh)) ?_
   rintro e w_39 ⟨rfl, hb⟩
   refine ⟨_, rfl, ?_⟩
   intro a H
   have HP := HP.next hb
   refine H.v 63 (.tuple #[(.string (bstr (Z.getD []))), (.int .i64 (if Z.isSome = true then 0 else 180 : Int))]) fun a H => ?_
   refine H.v 67 (.string (bstr (Z.getD []))) fun a H => ?_
   refine H.v 68 (.int .i64 (if Z.isSome = true then 0 else 180 : Int)) fun a H => ?_
   refine H.v 12 (.string (bstr (Z.getD []))) fun a H => ?_
   refine H.v 11 (.int .i64 (if Z.isSome = true then 0 else 180 : Int)) fun a H => ?_
   refine wpList_nil (then_normal (wp_seq (wp_seq (w_region ?_))))
   refine H.v 69 (.int .i64 (if Z.isSome = true then 0 else 180 : Int)) fun a H => ?_
   refine H.v 70 (.bool ((if Z.isSome = true then 0 else 180 : Int) != 0)) fun a H => ?_
   refine H.v 71 (.bool ((if Z.isSome = true then 0 else 180 : Int) != 0)) fun a H => ?_
   refine H.split 71 rfl (fun g71 H => ?_) (fun g71 H => ?_)
   ·have g71p := bne_iff_ne.1 g71
    refine H.s 72 fun a H => ?_
    refine H.s 73 fun a H => ?_
    refine H.s 74 fun a H => ?_
    refine H.v 75 (.bool true) fun a H => ?_
    refine wpList_nil (then_normal ?_)
    refine w_ift H rfl ?_
    refine wp_seq (w_region ?_)
    refine H.v 76 (.agg #[(.int .i64 0), (.int .i64 0), (.int .i64 0), (.int .i64 0), (.int .i64 0), (.bool false), (.string (bstr ([]))), (.int .i64 0), (.int .i64 0), (.string (bstr ([]))), (.int .i64 0), (.int .i64 0), (.slice none 0 0)]) fun a H => ?_
    refine H.store HP 3 b_3 0 13 28 _ true (.agg #[(.int .i64 0), (.int .i64 0), (.int .i64 0), (.int .i64 0), (.int .i64 0), (.bool false), (.string (bstr ([]))), (.int .i64 0), (.int .i64 0), (.string (bstr ([]))), (.int .i64 0), (.int .i64 0), (.slice none 0 0)]) [bx b_33 26 [(.int .i64 o.s), (.int .i64 o.f), (.slice BB o.al.length cc)] true, bx b_9 28 [(.int .i64 n1), (.int .i64 n2), (.int .i64 n3), (.int .i64 n4), (.int .i64 n5), (.bool (n6 == 1)), (.string (bstr n7)), (.int .i64 n8), (.int .i64 n9), (.string (bstr n10)), (.int .i64 o.s), (.int .i64 o.f), (.slice BB o.al.length cc)] true, bx b_6 76 (rdCells s q11) true, bx b_3 28 [(.int .i64 0), (.int .i64 0), (.int .i64 0), (.int .i64 0), (.int .i64 0), (.bool false), (.string (bstr ([]))), (.int .i64 0), (.int .i64 0), (.string (bstr ([]))), (.int .i64 0), (.int .i64 0), (.slice none 0 0)] true, bx b_1 23 [(.int .i64 rn), (.int .i64 rd)] true] (by kernel_rfl) (by kernel_rfl) (by kernel_rfl) rfl (by kernel_rfl) (by kernel_rfl) (by kernel_rfl) (by kernel_rfl) (by kernel_rfl) fun w_40 a H HP => ?_
    refine H.v 5 (.int .i64 180) fun a H => ?_
    refine wpList_nil (then_normal (wp_ret (then_ret ?_)))
    refine H.ret2 (fn := Tryd.f22) Tryd.results22 (RV.cellN (vs := [(.int .i64 0), (.int .i64 0), (.int .i64 0), (.int .i64 0), (.int .i64 0), (.bool false), (.string (bstr ([]))), (.int .i64 0), (.int .i64 0), (.string (bstr ([]))), (.int .i64 0), (.int .i64 0), (.slice none 0 0)]) (b := b_3) (off := 0) (k := 13) (by kernel_rfl) (by kernel_rfl) (by kernel_rfl) rfl (HP.cells 3 rfl 0 13 (by kernel_rfl))) (RV.tmp_ (v := (.int .i64 180)) (by kernel_rfl)) ?_
    exact retUn_none (unpack_diff hX hRU (fun h => by have hz := (hZ none 0).symm.trans h; subst hz; exact g71p rfl)) rfl (HP.below (by kernel_rfl))
   ·have g71p := eq_of_bne_false g71
    refine H.v 72 (.string (bstr (Z.getD []))) fun a H => ?_
    refine H.v 73 (.string (bstr l)) fun a H => ?_
    refine H.valE 74 (.bool (!((bstr (Z.getD [])).toList == (bstr l).toList))) (.bool (!((Z.getD []) == l))) (by kernel_rfl) (by kernel_rfl) ((congrArg (fun b => Value.bool (!b)) (bstr_eq _ _))) fun a H => ?_
    refine H.v 75 (.bool (!((Z.getD []) == l))) fun a H => ?_
    refine wpList_nil (then_normal ?_)
    refine w_if H rfl (fun g75 => ?_) (fun g75 => ?_)
    ·have g75p := not_is_true g75
     refine wp_seq (w_region ?_)
     refine H.v 76 (.agg #[(.int .i64 0), (.int .i64 0), (.int .i64 0), (.int .i64 0), (.int .i64 0), (.bool false), (.string (bstr ([]))), (.int .i64 0), (.int .i64 0), (.string (bstr ([]))), (.int .i64 0), (.int .i64 0), (.slice none 0 0)]) fun a H => ?_
     refine H.store HP 3 b_3 0 13 28 _ true (.agg #[(.int .i64 0), (.int .i64 0), (.int .i64 0), (.int .i64 0), (.int .i64 0), (.bool false), (.string (bstr ([]))), (.int .i64 0), (.int .i64 0), (.string (bstr ([]))), (.int .i64 0), (.int .i64 0), (.slice none 0 0)]) [bx b_33 26 [(.int .i64 o.s), (.int .i64 o.f), (.slice BB o.al.length cc)] true, bx b_9 28 [(.int .i64 n1), (.int .i64 n2), (.int .i64 n3), (.int .i64 n4), (.int .i64 n5), (.bool (n6 == 1)), (.string (bstr n7)), (.int .i64 n8), (.int .i64 n9), (.string (bstr n10)), (.int .i64 o.s), (.int .i64 o.f), (.slice BB o.al.length cc)] true, bx b_6 76 (rdCells s q11) true, bx b_3 28 [(.int .i64 0), (.int .i64 0), (.int .i64 0), (.int .i64 0), (.int .i64 0), (.bool false), (.string (bstr ([]))), (.int .i64 0), (.int .i64 0), (.string (bstr ([]))), (.int .i64 0), (.int .i64 0), (.slice none 0 0)] true, bx b_1 23 [(.int .i64 rn), (.int .i64 rd)] true] (by kernel_rfl) (by kernel_rfl) (by kernel_rfl) rfl (by kernel_rfl) (by kernel_rfl) (by kernel_rfl) (by kernel_rfl) (by kernel_rfl) fun w_41 a H HP => ?_
     refine H.v 5 (.int .i64 180) fun a H => ?_
     refine wpList_nil (then_normal (wp_ret (then_ret ?_)))
     refine H.ret2 (fn := Tryd.f22) Tryd.results22 (RV.cellN (vs := [(.int .i64 0), (.int .i64 0), (.int .i64 0), (.int .i64 0), (.int .i64 0), (.bool false), (.string (bstr ([]))), (.int .i64 0), (.int .i64 0), (.string (bstr ([]))), (.int .i64 0), (.int .i64 0), (.slice none 0 0)]) (b := b_3) (off := 0) (k := 13) (by kernel_rfl) (by kernel_rfl) (by kernel_rfl) rfl (HP.cells 3 rfl 0 13 (by kernel_rfl))) (RV.tmp_ (v := (.int .i64 180)) (by kernel_rfl)) ?_
     exact retUn_none (unpack_diff hX hRU (fun h => by have hz := (hZ none 0).symm.trans h; subst hz; simp at g75p)) rfl (HP.below (by kernel_rfl))
    ·have g75p := not_is_false g75
     refine wp_skip (then_normal (wp_seq (w_region ?_)))
     refine H.u 77 (.agg #[(.int .i64 n1), (.int .i64 n2), (.int .i64 n3), (.int .i64 n4), (.int .i64 n5), (.bool (n6 == 1)), (.string (bstr n7)), (.int .i64 n8), (.int .i64 n9), (.string (bstr n10)), (.int .i64 o.s), (.int .i64 o.f), (.slice BB o.al.length cc)]) (ex_loadN (vs := [(.int .i64 n1), (.int .i64 n2), (.int .i64 n3), (.int .i64 n4), (.int .i64 n5), (.bool (n6 == 1)), (.string (bstr n7)), (.int .i64 n8), (.int .i64 n9), (.string (bstr n10)), (.int .i64 o.s), (.int .i64 o.f), (.slice BB o.al.length cc)]) (by kernel_rfl) (by kernel_rfl) (by kernel_rfl) rfl (HP.cells 1 rfl 0 13 (by kernel_rfl))) fun a H => ?_
     refine H.store HP 3 b_3 0 13 28 _ true (.agg #[(.int .i64 n1), (.int .i64 n2), (.int .i64 n3), (.int .i64 n4), (.int .i64 n5), (.bool (n6 == 1)), (.string (bstr n7)), (.int .i64 n8), (.int .i64 n9), (.string (bstr n10)), (.int .i64 o.s), (.int .i64 o.f), (.slice BB o.al.length cc)]) [bx b_33 26 [(.int .i64 o.s), (.int .i64 o.f), (.slice BB o.al.length cc)] true, bx b_9 28 [(.int .i64 n1), (.int .i64 n2), (.int .i64 n3), (.int .i64 n4), (.int .i64 n5), (.bool (n6 == 1)), (.string (bstr n7)), (.int .i64 n8), (.int .i64 n9), (.string (bstr n10)), (.int .i64 o.s), (.int .i64 o.f), (.slice BB o.al.length cc)] true, bx b_6 76 (rdCells s q11) true, bx b_3 28 [(.int .i64 n1), (.int .i64 n2), (.int .i64 n3), (.int .i64 n4), (.int .i64 n5), (.bool (n6 == 1)), (.string (bstr n7)), (.int .i64 n8), (.int .i64 n9), (.string (bstr n10)), (.int .i64 o.s), (.int .i64 o.f), (.slice BB o.al.length cc)] true, bx b_1 23 [(.int .i64 rn), (.int .i64 rd)] true] (by kernel_rfl) (by kernel_rfl) (by kernel_rfl) rfl (by kernel_rfl) (by kernel_rfl) (by kernel_rfl) (by kernel_rfl) (by kernel_rfl) fun w_42 a H HP => ?_
     refine H.v 5 (.int .i64 0) fun a H => ?_
     refine wpList_nil (then_normal (wp_ret ?_))
     refine H.ret2 (fn := Tryd.f22) Tryd.results22 (RV.cellN (vs := [(.int .i64 n1), (.int .i64 n2), (.int .i64 n3), (.int .i64 n4), (.int .i64 n5), (.bool (n6 == 1)), (.string (bstr n7)), (.int .i64 n8), (.int .i64 n9), (.string (bstr n10)), (.int .i64 o.s), (.int .i64 o.f), (.slice BB o.al.length cc)]) (b := b_3) (off := 0) (k := 13) (by kernel_rfl) (by kernel_rfl) (by kernel_rfl) rfl (HP.cells 3 rfl 0 13 (by kernel_rfl))) (RV.tmp_ (v := (.int .i64 0)) (by kernel_rfl)) ?_
     have hZs : Z = some l := by
      cases Z with
      | none => exact absurd g71p (by decide)
      | some z => exact congrArg some (eq_of_beq g75p)
     exact retUn_some (unpack_ok hX hRU hs5 g56p g59p ((hZ none 0).trans hZs)) BB cc rfl (HP.fact 0 rfl) hc1 hc2 hc3 (fun b off h => Nat.le_trans hszd (hfr b off h)) (HP.below (by kernel_rfl))
theorem unpack_any (rn rd : Int) (l : List UInt8) (w : World) (hL : Laid w) (hl : l.length ≤ 1000000) :
  Calls Tryd.prog 22 #[.agg #[.int .i64 rn, .int .i64 rd], .string (bstr l)] w (RetUn (unpackP rn rd l) w) := by
 cases hX : streamP l with
 | none => exact unpack_none rn rd l w hL hl hX
 | some s =>
  by_cases hs5 : 5 ≤ s.length
  ·exact unpack_long rn rd l w hL hl s hX hs5
  ·exact unpack_short1 rn rd l w hL hl s hX hs5

end Go.Proofs.YtgdjpaeclicdfaaDoor
