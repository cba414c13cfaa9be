/- Contracts of transport: Same, stream, the reader. -/
import Derived.Test.YtgdjpaeclicdfaaDoorTrD
namespace Go.Proofs.YtgdjpaeclicdfaaDoor
open Go.ChangeShapes Go.WideShapes Go.ChangeAt Go.RowKit
set_option linter.unusedVariables false
set_option linter.unusedSimpArgs false

def sameU (u v : Un) : Bool := (u.channel == v.channel) && ((u.frame == v.frame) && ((u.version == v.version) && ((u.item == v.item) && ((u.index == v.index) && ((u.key == v.key) && ((u.data == v.data) && ((u.regions == v.regions) && ((u.gain == v.gain) && ((u.caption == v.caption) && sameP u.os u.of u.al v.os v.of v.al)))))))))
/-- The payload of packet i of a string. -/
def payN (l : List UInt8) (i : Nat) : Nat := (l.getD (64 * i + 4) 0).toNat
def payAt (l : List UInt8) (i : Nat) : List UInt8 := (l.drop (64 * i + 5)).take (payN l i)
def payOk (l : List UInt8) (j : Nat) : Bool := (List.range j).all fun i => decide (1 ≤ payN l i) && decide (payN l i ≤ 59)
def payTo (l : List UInt8) (j : Nat) : List UInt8 := (List.range j).flatMap (payAt l)
def streamP (l : List UInt8) : Option (List UInt8) := if l.length = 0 ∨ l.length % 64 ≠ 0 ∨ payOk l (l.length / 64) = false then none else some (payTo l (l.length / 64))
def strmV : Option (List UInt8) → Value
 | none => .tuple #[.string (bstr []), .bool false]
 | some x => .tuple #[.string (bstr x), .bool true]
theorem payTo_succ (l : List UInt8) (j : Nat) : payTo l (j + 1) = payTo l j ++ payAt l j := by simp [payTo, List.range_succ]
theorem payOk_succ {l : List UInt8} {j : Nat} (h : payOk l j = true) (hn : 1 ≤ payN l j ∧ payN l j ≤ 59) : payOk l (j + 1) = true := by
 unfold payOk at *
 rw [List.range_succ, List.all_append, h]
 simp [hn]
theorem payOk_bad {l : List UInt8} {j N : Nat} (hj : j < N) (hn : payN l j < 1 ∨ 59 < payN l j) : payOk l N = false := by
 unfold payOk
 rw [List.all_eq_false]
 refine ⟨j, List.mem_range.2 hj, ?_⟩
 simp
 omega
theorem payOk_at {l : List UInt8} {N j : Nat} (h : payOk l N = true) (hj : j < N) : 1 ≤ payN l j ∧ payN l j ≤ 59 := by
 unfold payOk at h
 rw [List.all_eq_true] at h
 have := h j (List.mem_range.2 hj)
 simpa using this
theorem payTo_len {l : List UInt8} : ∀ {j : Nat}, payOk l j = true → (payTo l j).length ≤ 59 * j
 | 0, _ => by simp [payTo]
 | j + 1, h => by
  have h0 : payOk l j = true := by
   unfold payOk at *
   rw [List.range_succ, List.all_append] at h
   simp only [Bool.and_eq_true] at h
   exact h.1
  have h1 := payOk_at h (Nat.lt_succ_self j)
  have := payTo_len h0
  rw [payTo_succ, List.length_append]
  unfold payAt
  rw [List.length_take]
  omega
theorem cut_getD {l : List UInt8} {a k m : Nat} (hk : k < m) (hl : a + k < l.length) {d : UInt8} : (((l.drop a).take (a + m - a)).getD k d) = l.getD (a + k) d := by
 rw [show a + m - a = m by omega]
 simp only [List.getD, List.getElem?_take, hk, if_true, List.getElem?_drop]
theorem cut_pay {l : List UInt8} {a n : Nat} (hn : n ≤ 59) (hl : a + 64 ≤ l.length) : (l.drop (a + 5)).take n = ((((l.drop a).take (a + 64 - a)).drop 5).take (5 + n - 5)) := by
 rw [show a + 64 - a = 64 by omega, show 5 + n - 5 = n by omega, List.drop_take, List.drop_drop, List.take_take, show min n (64 - 5) = n by omega]
theorem payTo_ge {l : List UInt8} : ∀ {j : Nat}, payOk l j = true → 64 * j ≤ l.length → j ≤ (payTo l j).length
 | 0, _, _ => by simp
 | j + 1, h, hl => by
  have h0 : payOk l j = true := by
   unfold payOk at *
   rw [List.range_succ, List.all_append] at h
   simp only [Bool.and_eq_true] at h
   exact h.1
  have h1 := payOk_at h (Nat.lt_succ_self j)
  have := payTo_ge h0 (by omega)
  rw [payTo_succ, List.length_append]
  unfold payAt
  rw [List.length_take, List.length_drop]
  omega
/-! ### The reader -/
def rdCells (s : List UInt8) (q : Nat × Bool) : List Value := [.string (bstr s), .int .i64 ((q.1 : Nat) : Int), .bool q.2]
def rnum (s : List UInt8) (q : Nat × Bool) : Int × (Nat × Bool) := if q.2 = true then (0, q) else match rdInt s q.1 with
 | none => (0, q.1, true)
 | some (n, e) => (n, e, false)
def rtxt (s : List UInt8) (q : Nat × Bool) : List UInt8 × (Nat × Bool) := if q.2 = true then ([], q) else match rdStr s q.1 with
 | none => ([], q.1, true)
 | some (t, e) => (t, e, false)
set_option maxRecDepth 100000 in
set_option maxHeartbeats 4000000 in
theorem usame_any (u v : Un) (w : World) (hu : IsAlts w u.A u.al.length u.al) (hv : IsAlts w v.A v.al.length v.al) (hm : u.al.length ≤ maxLen) :
  Calls Tryd.prog 20 #[u.val, v.val] w fun e w' => e = .returned (.bool (sameU u v)) ∧ Below w.heap.size w w' := by
 have HP := Hp.start w
 refine w_enter 80 [(0, (.agg (ua u u.A u.c))), (1, (.agg (ua v v.A v.c)))] Tryd.func20 rfl Tryd.ntmps20 (by kernel_rfl) (by kernel_rfl) fun a H => ?_
 refine wp_seq (w_region ?_)
 refine H.alloc HP 2 (fun b => (.pointer (some ⟨b, 0, none⟩))) 28 (ul u u.A u.c) (by kernel_rfl) (fun w => by kernel_rfl) fun b_1 w_2 a H HP => ?_
 refine H.alloc HP 3 (fun b => (.pointer (some ⟨b, 0, none⟩))) 28 (ul v v.A v.c) (by kernel_rfl) (fun w => by kernel_rfl) fun b_3 w_4 a H HP => ?_
 refine H.v 4 (.bool false) fun a H => ?_
 refine wpList_nil (then_normal (wp_seq (w_region ?_)))
 refine H.v 5 (.pointer (some ⟨b_1, 0, none⟩)) fun a H => ?_
 refine H.u 6 (.int .i64 u.channel) (ex_load1 (by kernel_rfl) (by kernel_rfl) (HP.cell 1 rfl 0 rfl)) fun a H => ?_
 refine H.v 7 (.pointer (some ⟨b_3, 0, none⟩)) fun a H => ?_
 refine H.u 8 (.int .i64 v.channel) (ex_load1 (by kernel_rfl) (by kernel_rfl) (HP.cell 0 rfl 0 rfl)) fun a H => ?_
 refine H.v 9 (.bool (u.channel == v.channel)) fun a H => ?_
 refine H.v 10 (.bool (u.channel == v.channel)) fun a H => ?_
 refine H.split 10 rfl (fun g10 H => ?_) (fun g10 H => ?_)
 ·have g10p := eq_of_beq g10
  refine H.v 11 (.pointer (some ⟨b_1, 1, none⟩)) fun a H => ?_
  refine H.u 12 (.int .i64 u.frame) (ex_load1 (by kernel_rfl) (by kernel_rfl) (HP.cell 1 rfl 1 rfl)) fun a H => ?_
  refine H.v 13 (.pointer (some ⟨b_3, 1, none⟩)) fun a H => ?_
  refine H.u 14 (.int .i64 v.frame) (ex_load1 (by kernel_rfl) (by kernel_rfl) (HP.cell 0 rfl 1 rfl)) fun a H => ?_
  refine H.v 15 (.bool (u.frame == v.frame)) fun a H => ?_
  refine H.v 16 (.bool (u.frame == v.frame)) fun a H => ?_
  refine H.v 17 (.bool (u.frame == v.frame)) fun a H => ?_
  refine H.split 17 rfl (fun g17 H => ?_) (fun g17 H => ?_)
  ·have g17p := eq_of_beq g17
   refine H.v 18 (.pointer (some ⟨b_1, 2, none⟩)) fun a H => ?_
   refine H.u 19 (.int .i64 u.version) (ex_load1 (by kernel_rfl) (by kernel_rfl) (HP.cell 1 rfl 2 rfl)) fun a H => ?_
   refine H.v 20 (.pointer (some ⟨b_3, 2, none⟩)) fun a H => ?_
   refine H.u 21 (.int .i64 v.version) (ex_load1 (by kernel_rfl) (by kernel_rfl) (HP.cell 0 rfl 2 rfl)) fun a H => ?_
   refine H.v 22 (.bool (u.version == v.version)) fun a H => ?_
   refine H.v 23 (.bool (u.version == v.version)) fun a H => ?_
   refine H.v 24 (.bool (u.version == v.version)) fun a H => ?_
   refine H.split 24 rfl (fun g24 H => ?_) (fun g24 H => ?_)
   ·have g24p := eq_of_beq g24
    refine H.v 25 (.pointer (some ⟨b_1, 3, none⟩)) fun a H => ?_
    refine H.u 26 (.int .i64 u.item) (ex_load1 (by kernel_rfl) (by kernel_rfl) (HP.cell 1 rfl 3 rfl)) fun a H => ?_
    refine H.v 27 (.pointer (some ⟨b_3, 3, none⟩)) fun a H => ?_
    refine H.u 28 (.int .i64 v.item) (ex_load1 (by kernel_rfl) (by kernel_rfl) (HP.cell 0 rfl 3 rfl)) fun a H => ?_
    refine H.v 29 (.bool (u.item == v.item)) fun a H => ?_
    refine H.v 30 (.bool (u.item == v.item)) fun a H => ?_
    refine H.v 31 (.bool (u.item == v.item)) fun a H => ?_
    refine H.split 31 rfl (fun g31 H => ?_) (fun g31 H => ?_)
    ·have g31p := eq_of_beq g31
     refine H.v 32 (.pointer (some ⟨b_1, 4, none⟩)) fun a H => ?_
     refine H.u 33 (.int .i64 u.index) (ex_load1 (by kernel_rfl) (by kernel_rfl) (HP.cell 1 rfl 4 rfl)) fun a H => ?_
     refine H.v 34 (.pointer (some ⟨b_3, 4, none⟩)) fun a H => ?_
     refine H.u 35 (.int .i64 v.index) (ex_load1 (by kernel_rfl) (by kernel_rfl) (HP.cell 0 rfl 4 rfl)) fun a H => ?_
     refine H.v 36 (.bool (u.index == v.index)) fun a H => ?_
     refine H.v 37 (.bool (u.index == v.index)) fun a H => ?_
     refine H.v 38 (.bool (u.index == v.index)) fun a H => ?_
     refine H.split 38 rfl (fun g38 H => ?_) (fun g38 H => ?_)
     ·have g38p := eq_of_beq g38
      refine H.v 39 (.pointer (some ⟨b_1, 5, none⟩)) fun a H => ?_
      refine H.u 40 (.bool u.key) (ex_load1 (by kernel_rfl) (by kernel_rfl) (HP.cell 1 rfl 5 rfl)) fun a H => ?_
      refine H.v 41 (.pointer (some ⟨b_3, 5, none⟩)) fun a H => ?_
      refine H.u 42 (.bool v.key) (ex_load1 (by kernel_rfl) (by kernel_rfl) (HP.cell 0 rfl 5 rfl)) fun a H => ?_
      refine H.v 43 (.bool (u.key == v.key)) fun a H => ?_
      refine H.v 44 (.bool (u.key == v.key)) fun a H => ?_
      refine H.v 45 (.bool (u.key == v.key)) fun a H => ?_
      refine H.split 45 rfl (fun g45 H => ?_) (fun g45 H => ?_)
      ·have g45p := eq_of_beq g45
       refine H.v 46 (.pointer (some ⟨b_1, 6, none⟩)) fun a H => ?_
       refine H.u 47 (.string (bstr u.data)) (ex_load1 (by kernel_rfl) (by kernel_rfl) (HP.cell 1 rfl 6 rfl)) fun a H => ?_
       refine H.v 48 (.pointer (some ⟨b_3, 6, none⟩)) fun a H => ?_
       refine H.u 49 (.string (bstr v.data)) (ex_load1 (by kernel_rfl) (by kernel_rfl) (HP.cell 0 rfl 6 rfl)) fun a H => ?_
       refine H.valE 50 (.bool ((bstr u.data).toList == (bstr v.data).toList)) (.bool (u.data == v.data)) (by kernel_rfl) (by kernel_rfl) ((congrArg Value.bool (bstr_eq _ _))) fun a H => ?_
       refine H.v 51 (.bool (u.data == v.data)) fun a H => ?_
       refine H.v 52 (.bool (u.data == v.data)) fun a H => ?_
       refine H.split 52 rfl (fun g52 H => ?_) (fun g52 H => ?_)
       ·have g52p := eq_of_beq g52
        refine H.v 53 (.pointer (some ⟨b_1, 7, none⟩)) fun a H => ?_
        refine H.u 54 (.int .i64 u.regions) (ex_load1 (by kernel_rfl) (by kernel_rfl) (HP.cell 1 rfl 7 rfl)) fun a H => ?_
        refine H.v 55 (.pointer (some ⟨b_3, 7, none⟩)) fun a H => ?_
        refine H.u 56 (.int .i64 v.regions) (ex_load1 (by kernel_rfl) (by kernel_rfl) (HP.cell 0 rfl 7 rfl)) fun a H => ?_
        refine H.v 57 (.bool (u.regions == v.regions)) fun a H => ?_
        refine H.v 58 (.bool (u.regions == v.regions)) fun a H => ?_
        refine H.v 59 (.bool (u.regions == v.regions)) fun a H => ?_
        refine H.split 59 rfl (fun g59 H => ?_) (fun g59 H => ?_)
        ·have g59p := eq_of_beq g59
         refine H.v 60 (.pointer (some ⟨b_1, 8, none⟩)) fun a H => ?_
         refine H.u 61 (.int .i64 u.gain) (ex_load1 (by kernel_rfl) (by kernel_rfl) (HP.cell 1 rfl 8 rfl)) fun a H => ?_
         refine H.v 62 (.pointer (some ⟨b_3, 8, none⟩)) fun a H => ?_
         refine H.u 63 (.int .i64 v.gain) (ex_load1 (by kernel_rfl) (by kernel_rfl) (HP.cell 0 rfl 8 rfl)) fun a H => ?_
         refine H.v 64 (.bool (u.gain == v.gain)) fun a H => ?_
         refine H.v 65 (.bool (u.gain == v.gain)) fun a H => ?_
         refine H.v 66 (.bool (u.gain == v.gain)) fun a H => ?_
         refine H.split 66 rfl (fun g66 H => ?_) (fun g66 H => ?_)
         ·have g66p := eq_of_beq g66
          refine H.v 67 (.pointer (some ⟨b_1, 9, none⟩)) fun a H => ?_
          refine H.u 68 (.string (bstr u.caption)) (ex_load1 (by kernel_rfl) (by kernel_rfl) (HP.cell 1 rfl 9 rfl)) fun a H => ?_
          refine H.v 69 (.pointer (some ⟨b_3, 9, none⟩)) fun a H => ?_
          refine H.u 70 (.string (bstr v.caption)) (ex_load1 (by kernel_rfl) (by kernel_rfl) (HP.cell 0 rfl 9 rfl)) fun a H => ?_
          refine H.valE 71 (.bool ((bstr u.caption).toList == (bstr v.caption).toList)) (.bool (u.caption == v.caption)) (by kernel_rfl) (by kernel_rfl) ((congrArg Value.bool (bstr_eq _ _))) fun a H => ?_
          refine H.v 72 (.bool (u.caption == v.caption)) fun a H => ?_
          refine H.v 73 (.bool (u.caption == v.caption)) fun a H => ?_
          refine H.split 73 rfl (fun g73 H => ?_) (fun g73 H => ?_)
          ·have g73p := eq_of_beq g73
           refine H.v 74 (.pointer (some ⟨b_1, 10, none⟩)) fun a H => ?_
           refine H.u 75 (.agg #[(.int .i64 u.os), (.int .i64 u.of), (.slice u.A u.al.length u.c)]) (ex_loadN (vs := [(.int .i64 u.os), (.int .i64 u.of), (.slice u.A u.al.length u.c)]) (by kernel_rfl) (by kernel_rfl) (by kernel_rfl) rfl (HP.cells 1 rfl 10 3 (by kernel_rfl))) fun a H => ?_
           refine H.v 76 (.pointer (some ⟨b_3, 10, none⟩)) fun a H => ?_
           refine H.u 77 (.agg #[(.int .i64 v.os), (.int .i64 v.of), (.slice v.A v.al.length v.c)]) (ex_loadN (vs := [(.int .i64 v.os), (.int .i64 v.of), (.slice v.A v.al.length v.c)]) (by kernel_rfl) (by kernel_rfl) (by kernel_rfl) rfl (HP.cells 0 rfl 10 3 (by kernel_rfl))) fun a H => ?_
           refine H.call 78 (by kernel_rfl) (Eq.trans (by kernel_rfl : _ = (callFunc 38 #[(.agg #[(.int .i64 u.os), (.int .i64 u.of), (.slice u.A u.al.length u.c)]), (.agg #[(.int .i64 v.os), (.int .i64 v.of), (.slice v.A v.al.length v.c)])]).run Tryd.prog w_4) (Tryd.call38 _ _)) (same_any u.os u.of u.A u.al.length u.c u.al v.os v.of v.A v.al.length v.c v.al w_4 (hu.below (HP.below (by kernel_rfl))) (hv.below (HP.below (by kernel_rfl))) hm) ?_
           rintro e w_5 ⟨rfl, hb⟩
           refine ⟨_, rfl, ?_⟩
           intro a H
           have HP := HP.next hb
           refine H.v 79 (.bool (sameP u.os u.of u.al v.os v.of v.al)) fun a H => ?_
           refine H.v 4 (.bool (sameP u.os u.of u.al v.os v.of v.al)) fun a H => ?_
           refine wpList_nil ?_
           have H := H.keep (L' := [(4, (.bool (sameP u.os u.of u.al v.os v.of v.al))), (6, (.int .i64 u.channel)), (5, (.pointer (some ⟨b_1, 0, none⟩))), (3, (.pointer (some ⟨b_3, 0, none⟩))), (2, (.pointer (some ⟨b_1, 0, none⟩))), (0, (.agg (ua u u.A u.c))), (1, (.agg (ua v v.A v.c)))]) (by kernel_rfl)
           refine then_normal (wp_ret ?_)
           refine H.ret1 (fn := Tryd.f20) Tryd.results20 (RV.tmp_ (v := (.bool (sameP u.os u.of u.al v.os v.of v.al))) (by kernel_rfl)) ?_
           exact ⟨by unfold sameU; simp only [g10, g17, g24, g31, g38, g45, g52, g59, g66, g73, Bool.true_and, Bool.false_and, Bool.and_true], (HP.below (by kernel_rfl))⟩
          ·have g73p := ne_of_beq_false g73
           refine H.s 74 fun a H => ?_
           refine H.s 75 fun a H => ?_
           refine H.s 76 fun a H => ?_
           refine H.s 77 fun a H => ?_
           refine H.s 78 fun a H => ?_
           refine H.v 79 (.bool false) fun a H => ?_
           refine H.v 4 (.bool false) fun a H => ?_
           refine wpList_nil ?_
           have H := H.keep (L' := [(4, (.bool false)), (6, (.int .i64 u.channel)), (5, (.pointer (some ⟨b_1, 0, none⟩))), (3, (.pointer (some ⟨b_3, 0, none⟩))), (2, (.pointer (some ⟨b_1, 0, none⟩))), (0, (.agg (ua u u.A u.c))), (1, (.agg (ua v v.A v.c)))]) (by kernel_rfl)
           refine then_normal (wp_ret ?_)
           refine H.ret1 (fn := Tryd.f20) Tryd.results20 (RV.tmp_ (v := (.bool false)) (by kernel_rfl)) ?_
           exact ⟨by unfold sameU; simp only [g10, g17, g24, g31, g38, g45, g52, g59, g66, g73, Bool.true_and, Bool.false_and, Bool.and_true], (HP.below (by kernel_rfl))⟩
         ·have g66p := ne_of_beq_false g66
          refine H.s 67 fun a H => ?_
          refine H.s 68 fun a H => ?_
          refine H.s 69 fun a H => ?_
          refine H.s 70 fun a H => ?_
          refine H.s 71 fun a H => ?_
          refine H.v 72 (.bool false) fun a H => ?_
          refine H.v 73 (.bool false) fun a H => ?_
          refine H.s 74 fun a H => ?_
          refine H.s 75 fun a H => ?_
          refine H.s 76 fun a H => ?_
          refine H.s 77 fun a H => ?_
          refine H.s 78 fun a H => ?_
          refine H.v 79 (.bool false) fun a H => ?_
          refine H.v 4 (.bool false) fun a H => ?_
          refine wpList_nil ?_
          have H := H.keep (L' := [(4, (.bool false)), (6, (.int .i64 u.channel)), (5, (.pointer (some ⟨b_1, 0, none⟩))), (3, (.pointer (some ⟨b_3, 0, none⟩))), (2, (.pointer (some ⟨b_1, 0, none⟩))), (0, (.agg (ua u u.A u.c))), (1, (.agg (ua v v.A v.c)))]) (by kernel_rfl)
          refine then_normal (wp_ret ?_)
          refine H.ret1 (fn := Tryd.f20) Tryd.results20 (RV.tmp_ (v := (.bool false)) (by kernel_rfl)) ?_
          exact ⟨by unfold sameU; simp only [g10, g17, g24, g31, g38, g45, g52, g59, g66, Bool.true_and, Bool.false_and, Bool.and_true], (HP.below (by kernel_rfl))⟩
        ·have g59p := ne_of_beq_false g59
         refine H.s 60 fun a H => ?_
         refine H.s 61 fun a H => ?_
         refine H.s 62 fun a H => ?_
         refine H.s 63 fun a H => ?_
         refine H.s 64 fun a H => ?_
         refine H.v 65 (.bool false) fun a H => ?_
         refine H.v 66 (.bool false) fun a H => ?_
         refine H.s 67 fun a H => ?_
         refine H.s 68 fun a H => ?_
         refine H.s 69 fun a H => ?_
         refine H.s 70 fun a H => ?_
         refine H.s 71 fun a H => ?_
         refine H.v 72 (.bool false) fun a H => ?_
         refine H.v 73 (.bool false) fun a H => ?_
         refine H.s 74 fun a H => ?_
         refine H.s 75 fun a H => ?_
         refine H.s 76 fun a H => ?_
         refine H.s 77 fun a H => ?_
         refine H.s 78 fun a H => ?_
         refine H.v 79 (.bool false) fun a H => ?_
         refine H.v 4 (.bool false) fun a H => ?_
         refine wpList_nil ?_
         have H := H.keep (L' := [(4, (.bool false)), (6, (.int .i64 u.channel)), (5, (.pointer (some ⟨b_1, 0, none⟩))), (3, (.pointer (some ⟨b_3, 0, none⟩))), (2, (.pointer (some ⟨b_1, 0, none⟩))), (0, (.agg (ua u u.A u.c))), (1, (.agg (ua v v.A v.c)))]) (by kernel_rfl)
         refine then_normal (wp_ret ?_)
         refine H.ret1 (fn := Tryd.f20) Tryd.results20 (RV.tmp_ (v := (.bool false)) (by kernel_rfl)) ?_
         exact ⟨by unfold sameU; simp only [g10, g17, g24, g31, g38, g45, g52, g59, Bool.true_and, Bool.false_and, Bool.and_true], (HP.below (by kernel_rfl))⟩
       ·have g52p := ne_of_beq_false g52
        refine H.s 53 fun a H => ?_
        refine H.s 54 fun a H => ?_
        refine H.s 55 fun a H => ?_
        refine H.s 56 fun a H => ?_
        refine H.s 57 fun a H => ?_
        refine H.v 58 (.bool false) fun a H => ?_
        refine H.v 59 (.bool false) fun a H => ?_
        refine H.s 60 fun a H => ?_
        refine H.s 61 fun a H => ?_
        refine H.s 62 fun a H => ?_
        refine H.s 63 fun a H => ?_
        refine H.s 64 fun a H => ?_
        refine H.v 65 (.bool false) fun a H => ?_
        refine H.v 66 (.bool false) fun a H => ?_
        refine H.s 67 fun a H => ?_
        refine H.s 68 fun a H => ?_
        refine H.s 69 fun a H => ?_
        refine H.s 70 fun a H => ?_
        refine H.s 71 fun a H => ?_
        refine H.v 72 (.bool false) fun a H => ?_
        refine H.v 73 (.bool false) fun a H => ?_
        refine H.s 74 fun a H => ?_
        refine H.s 75 fun a H => ?_
        refine H.s 76 fun a H => ?_
        refine H.s 77 fun a H => ?_
        refine H.s 78 fun a H => ?_
        refine H.v 79 (.bool false) fun a H => ?_
        refine H.v 4 (.bool false) fun a H => ?_
        refine wpList_nil ?_
        have H := H.keep (L' := [(4, (.bool false)), (6, (.int .i64 u.channel)), (5, (.pointer (some ⟨b_1, 0, none⟩))), (3, (.pointer (some ⟨b_3, 0, none⟩))), (2, (.pointer (some ⟨b_1, 0, none⟩))), (0, (.agg (ua u u.A u.c))), (1, (.agg (ua v v.A v.c)))]) (by kernel_rfl)
        refine then_normal (wp_ret ?_)
        refine H.ret1 (fn := Tryd.f20) Tryd.results20 (RV.tmp_ (v := (.bool false)) (by kernel_rfl)) ?_
        exact ⟨by unfold sameU; simp only [g10, g17, g24, g31, g38, g45, g52, Bool.true_and, Bool.false_and, Bool.and_true], (HP.below (by kernel_rfl))⟩
      ·have g45p := ne_of_beq_false g45
       refine H.s 46 fun a H => ?_
       refine H.s 47 fun a H => ?_
       refine H.s 48 fun a H => ?_
       refine H.s 49 fun a H => ?_
       refine H.s 50 fun a H => ?_
       refine H.v 51 (.bool false) fun a H => ?_
       refine H.v 52 (.bool false) fun a H => ?_
       refine H.s 53 fun a H => ?_
       refine H.s 54 fun a H => ?_
       refine H.s 55 fun a H => ?_
       refine H.s 56 fun a H => ?_
       refine H.s 57 fun a H => ?_
       refine H.v 58 (.bool false) fun a H => ?_
       refine H.v 59 (.bool false) fun a H => ?_
       refine H.s 60 fun a H => ?_
       refine H.s 61 fun a H => ?_
       refine H.s 62 fun a H => ?_
       refine H.s 63 fun a H => ?_
       refine H.s 64 fun a H => ?_
       refine H.v 65 (.bool false) fun a H => ?_
       refine H.v 66 (.bool false) fun a H => ?_
       refine H.s 67 fun a H => ?_
       refine H.s 68 fun a H => ?_
       refine H.s 69 fun a H => ?_
       refine H.s 70 fun a H => ?_
       refine H.s 71 fun a H => ?_
       refine H.v 72 (.bool false) fun a H => ?_
       refine H.v 73 (.bool false) fun a H => ?_
       refine H.s 74 fun a H => ?_
       refine H.s 75 fun a H => ?_
       refine H.s 76 fun a H => ?_
       refine H.s 77 fun a H => ?_
       refine H.s 78 fun a H => ?_
       refine H.v 79 (.bool false) fun a H => ?_
       refine H.v 4 (.bool false) fun a H => ?_
       refine wpList_nil ?_
       have H := H.keep (L' := [(4, (.bool false)), (6, (.int .i64 u.channel)), (5, (.pointer (some ⟨b_1, 0, none⟩))), (3, (.pointer (some ⟨b_3, 0, none⟩))), (2, (.pointer (some ⟨b_1, 0, none⟩))), (0, (.agg (ua u u.A u.c))), (1, (.agg (ua v v.A v.c)))]) (by kernel_rfl)
       refine then_normal (wp_ret ?_)
       refine H.ret1 (fn := Tryd.f20) Tryd.results20 (RV.tmp_ (v := (.bool false)) (by kernel_rfl)) ?_
       exact ⟨by unfold sameU; simp only [g10, g17, g24, g31, g38, g45, Bool.true_and, Bool.false_and, Bool.and_true], (HP.below (by kernel_rfl))⟩
     ·have g38p := ne_of_beq_false g38
      refine H.s 39 fun a H => ?_
      refine H.s 40 fun a H => ?_
      refine H.s 41 fun a H => ?_
      refine H.s 42 fun a H => ?_
      refine H.s 43 fun a H => ?_
      refine H.v 44 (.bool false) fun a H => ?_
      refine H.v 45 (.bool false) fun a H => ?_
      refine H.s 46 fun a H => ?_
      refine H.s 47 fun a H => ?_
      refine H.s 48 fun a H => ?_
      refine H.s 49 fun a H => ?_
      refine H.s 50 fun a H => ?_
      refine H.v 51 (.bool false) fun a H => ?_
      refine H.v 52 (.bool false) fun a H => ?_
      refine H.s 53 fun a H => ?_
      refine H.s 54 fun a H => ?_
      refine H.s 55 fun a H => ?_
      refine H.s 56 fun a H => ?_
      refine H.s 57 fun a H => ?_
      refine H.v 58 (.bool false) fun a H => ?_
      refine H.v 59 (.bool false) fun a H => ?_
      refine H.s 60 fun a H => ?_
      refine H.s 61 fun a H => ?_
      refine H.s 62 fun a H => ?_
      refine H.s 63 fun a H => ?_
      refine H.s 64 fun a H => ?_
      refine H.v 65 (.bool false) fun a H => ?_
      refine H.v 66 (.bool false) fun a H => ?_
      refine H.s 67 fun a H => ?_
      refine H.s 68 fun a H => ?_
      refine H.s 69 fun a H => ?_
      refine H.s 70 fun a H => ?_
      refine H.s 71 fun a H => ?_
      refine H.v 72 (.bool false) fun a H => ?_
      refine H.v 73 (.bool false) fun a H => ?_
      refine H.s 74 fun a H => ?_
      refine H.s 75 fun a H => ?_
      refine H.s 76 fun a H => ?_
      refine H.s 77 fun a H => ?_
      refine H.s 78 fun a H => ?_
      refine H.v 79 (.bool false) fun a H => ?_
      refine H.v 4 (.bool false) fun a H => ?_
      refine wpList_nil ?_
      have H := H.keep (L' := [(4, (.bool false)), (6, (.int .i64 u.channel)), (5, (.pointer (some ⟨b_1, 0, none⟩))), (3, (.pointer (some ⟨b_3, 0, none⟩))), (2, (.pointer (some ⟨b_1, 0, none⟩))), (0, (.agg (ua u u.A u.c))), (1, (.agg (ua v v.A v.c)))]) (by kernel_rfl)
      refine then_normal (wp_ret ?_)
      refine H.ret1 (fn := Tryd.f20) Tryd.results20 (RV.tmp_ (v := (.bool false)) (by kernel_rfl)) ?_
      exact ⟨by unfold sameU; simp only [g10, g17, g24, g31, g38, Bool.true_and, Bool.false_and, Bool.and_true], (HP.below (by kernel_rfl))⟩
    ·have g31p := ne_of_beq_false g31
     refine H.s 32 fun a H => ?_
     refine H.s 33 fun a H => ?_
     refine H.s 34 fun a H => ?_
     refine H.s 35 fun a H => ?_
     refine H.s 36 fun a H => ?_
     refine H.v 37 (.bool false) fun a H => ?_
     refine H.v 38 (.bool false) fun a H => ?_
     refine H.s 39 fun a H => ?_
     refine H.s 40 fun a H => ?_
     refine H.s 41 fun a H => ?_
     refine H.s 42 fun a H => ?_
     refine H.s 43 fun a H => ?_
     refine H.v 44 (.bool false) fun a H => ?_
     refine H.v 45 (.bool false) fun a H => ?_
     refine H.s 46 fun a H => ?_
     refine H.s 47 fun a H => ?_
     refine H.s 48 fun a H => ?_
     refine H.s 49 fun a H => ?_
     refine H.s 50 fun a H => ?_
     refine H.v 51 (.bool false) fun a H => ?_
     refine H.v 52 (.bool false) fun a H => ?_
     refine H.s 53 fun a H => ?_
     refine H.s 54 fun a H => ?_
     refine H.s 55 fun a H => ?_
     refine H.s 56 fun a H => ?_
     refine H.s 57 fun a H => ?_
     refine H.v 58 (.bool false) fun a H => ?_
     refine H.v 59 (.bool false) fun a H => ?_
     refine H.s 60 fun a H => ?_
     refine H.s 61 fun a H => ?_
     refine H.s 62 fun a H => ?_
     refine H.s 63 fun a H => ?_
     refine H.s 64 fun a H => ?_
     refine H.v 65 (.bool false) fun a H => ?_
     refine H.v 66 (.bool false) fun a H => ?_
     refine H.s 67 fun a H => ?_
     refine H.s 68 fun a H => ?_
     refine H.s 69 fun a H => ?_
     refine H.s 70 fun a H => ?_
     refine H.s 71 fun a H => ?_
     refine H.v 72 (.bool false) fun a H => ?_
     refine H.v 73 (.bool false) fun a H => ?_
     refine H.s 74 fun a H => ?_
     refine H.s 75 fun a H => ?_
     refine H.s 76 fun a H => ?_
     refine H.s 77 fun a H => ?_
     refine H.s 78 fun a H => ?_
     refine H.v 79 (.bool false) fun a H => ?_
     refine H.v 4 (.bool false) fun a H => ?_
     refine wpList_nil ?_
     have H := H.keep (L' := [(4, (.bool false)), (6, (.int .i64 u.channel)), (5, (.pointer (some ⟨b_1, 0, none⟩))), (3, (.pointer (some ⟨b_3, 0, none⟩))), (2, (.pointer (some ⟨b_1, 0, none⟩))), (0, (.agg (ua u u.A u.c))), (1, (.agg (ua v v.A v.c)))]) (by kernel_rfl)
     refine then_normal (wp_ret ?_)
     refine H.ret1 (fn := Tryd.f20) Tryd.results20 (RV.tmp_ (v := (.bool false)) (by kernel_rfl)) ?_
     exact ⟨by unfold sameU; simp only [g10, g17, g24, g31, Bool.true_and, Bool.false_and, Bool.and_true], (HP.below (by kernel_rfl))⟩
   ·have g24p := ne_of_beq_false g24
    refine H.s 25 fun a H => ?_
    refine H.s 26 fun a H => ?_
    refine H.s 27 fun a H => ?_
    refine H.s 28 fun a H => ?_
    refine H.s 29 fun a H => ?_
    refine H.v 30 (.bool false) fun a H => ?_
    refine H.v 31 (.bool false) fun a H => ?_
    refine H.s 32 fun a H => ?_
    refine H.s 33 fun a H => ?_
    refine H.s 34 fun a H => ?_
    refine H.s 35 fun a H => ?_
    refine H.s 36 fun a H => ?_
    refine H.v 37 (.bool false) fun a H => ?_
    refine H.v 38 (.bool false) fun a H => ?_
    refine H.s 39 fun a H => ?_
    refine H.s 40 fun a H => ?_
    refine H.s 41 fun a H => ?_
    refine H.s 42 fun a H => ?_
    refine H.s 43 fun a H => ?_
    refine H.v 44 (.bool false) fun a H => ?_
    refine H.v 45 (.bool false) fun a H => ?_
    refine H.s 46 fun a H => ?_
    refine H.s 47 fun a H => ?_
    refine H.s 48 fun a H => ?_
    refine H.s 49 fun a H => ?_
    refine H.s 50 fun a H => ?_
    refine H.v 51 (.bool false) fun a H => ?_
    refine H.v 52 (.bool false) fun a H => ?_
    refine H.s 53 fun a H => ?_
    refine H.s 54 fun a H => ?_
    refine H.s 55 fun a H => ?_
    refine H.s 56 fun a H => ?_
    refine H.s 57 fun a H => ?_
    refine H.v 58 (.bool false) fun a H => ?_
    refine H.v 59 (.bool false) fun a H => ?_
    refine H.s 60 fun a H => ?_
    refine H.s 61 fun a H => ?_
    refine H.s 62 fun a H => ?_
    refine H.s 63 fun a H => ?_
    refine H.s 64 fun a H => ?_
    refine H.v 65 (.bool false) fun a H => ?_
    refine H.v 66 (.bool false) fun a H => ?_
    refine H.s 67 fun a H => ?_
    refine H.s 68 fun a H => ?_
    refine H.s 69 fun a H => ?_
    refine H.s 70 fun a H => ?_
    refine H.s 71 fun a H => ?_
    refine H.v 72 (.bool false) fun a H => ?_
    refine H.v 73 (.bool false) fun a H => ?_
    refine H.s 74 fun a H => ?_
    refine H.s 75 fun a H => ?_
    refine H.s 76 fun a H => ?_
    refine H.s 77 fun a H => ?_
    refine H.s 78 fun a H => ?_
    refine H.v 79 (.bool false) fun a H => ?_
    refine H.v 4 (.bool false) fun a H => ?_
    refine wpList_nil ?_
    have H := H.keep (L' := [(4, (.bool false)), (6, (.int .i64 u.channel)), (5, (.pointer (some ⟨b_1, 0, none⟩))), (3, (.pointer (some ⟨b_3, 0, none⟩))), (2, (.pointer (some ⟨b_1, 0, none⟩))), (0, (.agg (ua u u.A u.c))), (1, (.agg (ua v v.A v.c)))]) (by kernel_rfl)
    refine then_normal (wp_ret ?_)
    refine H.ret1 (fn := Tryd.f20) Tryd.results20 (RV.tmp_ (v := (.bool false)) (by kernel_rfl)) ?_
    exact ⟨by unfold sameU; simp only [g10, g17, g24, Bool.true_and, Bool.false_and, Bool.and_true], (HP.below (by kernel_rfl))⟩
  ·have g17p := ne_of_beq_false g17
   refine H.s 18 fun a H => ?_
   refine H.s 19 fun a H => ?_
   refine H.s 20 fun a H => ?_
   refine H.s 21 fun a H => ?_
   refine H.s 22 fun a H => ?_
   refine H.v 23 (.bool false) fun a H => ?_
   refine H.v 24 (.bool false) fun a H => ?_
   refine H.s 25 fun a H => ?_
   refine H.s 26 fun a H => ?_
   refine H.s 27 fun a H => ?_
   refine H.s 28 fun a H => ?_
   refine H.s 29 fun a H => ?_
   refine H.v 30 (.bool false) fun a H => ?_
   refine H.v 31 (.bool false) fun a H => ?_
   refine H.s 32 fun a H => ?_
   refine H.s 33 fun a H => ?_
   refine H.s 34 fun a H => ?_
   refine H.s 35 fun a H => ?_
   refine H.s 36 fun a H => ?_
   refine H.v 37 (.bool false) fun a H => ?_
   refine H.v 38 (.bool false) fun a H => ?_
   refine H.s 39 fun a H => ?_
   refine H.s 40 fun a H => ?_
   refine H.s 41 fun a H => ?_
   refine H.s 42 fun a H => ?_
   refine H.s 43 fun a H => ?_
   refine H.v 44 (.bool false) fun a H => ?_
   refine H.v 45 (.bool false) fun a H => ?_
   refine H.s 46 fun a H => ?_
   refine H.s 47 fun a H => ?_
   refine H.s 48 fun a H => ?_
   refine H.s 49 fun a H => ?_
   refine H.s 50 fun a H => ?_
   refine H.v 51 (.bool false) fun a H => ?_
   refine H.v 52 (.bool false) fun a H => ?_
   refine H.s 53 fun a H => ?_
   refine H.s 54 fun a H => ?_
   refine H.s 55 fun a H => ?_
   refine H.s 56 fun a H => ?_
   refine H.s 57 fun a H => ?_
   refine H.v 58 (.bool false) fun a H => ?_
   refine H.v 59 (.bool false) fun a H => ?_
   refine H.s 60 fun a H => ?_
   refine H.s 61 fun a H => ?_
   refine H.s 62 fun a H => ?_
   refine H.s 63 fun a H => ?_
   refine H.s 64 fun a H => ?_
   refine H.v 65 (.bool false) fun a H => ?_
   refine H.v 66 (.bool false) fun a H => ?_
   refine H.s 67 fun a H => ?_
   refine H.s 68 fun a H => ?_
   refine H.s 69 fun a H => ?_
   refine H.s 70 fun a H => ?_
   refine H.s 71 fun a H => ?_
   refine H.v 72 (.bool false) fun a H => ?_
   refine H.v 73 (.bool false) fun a H => ?_
   refine H.s 74 fun a H => ?_
   refine H.s 75 fun a H => ?_
   refine H.s 76 fun a H => ?_
   refine H.s 77 fun a H => ?_
   refine H.s 78 fun a H => ?_
   refine H.v 79 (.bool false) fun a H => ?_
   refine H.v 4 (.bool false) fun a H => ?_
   refine wpList_nil ?_
   have H := H.keep (L' := [(4, (.bool false)), (6, (.int .i64 u.channel)), (5, (.pointer (some ⟨b_1, 0, none⟩))), (3, (.pointer (some ⟨b_3, 0, none⟩))), (2, (.pointer (some ⟨b_1, 0, none⟩))), (0, (.agg (ua u u.A u.c))), (1, (.agg (ua v v.A v.c)))]) (by kernel_rfl)
   refine then_normal (wp_ret ?_)
   refine H.ret1 (fn := Tryd.f20) Tryd.results20 (RV.tmp_ (v := (.bool false)) (by kernel_rfl)) ?_
   exact ⟨by unfold sameU; simp only [g10, g17, Bool.true_and, Bool.false_and, Bool.and_true], (HP.below (by kernel_rfl))⟩
 ·have g10p := ne_of_beq_false g10
  refine H.s 11 fun a H => ?_
  refine H.s 12 fun a H => ?_
  refine H.s 13 fun a H => ?_
  refine H.s 14 fun a H => ?_
  refine H.s 15 fun a H => ?_
  refine H.v 16 (.bool false) fun a H => ?_
  refine H.v 17 (.bool false) fun a H => ?_
  refine H.s 18 fun a H => ?_
  refine H.s 19 fun a H => ?_
  refine H.s 20 fun a H => ?_
  refine H.s 21 fun a H => ?_
  refine H.s 22 fun a H => ?_
  refine H.v 23 (.bool false) fun a H => ?_
  refine H.v 24 (.bool false) fun a H => ?_
  refine H.s 25 fun a H => ?_
  refine H.s 26 fun a H => ?_
  refine H.s 27 fun a H => ?_
  refine H.s 28 fun a H => ?_
  refine H.s 29 fun a H => ?_
  refine H.v 30 (.bool false) fun a H => ?_
  refine H.v 31 (.bool false) fun a H => ?_
  refine H.s 32 fun a H => ?_
  refine H.s 33 fun a H => ?_
  refine H.s 34 fun a H => ?_
  refine H.s 35 fun a H => ?_
  refine H.s 36 fun a H => ?_
  refine H.v 37 (.bool false) fun a H => ?_
  refine H.v 38 (.bool false) fun a H => ?_
  refine H.s 39 fun a H => ?_
  refine H.s 40 fun a H => ?_
  refine H.s 41 fun a H => ?_
  refine H.s 42 fun a H => ?_
  refine H.s 43 fun a H => ?_
  refine H.v 44 (.bool false) fun a H => ?_
  refine H.v 45 (.bool false) fun a H => ?_
  refine H.s 46 fun a H => ?_
  refine H.s 47 fun a H => ?_
  refine H.s 48 fun a H => ?_
  refine H.s 49 fun a H => ?_
  refine H.s 50 fun a H => ?_
  refine H.v 51 (.bool false) fun a H => ?_
  refine H.v 52 (.bool false) fun a H => ?_
  refine H.s 53 fun a H => ?_
  refine H.s 54 fun a H => ?_
  refine H.s 55 fun a H => ?_
  refine H.s 56 fun a H => ?_
  refine H.s 57 fun a H => ?_
  refine H.v 58 (.bool false) fun a H => ?_
  refine H.v 59 (.bool false) fun a H => ?_
  refine H.s 60 fun a H => ?_
  refine H.s 61 fun a H => ?_
  refine H.s 62 fun a H => ?_
  refine H.s 63 fun a H => ?_
  refine H.s 64 fun a H => ?_
  refine H.v 65 (.bool false) fun a H => ?_
  refine H.v 66 (.bool false) fun a H => ?_
  refine H.s 67 fun a H => ?_
  refine H.s 68 fun a H => ?_
  refine H.s 69 fun a H => ?_
  refine H.s 70 fun a H => ?_
  refine H.s 71 fun a H => ?_
  refine H.v 72 (.bool false) fun a H => ?_
  refine H.v 73 (.bool false) fun a H => ?_
  refine H.s 74 fun a H => ?_
  refine H.s 75 fun a H => ?_
  refine H.s 76 fun a H => ?_
  refine H.s 77 fun a H => ?_
  refine H.s 78 fun a H => ?_
  refine H.v 79 (.bool false) fun a H => ?_
  refine H.v 4 (.bool false) fun a H => ?_
  refine wpList_nil ?_
  have H := H.keep (L' := [(4, (.bool false)), (6, (.int .i64 u.channel)), (5, (.pointer (some ⟨b_1, 0, none⟩))), (3, (.pointer (some ⟨b_3, 0, none⟩))), (2, (.pointer (some ⟨b_1, 0, none⟩))), (0, (.agg (ua u u.A u.c))), (1, (.agg (ua v v.A v.c)))]) (by kernel_rfl)
  refine then_normal (wp_ret ?_)
  refine H.ret1 (fn := Tryd.f20) Tryd.results20 (RV.tmp_ (v := (.bool false)) (by kernel_rfl)) ?_
  exact ⟨by unfold sameU; simp only [g10, Bool.true_and, Bool.false_and, Bool.and_true], (HP.below (by kernel_rfl))⟩
set_option maxRecDepth 100000 in
set_option maxHeartbeats 4000000 in
theorem rusame_any (u v : Un) (w : World) (hu : IsAlts w u.A u.al.length u.al) (hv : IsAlts w v.A v.al.length v.al) (hm : u.al.length ≤ maxLen) :
  Calls Tryd.prog 21 #[u.val, v.val] w fun e w' => e = .returned (.bool (sameU u v)) ∧ Below w.heap.size w w' := by
 have HP := Hp.start w
 refine w_enter 80 [(0, (.agg (ua u u.A u.c))), (1, (.agg (ua v v.A v.c)))] Tryd.func21 rfl Tryd.ntmps21 (by kernel_rfl) (by kernel_rfl) fun a H => ?_
 refine wp_seq (w_region ?_)
 refine H.alloc HP 2 (fun b => (.pointer (some ⟨b, 0, none⟩))) 28 (ul u u.A u.c) (by kernel_rfl) (fun w => by kernel_rfl) fun b_1 w_2 a H HP => ?_
 refine H.alloc HP 3 (fun b => (.pointer (some ⟨b, 0, none⟩))) 28 (ul v v.A v.c) (by kernel_rfl) (fun w => by kernel_rfl) fun b_3 w_4 a H HP => ?_
 refine H.v 4 (.bool false) fun a H => ?_
 refine wpList_nil (then_normal (wp_seq (w_region ?_)))
 refine H.v 5 (.pointer (some ⟨b_1, 0, none⟩)) fun a H => ?_
 refine H.u 6 (.int .i64 u.channel) (ex_load1 (by kernel_rfl) (by kernel_rfl) (HP.cell 1 rfl 0 rfl)) fun a H => ?_
 refine H.v 7 (.pointer (some ⟨b_3, 0, none⟩)) fun a H => ?_
 refine H.u 8 (.int .i64 v.channel) (ex_load1 (by kernel_rfl) (by kernel_rfl) (HP.cell 0 rfl 0 rfl)) fun a H => ?_
 refine H.v 9 (.bool (u.channel == v.channel)) fun a H => ?_
 refine H.v 10 (.bool (u.channel == v.channel)) fun a H => ?_
 refine H.split 10 rfl (fun g10 H => ?_) (fun g10 H => ?_)
 ·have g10p := eq_of_beq g10
  refine H.v 11 (.pointer (some ⟨b_1, 1, none⟩)) fun a H => ?_
  refine H.u 12 (.int .i64 u.frame) (ex_load1 (by kernel_rfl) (by kernel_rfl) (HP.cell 1 rfl 1 rfl)) fun a H => ?_
  refine H.v 13 (.pointer (some ⟨b_3, 1, none⟩)) fun a H => ?_
  refine H.u 14 (.int .i64 v.frame) (ex_load1 (by kernel_rfl) (by kernel_rfl) (HP.cell 0 rfl 1 rfl)) fun a H => ?_
  refine H.v 15 (.bool (u.frame == v.frame)) fun a H => ?_
  refine H.v 16 (.bool (u.frame == v.frame)) fun a H => ?_
  refine H.v 17 (.bool (u.frame == v.frame)) fun a H => ?_
  refine H.split 17 rfl (fun g17 H => ?_) (fun g17 H => ?_)
  ·have g17p := eq_of_beq g17
   refine H.v 18 (.pointer (some ⟨b_1, 2, none⟩)) fun a H => ?_
   refine H.u 19 (.int .i64 u.version) (ex_load1 (by kernel_rfl) (by kernel_rfl) (HP.cell 1 rfl 2 rfl)) fun a H => ?_
   refine H.v 20 (.pointer (some ⟨b_3, 2, none⟩)) fun a H => ?_
   refine H.u 21 (.int .i64 v.version) (ex_load1 (by kernel_rfl) (by kernel_rfl) (HP.cell 0 rfl 2 rfl)) fun a H => ?_
   refine H.v 22 (.bool (u.version == v.version)) fun a H => ?_
   refine H.v 23 (.bool (u.version == v.version)) fun a H => ?_
   refine H.v 24 (.bool (u.version == v.version)) fun a H => ?_
   refine H.split 24 rfl (fun g24 H => ?_) (fun g24 H => ?_)
   ·have g24p := eq_of_beq g24
    refine H.v 25 (.pointer (some ⟨b_1, 3, none⟩)) fun a H => ?_
    refine H.u 26 (.int .i64 u.item) (ex_load1 (by kernel_rfl) (by kernel_rfl) (HP.cell 1 rfl 3 rfl)) fun a H => ?_
    refine H.v 27 (.pointer (some ⟨b_3, 3, none⟩)) fun a H => ?_
    refine H.u 28 (.int .i64 v.item) (ex_load1 (by kernel_rfl) (by kernel_rfl) (HP.cell 0 rfl 3 rfl)) fun a H => ?_
    refine H.v 29 (.bool (u.item == v.item)) fun a H => ?_
    refine H.v 30 (.bool (u.item == v.item)) fun a H => ?_
    refine H.v 31 (.bool (u.item == v.item)) fun a H => ?_
    refine H.split 31 rfl (fun g31 H => ?_) (fun g31 H => ?_)
    ·have g31p := eq_of_beq g31
     refine H.v 32 (.pointer (some ⟨b_1, 4, none⟩)) fun a H => ?_
     refine H.u 33 (.int .i64 u.index) (ex_load1 (by kernel_rfl) (by kernel_rfl) (HP.cell 1 rfl 4 rfl)) fun a H => ?_
     refine H.v 34 (.pointer (some ⟨b_3, 4, none⟩)) fun a H => ?_
     refine H.u 35 (.int .i64 v.index) (ex_load1 (by kernel_rfl) (by kernel_rfl) (HP.cell 0 rfl 4 rfl)) fun a H => ?_
     refine H.v 36 (.bool (u.index == v.index)) fun a H => ?_
     refine H.v 37 (.bool (u.index == v.index)) fun a H => ?_
     refine H.v 38 (.bool (u.index == v.index)) fun a H => ?_
     refine H.split 38 rfl (fun g38 H => ?_) (fun g38 H => ?_)
     ·have g38p := eq_of_beq g38
      refine H.v 39 (.pointer (some ⟨b_1, 5, none⟩)) fun a H => ?_
      refine H.u 40 (.bool u.key) (ex_load1 (by kernel_rfl) (by kernel_rfl) (HP.cell 1 rfl 5 rfl)) fun a H => ?_
      refine H.v 41 (.pointer (some ⟨b_3, 5, none⟩)) fun a H => ?_
      refine H.u 42 (.bool v.key) (ex_load1 (by kernel_rfl) (by kernel_rfl) (HP.cell 0 rfl 5 rfl)) fun a H => ?_
      refine H.v 43 (.bool (u.key == v.key)) fun a H => ?_
      refine H.v 44 (.bool (u.key == v.key)) fun a H => ?_
      refine H.v 45 (.bool (u.key == v.key)) fun a H => ?_
      refine H.split 45 rfl (fun g45 H => ?_) (fun g45 H => ?_)
      ·have g45p := eq_of_beq g45
       refine H.v 46 (.pointer (some ⟨b_1, 6, none⟩)) fun a H => ?_
       refine H.u 47 (.string (bstr u.data)) (ex_load1 (by kernel_rfl) (by kernel_rfl) (HP.cell 1 rfl 6 rfl)) fun a H => ?_
       refine H.v 48 (.pointer (some ⟨b_3, 6, none⟩)) fun a H => ?_
       refine H.u 49 (.string (bstr v.data)) (ex_load1 (by kernel_rfl) (by kernel_rfl) (HP.cell 0 rfl 6 rfl)) fun a H => ?_
       refine H.valE 50 (.bool ((bstr u.data).toList == (bstr v.data).toList)) (.bool (u.data == v.data)) (by kernel_rfl) (by kernel_rfl) ((congrArg Value.bool (bstr_eq _ _))) fun a H => ?_
       refine H.v 51 (.bool (u.data == v.data)) fun a H => ?_
       refine H.v 52 (.bool (u.data == v.data)) fun a H => ?_
       refine H.split 52 rfl (fun g52 H => ?_) (fun g52 H => ?_)
       ·have g52p := eq_of_beq g52
        refine H.v 53 (.pointer (some ⟨b_1, 7, none⟩)) fun a H => ?_
        refine H.u 54 (.int .i64 u.regions) (ex_load1 (by kernel_rfl) (by kernel_rfl) (HP.cell 1 rfl 7 rfl)) fun a H => ?_
        refine H.v 55 (.pointer (some ⟨b_3, 7, none⟩)) fun a H => ?_
        refine H.u 56 (.int .i64 v.regions) (ex_load1 (by kernel_rfl) (by kernel_rfl) (HP.cell 0 rfl 7 rfl)) fun a H => ?_
        refine H.v 57 (.bool (u.regions == v.regions)) fun a H => ?_
        refine H.v 58 (.bool (u.regions == v.regions)) fun a H => ?_
        refine H.v 59 (.bool (u.regions == v.regions)) fun a H => ?_
        refine H.split 59 rfl (fun g59 H => ?_) (fun g59 H => ?_)
        ·have g59p := eq_of_beq g59
         refine H.v 60 (.pointer (some ⟨b_1, 8, none⟩)) fun a H => ?_
         refine H.u 61 (.int .i64 u.gain) (ex_load1 (by kernel_rfl) (by kernel_rfl) (HP.cell 1 rfl 8 rfl)) fun a H => ?_
         refine H.v 62 (.pointer (some ⟨b_3, 8, none⟩)) fun a H => ?_
         refine H.u 63 (.int .i64 v.gain) (ex_load1 (by kernel_rfl) (by kernel_rfl) (HP.cell 0 rfl 8 rfl)) fun a H => ?_
         refine H.v 64 (.bool (u.gain == v.gain)) fun a H => ?_
         refine H.v 65 (.bool (u.gain == v.gain)) fun a H => ?_
         refine H.v 66 (.bool (u.gain == v.gain)) fun a H => ?_
         refine H.split 66 rfl (fun g66 H => ?_) (fun g66 H => ?_)
         ·have g66p := eq_of_beq g66
          refine H.v 67 (.pointer (some ⟨b_1, 9, none⟩)) fun a H => ?_
          refine H.u 68 (.string (bstr u.caption)) (ex_load1 (by kernel_rfl) (by kernel_rfl) (HP.cell 1 rfl 9 rfl)) fun a H => ?_
          refine H.v 69 (.pointer (some ⟨b_3, 9, none⟩)) fun a H => ?_
          refine H.u 70 (.string (bstr v.caption)) (ex_load1 (by kernel_rfl) (by kernel_rfl) (HP.cell 0 rfl 9 rfl)) fun a H => ?_
          refine H.valE 71 (.bool ((bstr u.caption).toList == (bstr v.caption).toList)) (.bool (u.caption == v.caption)) (by kernel_rfl) (by kernel_rfl) ((congrArg Value.bool (bstr_eq _ _))) fun a H => ?_
          refine H.v 72 (.bool (u.caption == v.caption)) fun a H => ?_
          refine H.v 73 (.bool (u.caption == v.caption)) fun a H => ?_
          refine H.split 73 rfl (fun g73 H => ?_) (fun g73 H => ?_)
          ·have g73p := eq_of_beq g73
           refine H.v 74 (.pointer (some ⟨b_1, 10, none⟩)) fun a H => ?_
           refine H.u 75 (.agg #[(.int .i64 u.os), (.int .i64 u.of), (.slice u.A u.al.length u.c)]) (ex_loadN (vs := [(.int .i64 u.os), (.int .i64 u.of), (.slice u.A u.al.length u.c)]) (by kernel_rfl) (by kernel_rfl) (by kernel_rfl) rfl (HP.cells 1 rfl 10 3 (by kernel_rfl))) fun a H => ?_
           refine H.v 76 (.pointer (some ⟨b_3, 10, none⟩)) fun a H => ?_
           refine H.u 77 (.agg #[(.int .i64 v.os), (.int .i64 v.of), (.slice v.A v.al.length v.c)]) (ex_loadN (vs := [(.int .i64 v.os), (.int .i64 v.of), (.slice v.A v.al.length v.c)]) (by kernel_rfl) (by kernel_rfl) (by kernel_rfl) rfl (HP.cells 0 rfl 10 3 (by kernel_rfl))) fun a H => ?_
           refine H.call 78 (by kernel_rfl) (Eq.trans (by kernel_rfl : _ = (callFunc 39 #[(.agg #[(.int .i64 u.os), (.int .i64 u.of), (.slice u.A u.al.length u.c)]), (.agg #[(.int .i64 v.os), (.int .i64 v.of), (.slice v.A v.al.length v.c)])]).run Tryd.prog w_4) (Tryd.call39 _ _)) (rsame_any u.os u.of u.A u.al.length u.c u.al v.os v.of v.A v.al.length v.c v.al w_4 (hu.below (HP.below (by kernel_rfl))) (hv.below (HP.below (by kernel_rfl))) hm) ?_
           rintro e w_5 ⟨rfl, hb⟩
           refine ⟨_, rfl, ?_⟩
           intro a H
           have HP := HP.next hb
           refine H.v 79 (.bool (sameP u.os u.of u.al v.os v.of v.al)) fun a H => ?_
           refine H.v 4 (.bool (sameP u.os u.of u.al v.os v.of v.al)) fun a H => ?_
           refine wpList_nil ?_
           have H := H.keep (L' := [(4, (.bool (sameP u.os u.of u.al v.os v.of v.al))), (6, (.int .i64 u.channel)), (5, (.pointer (some ⟨b_1, 0, none⟩))), (3, (.pointer (some ⟨b_3, 0, none⟩))), (2, (.pointer (some ⟨b_1, 0, none⟩))), (0, (.agg (ua u u.A u.c))), (1, (.agg (ua v v.A v.c)))]) (by kernel_rfl)
           refine then_normal (wp_ret ?_)
           refine H.ret1 (fn := Tryd.f21) Tryd.results21 (RV.tmp_ (v := (.bool (sameP u.os u.of u.al v.os v.of v.al))) (by kernel_rfl)) ?_
           exact ⟨by unfold sameU; simp only [g10, g17, g24, g31, g38, g45, g52, g59, g66, g73, Bool.true_and, Bool.false_and, Bool.and_true], (HP.below (by kernel_rfl))⟩
          ·have g73p := ne_of_beq_false g73
           refine H.s 74 fun a H => ?_
           refine H.s 75 fun a H => ?_
           refine H.s 76 fun a H => ?_
           refine H.s 77 fun a H => ?_
           refine H.s 78 fun a H => ?_
           refine H.v 79 (.bool false) fun a H => ?_
           refine H.v 4 (.bool false) fun a H => ?_
           refine wpList_nil ?_
           have H := H.keep (L' := [(4, (.bool false)), (6, (.int .i64 u.channel)), (5, (.pointer (some ⟨b_1, 0, none⟩))), (3, (.pointer (some ⟨b_3, 0, none⟩))), (2, (.pointer (some ⟨b_1, 0, none⟩))), (0, (.agg (ua u u.A u.c))), (1, (.agg (ua v v.A v.c)))]) (by kernel_rfl)
           refine then_normal (wp_ret ?_)
           refine H.ret1 (fn := Tryd.f21) Tryd.results21 (RV.tmp_ (v := (.bool false)) (by kernel_rfl)) ?_
           exact ⟨by unfold sameU; simp only [g10, g17, g24, g31, g38, g45, g52, g59, g66, g73, Bool.true_and, Bool.false_and, Bool.and_true], (HP.below (by kernel_rfl))⟩
         ·have g66p := ne_of_beq_false g66
          refine H.s 67 fun a H => ?_
          refine H.s 68 fun a H => ?_
          refine H.s 69 fun a H => ?_
          refine H.s 70 fun a H => ?_
          refine H.s 71 fun a H => ?_
          refine H.v 72 (.bool false) fun a H => ?_
          refine H.v 73 (.bool false) fun a H => ?_
          refine H.s 74 fun a H => ?_
          refine H.s 75 fun a H => ?_
          refine H.s 76 fun a H => ?_
          refine H.s 77 fun a H => ?_
          refine H.s 78 fun a H => ?_
          refine H.v 79 (.bool false) fun a H => ?_
          refine H.v 4 (.bool false) fun a H => ?_
          refine wpList_nil ?_
          have H := H.keep (L' := [(4, (.bool false)), (6, (.int .i64 u.channel)), (5, (.pointer (some ⟨b_1, 0, none⟩))), (3, (.pointer (some ⟨b_3, 0, none⟩))), (2, (.pointer (some ⟨b_1, 0, none⟩))), (0, (.agg (ua u u.A u.c))), (1, (.agg (ua v v.A v.c)))]) (by kernel_rfl)
          refine then_normal (wp_ret ?_)
          refine H.ret1 (fn := Tryd.f21) Tryd.results21 (RV.tmp_ (v := (.bool false)) (by kernel_rfl)) ?_
          exact ⟨by unfold sameU; simp only [g10, g17, g24, g31, g38, g45, g52, g59, g66, Bool.true_and, Bool.false_and, Bool.and_true], (HP.below (by kernel_rfl))⟩
        ·have g59p := ne_of_beq_false g59
         refine H.s 60 fun a H => ?_
         refine H.s 61 fun a H => ?_
         refine H.s 62 fun a H => ?_
         refine H.s 63 fun a H => ?_
         refine H.s 64 fun a H => ?_
         refine H.v 65 (.bool false) fun a H => ?_
         refine H.v 66 (.bool false) fun a H => ?_
         refine H.s 67 fun a H => ?_
         refine H.s 68 fun a H => ?_
         refine H.s 69 fun a H => ?_
         refine H.s 70 fun a H => ?_
         refine H.s 71 fun a H => ?_
         refine H.v 72 (.bool false) fun a H => ?_
         refine H.v 73 (.bool false) fun a H => ?_
         refine H.s 74 fun a H => ?_
         refine H.s 75 fun a H => ?_
         refine H.s 76 fun a H => ?_
         refine H.s 77 fun a H => ?_
         refine H.s 78 fun a H => ?_
         refine H.v 79 (.bool false) fun a H => ?_
         refine H.v 4 (.bool false) fun a H => ?_
         refine wpList_nil ?_
         have H := H.keep (L' := [(4, (.bool false)), (6, (.int .i64 u.channel)), (5, (.pointer (some ⟨b_1, 0, none⟩))), (3, (.pointer (some ⟨b_3, 0, none⟩))), (2, (.pointer (some ⟨b_1, 0, none⟩))), (0, (.agg (ua u u.A u.c))), (1, (.agg (ua v v.A v.c)))]) (by kernel_rfl)
         refine then_normal (wp_ret ?_)
         refine H.ret1 (fn := Tryd.f21) Tryd.results21 (RV.tmp_ (v := (.bool false)) (by kernel_rfl)) ?_
         exact ⟨by unfold sameU; simp only [g10, g17, g24, g31, g38, g45, g52, g59, Bool.true_and, Bool.false_and, Bool.and_true], (HP.below (by kernel_rfl))⟩
       ·have g52p := ne_of_beq_false g52
        refine H.s 53 fun a H => ?_
        refine H.s 54 fun a H => ?_
        refine H.s 55 fun a H => ?_
        refine H.s 56 fun a H => ?_
        refine H.s 57 fun a H => ?_
        refine H.v 58 (.bool false) fun a H => ?_
        refine H.v 59 (.bool false) fun a H => ?_
        refine H.s 60 fun a H => ?_
        refine H.s 61 fun a H => ?_
        refine H.s 62 fun a H => ?_
        refine H.s 63 fun a H => ?_
        refine H.s 64 fun a H => ?_
        refine H.v 65 (.bool false) fun a H => ?_
        refine H.v 66 (.bool false) fun a H => ?_
        refine H.s 67 fun a H => ?_
        refine H.s 68 fun a H => ?_
        refine H.s 69 fun a H => ?_
        refine H.s 70 fun a H => ?_
        refine H.s 71 fun a H => ?_
        refine H.v 72 (.bool false) fun a H => ?_
        refine H.v 73 (.bool false) fun a H => ?_
        refine H.s 74 fun a H => ?_
        refine H.s 75 fun a H => ?_
        refine H.s 76 fun a H => ?_
        refine H.s 77 fun a H => ?_
        refine H.s 78 fun a H => ?_
        refine H.v 79 (.bool false) fun a H => ?_
        refine H.v 4 (.bool false) fun a H => ?_
        refine wpList_nil ?_
        have H := H.keep (L' := [(4, (.bool false)), (6, (.int .i64 u.channel)), (5, (.pointer (some ⟨b_1, 0, none⟩))), (3, (.pointer (some ⟨b_3, 0, none⟩))), (2, (.pointer (some ⟨b_1, 0, none⟩))), (0, (.agg (ua u u.A u.c))), (1, (.agg (ua v v.A v.c)))]) (by kernel_rfl)
        refine then_normal (wp_ret ?_)
        refine H.ret1 (fn := Tryd.f21) Tryd.results21 (RV.tmp_ (v := (.bool false)) (by kernel_rfl)) ?_
        exact ⟨by unfold sameU; simp only [g10, g17, g24, g31, g38, g45, g52, Bool.true_and, Bool.false_and, Bool.and_true], (HP.below (by kernel_rfl))⟩
      ·have g45p := ne_of_beq_false g45
       refine H.s 46 fun a H => ?_
       refine H.s 47 fun a H => ?_
       refine H.s 48 fun a H => ?_
       refine H.s 49 fun a H => ?_
       refine H.s 50 fun a H => ?_
       refine H.v 51 (.bool false) fun a H => ?_
       refine H.v 52 (.bool false) fun a H => ?_
       refine H.s 53 fun a H => ?_
       refine H.s 54 fun a H => ?_
       refine H.s 55 fun a H => ?_
       refine H.s 56 fun a H => ?_
       refine H.s 57 fun a H => ?_
       refine H.v 58 (.bool false) fun a H => ?_
       refine H.v 59 (.bool false) fun a H => ?_
       refine H.s 60 fun a H => ?_
       refine H.s 61 fun a H => ?_
       refine H.s 62 fun a H => ?_
       refine H.s 63 fun a H => ?_
       refine H.s 64 fun a H => ?_
       refine H.v 65 (.bool false) fun a H => ?_
       refine H.v 66 (.bool false) fun a H => ?_
       refine H.s 67 fun a H => ?_
       refine H.s 68 fun a H => ?_
       refine H.s 69 fun a H => ?_
       refine H.s 70 fun a H => ?_
       refine H.s 71 fun a H => ?_
       refine H.v 72 (.bool false) fun a H => ?_
       refine H.v 73 (.bool false) fun a H => ?_
       refine H.s 74 fun a H => ?_
       refine H.s 75 fun a H => ?_
       refine H.s 76 fun a H => ?_
       refine H.s 77 fun a H => ?_
       refine H.s 78 fun a H => ?_
       refine H.v 79 (.bool false) fun a H => ?_
       refine H.v 4 (.bool false) fun a H => ?_
       refine wpList_nil ?_
       have H := H.keep (L' := [(4, (.bool false)), (6, (.int .i64 u.channel)), (5, (.pointer (some ⟨b_1, 0, none⟩))), (3, (.pointer (some ⟨b_3, 0, none⟩))), (2, (.pointer (some ⟨b_1, 0, none⟩))), (0, (.agg (ua u u.A u.c))), (1, (.agg (ua v v.A v.c)))]) (by kernel_rfl)
       refine then_normal (wp_ret ?_)
       refine H.ret1 (fn := Tryd.f21) Tryd.results21 (RV.tmp_ (v := (.bool false)) (by kernel_rfl)) ?_
       exact ⟨by unfold sameU; simp only [g10, g17, g24, g31, g38, g45, Bool.true_and, Bool.false_and, Bool.and_true], (HP.below (by kernel_rfl))⟩
     ·have g38p := ne_of_beq_false g38
      refine H.s 39 fun a H => ?_
      refine H.s 40 fun a H => ?_
      refine H.s 41 fun a H => ?_
      refine H.s 42 fun a H => ?_
      refine H.s 43 fun a H => ?_
      refine H.v 44 (.bool false) fun a H => ?_
      refine H.v 45 (.bool false) fun a H => ?_
      refine H.s 46 fun a H => ?_
      refine H.s 47 fun a H => ?_
      refine H.s 48 fun a H => ?_
      refine H.s 49 fun a H => ?_
      refine H.s 50 fun a H => ?_
      refine H.v 51 (.bool false) fun a H => ?_
      refine H.v 52 (.bool false) fun a H => ?_
      refine H.s 53 fun a H => ?_
      refine H.s 54 fun a H => ?_
      refine H.s 55 fun a H => ?_
      refine H.s 56 fun a H => ?_
      refine H.s 57 fun a H => ?_
      refine H.v 58 (.bool false) fun a H => ?_
      refine H.v 59 (.bool false) fun a H => ?_
      refine H.s 60 fun a H => ?_
      refine H.s 61 fun a H => ?_
      refine H.s 62 fun a H => ?_
      refine H.s 63 fun a H => ?_
      refine H.s 64 fun a H => ?_
      refine H.v 65 (.bool false) fun a H => ?_
      refine H.v 66 (.bool false) fun a H => ?_
      refine H.s 67 fun a H => ?_
      refine H.s 68 fun a H => ?_
      refine H.s 69 fun a H => ?_
      refine H.s 70 fun a H => ?_
      refine H.s 71 fun a H => ?_
      refine H.v 72 (.bool false) fun a H => ?_
      refine H.v 73 (.bool false) fun a H => ?_
      refine H.s 74 fun a H => ?_
      refine H.s 75 fun a H => ?_
      refine H.s 76 fun a H => ?_
      refine H.s 77 fun a H => ?_
      refine H.s 78 fun a H => ?_
      refine H.v 79 (.bool false) fun a H => ?_
      refine H.v 4 (.bool false) fun a H => ?_
      refine wpList_nil ?_
      have H := H.keep (L' := [(4, (.bool false)), (6, (.int .i64 u.channel)), (5, (.pointer (some ⟨b_1, 0, none⟩))), (3, (.pointer (some ⟨b_3, 0, none⟩))), (2, (.pointer (some ⟨b_1, 0, none⟩))), (0, (.agg (ua u u.A u.c))), (1, (.agg (ua v v.A v.c)))]) (by kernel_rfl)
      refine then_normal (wp_ret ?_)
      refine H.ret1 (fn := Tryd.f21) Tryd.results21 (RV.tmp_ (v := (.bool false)) (by kernel_rfl)) ?_
      exact ⟨by unfold sameU; simp only [g10, g17, g24, g31, g38, Bool.true_and, Bool.false_and, Bool.and_true], (HP.below (by kernel_rfl))⟩
    ·have g31p := ne_of_beq_false g31
     refine H.s 32 fun a H => ?_
     refine H.s 33 fun a H => ?_
     refine H.s 34 fun a H => ?_
     refine H.s 35 fun a H => ?_
     refine H.s 36 fun a H => ?_
     refine H.v 37 (.bool false) fun a H => ?_
     refine H.v 38 (.bool false) fun a H => ?_
     refine H.s 39 fun a H => ?_
     refine H.s 40 fun a H => ?_
     refine H.s 41 fun a H => ?_
     refine H.s 42 fun a H => ?_
     refine H.s 43 fun a H => ?_
     refine H.v 44 (.bool false) fun a H => ?_
     refine H.v 45 (.bool false) fun a H => ?_
     refine H.s 46 fun a H => ?_
     refine H.s 47 fun a H => ?_
     refine H.s 48 fun a H => ?_
     refine H.s 49 fun a H => ?_
     refine H.s 50 fun a H => ?_
     refine H.v 51 (.bool false) fun a H => ?_
     refine H.v 52 (.bool false) fun a H => ?_
     refine H.s 53 fun a H => ?_
     refine H.s 54 fun a H => ?_
     refine H.s 55 fun a H => ?_
     refine H.s 56 fun a H => ?_
     refine H.s 57 fun a H => ?_
     refine H.v 58 (.bool false) fun a H => ?_
     refine H.v 59 (.bool false) fun a H => ?_
     refine H.s 60 fun a H => ?_
     refine H.s 61 fun a H => ?_
     refine H.s 62 fun a H => ?_
     refine H.s 63 fun a H => ?_
     refine H.s 64 fun a H => ?_
     refine H.v 65 (.bool false) fun a H => ?_
     refine H.v 66 (.bool false) fun a H => ?_
     refine H.s 67 fun a H => ?_
     refine H.s 68 fun a H => ?_
     refine H.s 69 fun a H => ?_
     refine H.s 70 fun a H => ?_
     refine H.s 71 fun a H => ?_
     refine H.v 72 (.bool false) fun a H => ?_
     refine H.v 73 (.bool false) fun a H => ?_
     refine H.s 74 fun a H => ?_
     refine H.s 75 fun a H => ?_
     refine H.s 76 fun a H => ?_
     refine H.s 77 fun a H => ?_
     refine H.s 78 fun a H => ?_
     refine H.v 79 (.bool false) fun a H => ?_
     refine H.v 4 (.bool false) fun a H => ?_
     refine wpList_nil ?_
     have H := H.keep (L' := [(4, (.bool false)), (6, (.int .i64 u.channel)), (5, (.pointer (some ⟨b_1, 0, none⟩))), (3, (.pointer (some ⟨b_3, 0, none⟩))), (2, (.pointer (some ⟨b_1, 0, none⟩))), (0, (.agg (ua u u.A u.c))), (1, (.agg (ua v v.A v.c)))]) (by kernel_rfl)
     refine then_normal (wp_ret ?_)
     refine H.ret1 (fn := Tryd.f21) Tryd.results21 (RV.tmp_ (v := (.bool false)) (by kernel_rfl)) ?_
     exact ⟨by unfold sameU; simp only [g10, g17, g24, g31, Bool.true_and, Bool.false_and, Bool.and_true], (HP.below (by kernel_rfl))⟩
   ·have g24p := ne_of_beq_false g24
    refine H.s 25 fun a H => ?_
    refine H.s 26 fun a H => ?_
    refine H.s 27 fun a H => ?_
    refine H.s 28 fun a H => ?_
    refine H.s 29 fun a H => ?_
    refine H.v 30 (.bool false) fun a H => ?_
    refine H.v 31 (.bool false) fun a H => ?_
    refine H.s 32 fun a H => ?_
    refine H.s 33 fun a H => ?_
    refine H.s 34 fun a H => ?_
    refine H.s 35 fun a H => ?_
    refine H.s 36 fun a H => ?_
    refine H.v 37 (.bool false) fun a H => ?_
    refine H.v 38 (.bool false) fun a H => ?_
    refine H.s 39 fun a H => ?_
    refine H.s 40 fun a H => ?_
    refine H.s 41 fun a H => ?_
    refine H.s 42 fun a H => ?_
    refine H.s 43 fun a H => ?_
    refine H.v 44 (.bool false) fun a H => ?_
    refine H.v 45 (.bool false) fun a H => ?_
    refine H.s 46 fun a H => ?_
    refine H.s 47 fun a H => ?_
    refine H.s 48 fun a H => ?_
    refine H.s 49 fun a H => ?_
    refine H.s 50 fun a H => ?_
    refine H.v 51 (.bool false) fun a H => ?_
    refine H.v 52 (.bool false) fun a H => ?_
    refine H.s 53 fun a H => ?_
    refine H.s 54 fun a H => ?_
    refine H.s 55 fun a H => ?_
    refine H.s 56 fun a H => ?_
    refine H.s 57 fun a H => ?_
    refine H.v 58 (.bool false) fun a H => ?_
    refine H.v 59 (.bool false) fun a H => ?_
    refine H.s 60 fun a H => ?_
    refine H.s 61 fun a H => ?_
    refine H.s 62 fun a H => ?_
    refine H.s 63 fun a H => ?_
    refine H.s 64 fun a H => ?_
    refine H.v 65 (.bool false) fun a H => ?_
    refine H.v 66 (.bool false) fun a H => ?_
    refine H.s 67 fun a H => ?_
    refine H.s 68 fun a H => ?_
    refine H.s 69 fun a H => ?_
    refine H.s 70 fun a H => ?_
    refine H.s 71 fun a H => ?_
    refine H.v 72 (.bool false) fun a H => ?_
    refine H.v 73 (.bool false) fun a H => ?_
    refine H.s 74 fun a H => ?_
    refine H.s 75 fun a H => ?_
    refine H.s 76 fun a H => ?_
    refine H.s 77 fun a H => ?_
    refine H.s 78 fun a H => ?_
    refine H.v 79 (.bool false) fun a H => ?_
    refine H.v 4 (.bool false) fun a H => ?_
    refine wpList_nil ?_
    have H := H.keep (L' := [(4, (.bool false)), (6, (.int .i64 u.channel)), (5, (.pointer (some ⟨b_1, 0, none⟩))), (3, (.pointer (some ⟨b_3, 0, none⟩))), (2, (.pointer (some ⟨b_1, 0, none⟩))), (0, (.agg (ua u u.A u.c))), (1, (.agg (ua v v.A v.c)))]) (by kernel_rfl)
    refine then_normal (wp_ret ?_)
    refine H.ret1 (fn := Tryd.f21) Tryd.results21 (RV.tmp_ (v := (.bool false)) (by kernel_rfl)) ?_
    exact ⟨by unfold sameU; simp only [g10, g17, g24, Bool.true_and, Bool.false_and, Bool.and_true], (HP.below (by kernel_rfl))⟩
  ·have g17p := ne_of_beq_false g17
   refine H.s 18 fun a H => ?_
   refine H.s 19 fun a H => ?_
   refine H.s 20 fun a H => ?_
   refine H.s 21 fun a H => ?_
   refine H.s 22 fun a H => ?_
   refine H.v 23 (.bool false) fun a H => ?_
   refine H.v 24 (.bool false) fun a H => ?_
   refine H.s 25 fun a H => ?_
   refine H.s 26 fun a H => ?_
   refine H.s 27 fun a H => ?_
   refine H.s 28 fun a H => ?_
   refine H.s 29 fun a H => ?_
   refine H.v 30 (.bool false) fun a H => ?_
   refine H.v 31 (.bool false) fun a H => ?_
   refine H.s 32 fun a H => ?_
   refine H.s 33 fun a H => ?_
   refine H.s 34 fun a H => ?_
   refine H.s 35 fun a H => ?_
   refine H.s 36 fun a H => ?_
   refine H.v 37 (.bool false) fun a H => ?_
   refine H.v 38 (.bool false) fun a H => ?_
   refine H.s 39 fun a H => ?_
   refine H.s 40 fun a H => ?_
   refine H.s 41 fun a H => ?_
   refine H.s 42 fun a H => ?_
   refine H.s 43 fun a H => ?_
   refine H.v 44 (.bool false) fun a H => ?_
   refine H.v 45 (.bool false) fun a H => ?_
   refine H.s 46 fun a H => ?_
   refine H.s 47 fun a H => ?_
   refine H.s 48 fun a H => ?_
   refine H.s 49 fun a H => ?_
   refine H.s 50 fun a H => ?_
   refine H.v 51 (.bool false) fun a H => ?_
   refine H.v 52 (.bool false) fun a H => ?_
   refine H.s 53 fun a H => ?_
   refine H.s 54 fun a H => ?_
   refine H.s 55 fun a H => ?_
   refine H.s 56 fun a H => ?_
   refine H.s 57 fun a H => ?_
   refine H.v 58 (.bool false) fun a H => ?_
   refine H.v 59 (.bool false) fun a H => ?_
   refine H.s 60 fun a H => ?_
   refine H.s 61 fun a H => ?_
   refine H.s 62 fun a H => ?_
   refine H.s 63 fun a H => ?_
   refine H.s 64 fun a H => ?_
   refine H.v 65 (.bool false) fun a H => ?_
   refine H.v 66 (.bool false) fun a H => ?_
   refine H.s 67 fun a H => ?_
   refine H.s 68 fun a H => ?_
   refine H.s 69 fun a H => ?_
   refine H.s 70 fun a H => ?_
   refine H.s 71 fun a H => ?_
   refine H.v 72 (.bool false) fun a H => ?_
   refine H.v 73 (.bool false) fun a H => ?_
   refine H.s 74 fun a H => ?_
   refine H.s 75 fun a H => ?_
   refine H.s 76 fun a H => ?_
   refine H.s 77 fun a H => ?_
   refine H.s 78 fun a H => ?_
   refine H.v 79 (.bool false) fun a H => ?_
   refine H.v 4 (.bool false) fun a H => ?_
   refine wpList_nil ?_
   have H := H.keep (L' := [(4, (.bool false)), (6, (.int .i64 u.channel)), (5, (.pointer (some ⟨b_1, 0, none⟩))), (3, (.pointer (some ⟨b_3, 0, none⟩))), (2, (.pointer (some ⟨b_1, 0, none⟩))), (0, (.agg (ua u u.A u.c))), (1, (.agg (ua v v.A v.c)))]) (by kernel_rfl)
   refine then_normal (wp_ret ?_)
   refine H.ret1 (fn := Tryd.f21) Tryd.results21 (RV.tmp_ (v := (.bool false)) (by kernel_rfl)) ?_
   exact ⟨by unfold sameU; simp only [g10, g17, Bool.true_and, Bool.false_and, Bool.and_true], (HP.below (by kernel_rfl))⟩
 ·have g10p := ne_of_beq_false g10
  refine H.s 11 fun a H => ?_
  refine H.s 12 fun a H => ?_
  refine H.s 13 fun a H => ?_
  refine H.s 14 fun a H => ?_
  refine H.s 15 fun a H => ?_
  refine H.v 16 (.bool false) fun a H => ?_
  refine H.v 17 (.bool false) fun a H => ?_
  refine H.s 18 fun a H => ?_
  refine H.s 19 fun a H => ?_
  refine H.s 20 fun a H => ?_
  refine H.s 21 fun a H => ?_
  refine H.s 22 fun a H => ?_
  refine H.v 23 (.bool false) fun a H => ?_
  refine H.v 24 (.bool false) fun a H => ?_
  refine H.s 25 fun a H => ?_
  refine H.s 26 fun a H => ?_
  refine H.s 27 fun a H => ?_
  refine H.s 28 fun a H => ?_
  refine H.s 29 fun a H => ?_
  refine H.v 30 (.bool false) fun a H => ?_
  refine H.v 31 (.bool false) fun a H => ?_
  refine H.s 32 fun a H => ?_
  refine H.s 33 fun a H => ?_
  refine H.s 34 fun a H => ?_
  refine H.s 35 fun a H => ?_
  refine H.s 36 fun a H => ?_
  refine H.v 37 (.bool false) fun a H => ?_
  refine H.v 38 (.bool false) fun a H => ?_
  refine H.s 39 fun a H => ?_
  refine H.s 40 fun a H => ?_
  refine H.s 41 fun a H => ?_
  refine H.s 42 fun a H => ?_
  refine H.s 43 fun a H => ?_
  refine H.v 44 (.bool false) fun a H => ?_
  refine H.v 45 (.bool false) fun a H => ?_
  refine H.s 46 fun a H => ?_
  refine H.s 47 fun a H => ?_
  refine H.s 48 fun a H => ?_
  refine H.s 49 fun a H => ?_
  refine H.s 50 fun a H => ?_
  refine H.v 51 (.bool false) fun a H => ?_
  refine H.v 52 (.bool false) fun a H => ?_
  refine H.s 53 fun a H => ?_
  refine H.s 54 fun a H => ?_
  refine H.s 55 fun a H => ?_
  refine H.s 56 fun a H => ?_
  refine H.s 57 fun a H => ?_
  refine H.v 58 (.bool false) fun a H => ?_
  refine H.v 59 (.bool false) fun a H => ?_
  refine H.s 60 fun a H => ?_
  refine H.s 61 fun a H => ?_
  refine H.s 62 fun a H => ?_
  refine H.s 63 fun a H => ?_
  refine H.s 64 fun a H => ?_
  refine H.v 65 (.bool false) fun a H => ?_
  refine H.v 66 (.bool false) fun a H => ?_
  refine H.s 67 fun a H => ?_
  refine H.s 68 fun a H => ?_
  refine H.s 69 fun a H => ?_
  refine H.s 70 fun a H => ?_
  refine H.s 71 fun a H => ?_
  refine H.v 72 (.bool false) fun a H => ?_
  refine H.v 73 (.bool false) fun a H => ?_
  refine H.s 74 fun a H => ?_
  refine H.s 75 fun a H => ?_
  refine H.s 76 fun a H => ?_
  refine H.s 77 fun a H => ?_
  refine H.s 78 fun a H => ?_
  refine H.v 79 (.bool false) fun a H => ?_
  refine H.v 4 (.bool false) fun a H => ?_
  refine wpList_nil ?_
  have H := H.keep (L' := [(4, (.bool false)), (6, (.int .i64 u.channel)), (5, (.pointer (some ⟨b_1, 0, none⟩))), (3, (.pointer (some ⟨b_3, 0, none⟩))), (2, (.pointer (some ⟨b_1, 0, none⟩))), (0, (.agg (ua u u.A u.c))), (1, (.agg (ua v v.A v.c)))]) (by kernel_rfl)
  refine then_normal (wp_ret ?_)
  refine H.ret1 (fn := Tryd.f21) Tryd.results21 (RV.tmp_ (v := (.bool false)) (by kernel_rfl)) ?_
  exact ⟨by unfold sameU; simp only [g10, Bool.true_and, Bool.false_and, Bool.and_true], (HP.below (by kernel_rfl))⟩
set_option maxRecDepth 100000 in
set_option maxHeartbeats 4000000 in
theorem stream_any (l : List UInt8) (w : World) (hl : l.length ≤ 1000000) :
  Calls Tryd.prog 40 #[.string (bstr l)] w fun e w' => e = .returned (strmV (streamP l)) ∧ Below w.heap.size w w' := by
 have HP := Hp.start w
 refine w_enter 46 [(0, (.string (bstr l)))] Tryd.func40 rfl Tryd.ntmps40 (by kernel_rfl) (by kernel_rfl) fun a H => ?_
 refine wp_seq (w_region ?_)
 refine H.v 2 (.string (bstr ([]))) fun a H => ?_
 refine H.v 3 (.bool false) fun a H => ?_
 refine wpList_nil (then_normal (wp_seq (wp_seq (w_region ?_))))
 refine H.v 8 (.string (bstr l)) fun a H => ?_
 refine H.v 9 (.int .i64 ((l.length : Nat) : Int)) fun a H => ?_
 refine H.v 10 (.bool (((l.length : Nat) : Int) == 0)) fun a H => ?_
 refine H.v 11 (.bool (((l.length : Nat) : Int) == 0)) fun a H => ?_
 refine H.split 11 rfl (fun g11 H => ?_) (fun g11 H => ?_)
 ·have g11p := eq_of_beq g11
  refine H.s 12 fun a H => ?_
  refine H.s 13 fun a H => ?_
  refine H.s 14 fun a H => ?_
  refine H.s 15 fun a H => ?_
  refine H.v 16 (.bool true) fun a H => ?_
  refine wpList_nil (then_normal ?_)
  refine w_ift H rfl ?_
  refine wp_seq (w_region ?_)
  refine H.v 2 (.string (bstr ([]))) fun a H => ?_
  refine H.v 3 (.bool false) fun a H => ?_
  refine wpList_nil (then_normal (wp_ret (then_ret ?_)))
  refine H.ret2 (fn := Tryd.f40) Tryd.results40 (RV.tmp_ (v := (.string (bstr ([])))) (by kernel_rfl)) (RV.tmp_ (v := (.bool false)) (by kernel_rfl)) ?_
  exact ⟨by unfold streamP; rw [if_pos (by omega)]; rfl, (HP.below (by kernel_rfl))⟩
 ·have g11p := ne_of_beq_false g11
  refine H.v 12 (.string (bstr l)) fun a H => ?_
  refine H.v 13 (.int .i64 ((l.length : Nat) : Int)) fun a H => ?_
  refine H.valE 14 (.int .i64 (((l.length : Nat) : Int).tmod 64)) (.int .i64 (((l.length : Nat) : Int) % 64)) (by kernel_rfl) (by kernel_rfl) ((by rw [tmod_nn _ _ (by omega)])) fun a H => ?_
  refine H.v 15 (.bool ((((l.length : Nat) : Int) % 64) != 0)) fun a H => ?_
  refine H.v 16 (.bool ((((l.length : Nat) : Int) % 64) != 0)) fun a H => ?_
  refine wpList_nil (then_normal ?_)
  refine w_if H rfl (fun g16 => ?_) (fun g16 => ?_)
  ·have g16p := bne_iff_ne.1 g16
   refine wp_seq (w_region ?_)
   refine H.v 2 (.string (bstr ([]))) fun a H => ?_
   refine H.v 3 (.bool false) fun a H => ?_
   refine wpList_nil (then_normal (wp_ret (then_ret ?_)))
   refine H.ret2 (fn := Tryd.f40) Tryd.results40 (RV.tmp_ (v := (.string (bstr ([])))) (by kernel_rfl)) (RV.tmp_ (v := (.bool false)) (by kernel_rfl)) ?_
   exact ⟨by unfold streamP; rw [if_pos (by omega)]; rfl, (HP.below (by kernel_rfl))⟩
  ·have g16p := eq_of_bne_false g16
   refine wp_skip (then_normal (wp_seq (w_region ?_)))
   refine H.alloc HP 4 (fun b => (.pointer (some ⟨b, 0, none⟩))) 59 [(.pointer none), (.slice none 0 0)] (by kernel_rfl) (fun w => by kernel_rfl) fun b_1 w_2 a H HP => ?_
   refine wpList_nil ?_
   have HP := HP.toBld 0 5 rfl [(bldR w.heap.size b_1 (.slice none 0 0) [])] (by kernel_rfl)
   obtain ⟨N, hN⟩ : ∃ N, l.length / 64 = N := ⟨_, rfl⟩
   have hlN : l.length = 64 * N := by omega
   refine then_normal (wp_seq (wp_seq (w_region ?_)))
   refine H.v 17 (.string (bstr l)) fun a H => ?_
   refine H.v 18 (.int .i64 ((l.length : Nat) : Int)) fun a H => ?_
   refine H.valE 19 (.int .i64 (IntKind.i64.wrap (((l.length : Nat) : Int).tdiv 64))) (.int .i64 ((N : Nat) : Int)) (by kernel_rfl) (by kernel_rfl) ((by rw [tdiv_nn _ _ (by omega), wrap_ini64 _ (by omega)]; exact congrArg (Value.int .i64) (by omega))) fun a H => ?_
   refine H.v 20 (.int .i64 0) fun a H => ?_
   refine wpList_nil (then_normal (wp_block ?_))
   refine w_loop (fun mm a wv => ∃ (j : Nat), ∃ (v1 : Value), N - j = mm ∧ Sl 46 [(20, (.int .i64 ((j : Nat) : Int))), (19, (.int .i64 ((N : Nat) : Int))), (4, (.pointer (some ⟨b_1, 0, none⟩))), (0, (.string (bstr l))), (2, (.string (bstr ([])))), (3, (.bool false))] a ∧ Hp w wv [(bldR w.heap.size b_1 v1 (payTo l j))] [] ∧ (j ≤ N) ∧ (payOk l j = true)) (N - 0) ?_ ?_
   ·exact ⟨0, (.slice none 0 0), (by omega), H.keep (by kernel_rfl), HP, by omega, rfl⟩
   rintro mm a w_3 ⟨j, v1, hmeas, H, HP, hj, hok⟩
   refine wp_seq (w_region ?_)
   refine H.v 21 (.bool (decide (((j : Nat) : Int) < ((N : Nat) : Int)))) fun a H => ?_
   refine wpList_nil (then_normal (wp_seq ?_))
   refine w_if H rfl (fun g21 => ?_) (fun g21 => ?_)
   ·have g21p := of_decide_eq_true g21
    refine wp_skip (then_normal (wp_seq (wp_block (wp_seq (w_region ?_)))))
    refine H.v 22 (.int .i64 ((j : Nat) : Int)) fun a H => ?_
    refine H.v 5 (.int .i64 ((j : Nat) : Int)) fun a H => ?_
    refine wpList_nil (then_normal (wp_seq (w_region ?_)))
    refine H.v 23 (.string (bstr l)) fun a H => ?_
    refine H.v 24 (.int .i64 ((j : Nat) : Int)) fun a H => ?_
    refine H.valE 25 (.int .i64 (IntKind.i64.wrap (((j : Nat) : Int) * 64))) (.int .i64 ((64 * j : Nat) : Int)) (by kernel_rfl) (by kernel_rfl) ((by rw [wrap_ini64 _ (by omega)]; exact congrArg (Value.int .i64) (by omega))) fun a H => ?_
    refine H.v 26 (.int .i64 ((j : Nat) : Int)) fun a H => ?_
    refine H.valE 27 (.int .i64 (IntKind.i64.wrap (((j : Nat) : Int) + 1))) (.int .i64 (((j : Nat) : Int) + 1)) (by kernel_rfl) (by kernel_rfl) ((by rw [wrap_ini64 _ (by omega)])) fun a H => ?_
    refine H.valE 28 (.int .i64 (IntKind.i64.wrap ((((j : Nat) : Int) + 1) * 64))) (.int .i64 ((64 * j + 64 : Nat) : Int)) (by kernel_rfl) (by kernel_rfl) ((by rw [wrap_ini64 _ (by omega)]; exact congrArg (Value.int .i64) (by omega))) fun a H => ?_
    refine H.u 29 (.string (bstr ((l.drop (64 * j)).take ((64 * j + 64) - (64 * j))))) (ex_sslice (k := .i64) (kk := .i64) (l := l) (i := ((64 * j : Nat) : Int)) (j := ((64 * j + 64 : Nat) : Int)) (a := (64 * j)) (b := (64 * j + 64)) (by kernel_rfl) (by kernel_rfl) (by kernel_rfl) (by kernel_rfl) (by omega) (by omega) (by omega) (by omega)) fun a H => ?_
    refine H.v 6 (.string (bstr ((l.drop (64 * j)).take ((64 * j + 64) - (64 * j))))) fun a H => ?_
    refine wpList_nil ?_
    obtain ⟨p, hp⟩ : ∃ p, (l.drop (64 * j)).take (64 * j + 64 - (64 * j)) = p := ⟨_, rfl⟩
    have hpl : p.length = 64 := by rw [← hp, List.length_take, List.length_drop]; omega
    have hp4 : p.getD 4 0 = l.getD (64 * j + 4) 0 := by rw [← hp]; exact cut_getD (by omega) (by omega)
    rw [hp] at H
    have H := H.keep (L' := [(6, (.string (bstr p))), (5, (.int .i64 ((j : Nat) : Int))), (20, (.int .i64 ((j : Nat) : Int))), (19, (.int .i64 ((N : Nat) : Int))), (4, (.pointer (some ⟨b_1, 0, none⟩))), (0, (.string (bstr l))), (2, (.string (bstr ([])))), (3, (.bool false))]) (by kernel_rfl)
    refine then_normal (wp_seq ?_)
    have hp4b := byte_lt (p.getD 4 0)
    refine w_region ?_
    refine H.v 30 (.string (bstr p)) fun a H => ?_
    refine H.u 31 (.int .u8 (((p.getD 4 0).toNat : Nat) : Int)) (ex_sindex (k := .i64) (l := p) (i := 4) (m := 4) (by kernel_rfl) (by kernel_rfl) (by kernel_rfl) (by omega) (by omega)) fun a H => ?_
    refine H.valE 32 (.int .i64 (IntKind.i64.wrap (((p.getD 4 0).toNat : Nat) : Int))) (.int .i64 (((p.getD 4 0).toNat : Nat) : Int)) (by kernel_rfl) (by kernel_rfl) ((by rw [wrap_ini64 _ (by omega)])) fun a H => ?_
    refine H.v 7 (.int .i64 (((p.getD 4 0).toNat : Nat) : Int)) fun a H => ?_
    refine wpList_nil ?_
    obtain ⟨n, hn⟩ : ∃ n, (p.getD 4 0).toNat = n := ⟨_, rfl⟩
    have hnb : n < 256 := by rw [← hn]; exact byte_lt _
    have hpn : payN l j = n := by unfold payN; rw [← hp4]; exact hn
    rw [hn] at H
    have H := H.keep (L' := [(7, (.int .i64 ((n : Nat) : Int))), (6, (.string (bstr p))), (5, (.int .i64 ((j : Nat) : Int))), (20, (.int .i64 ((j : Nat) : Int))), (19, (.int .i64 ((N : Nat) : Int))), (4, (.pointer (some ⟨b_1, 0, none⟩))), (0, (.string (bstr l))), (2, (.string (bstr ([])))), (3, (.bool false))]) (by kernel_rfl)
    refine then_normal (wp_seq (wp_seq (w_region ?_)))
    refine H.v 33 (.int .i64 ((n : Nat) : Int)) fun a H => ?_
    refine H.v 34 (.bool (decide (((n : Nat) : Int) < 1))) fun a H => ?_
    refine H.v 35 (.bool (decide (((n : Nat) : Int) < 1))) fun a H => ?_
    refine H.split 35 rfl (fun g35 H => ?_) (fun g35 H => ?_)
    ·have g35p := of_decide_eq_true g35
     refine H.s 36 fun a H => ?_
     refine H.s 37 fun a H => ?_
     refine H.v 38 (.bool true) fun a H => ?_
     refine wpList_nil (then_normal ?_)
     refine w_ift H rfl ?_
     refine wp_seq (w_region ?_)
     refine H.v 2 (.string (bstr ([]))) fun a H => ?_
     refine H.v 3 (.bool false) fun a H => ?_
     refine wpList_nil (then_normal (wp_ret (then_ret (inb_ret (then_ret (then_ret (inb_ret (then_ret ?_))))))))
     refine H.ret2 (fn := Tryd.f40) Tryd.results40 (RV.tmp_ (v := (.string (bstr ([])))) (by kernel_rfl)) (RV.tmp_ (v := (.bool false)) (by kernel_rfl)) ?_
     exact ⟨by unfold streamP; rw [hN, if_pos (.inr (.inr (payOk_bad (j := j) (by omega) (by omega))))]; rfl, (HP.below (by kernel_rfl))⟩
    ·have g35p := of_decide_eq_false g35
     refine H.v 36 (.int .i64 ((n : Nat) : Int)) fun a H => ?_
     refine H.v 37 (.bool (decide (((n : Nat) : Int) > 59))) fun a H => ?_
     refine H.v 38 (.bool (decide (((n : Nat) : Int) > 59))) fun a H => ?_
     refine wpList_nil (then_normal ?_)
     refine w_if H rfl (fun g38 => ?_) (fun g38 => ?_)
     ·have g38p := of_decide_eq_true g38
      refine wp_seq (w_region ?_)
      refine H.v 2 (.string (bstr ([]))) fun a H => ?_
      refine H.v 3 (.bool false) fun a H => ?_
      refine wpList_nil (then_normal (wp_ret (then_ret (inb_ret (then_ret (then_ret (inb_ret (then_ret ?_))))))))
      refine H.ret2 (fn := Tryd.f40) Tryd.results40 (RV.tmp_ (v := (.string (bstr ([])))) (by kernel_rfl)) (RV.tmp_ (v := (.bool false)) (by kernel_rfl)) ?_
      exact ⟨by unfold streamP; rw [hN, if_pos (.inr (.inr (payOk_bad (j := j) (by omega) (by omega))))]; rfl, (HP.below (by kernel_rfl))⟩
     ·have g38p := of_decide_eq_false g38
      refine wp_skip (then_normal (w_region ?_))
      refine H.v 39 (.string (bstr p)) fun a H => ?_
      refine H.v 40 (.int .i64 ((n : Nat) : Int)) fun a H => ?_
      refine H.valE 41 (.int .i64 (IntKind.i64.wrap (5 + ((n : Nat) : Int)))) (.int .i64 ((5 + n : Nat) : Int)) (by kernel_rfl) (by kernel_rfl) ((by rw [wrap_ini64 _ (by omega)]; exact congrArg (Value.int .i64) (by omega))) fun a H => ?_
      refine H.u 42 (.string (bstr ((p.drop 5).take ((5 + n) - 5)))) (ex_sslice (k := .i64) (kk := .i64) (l := p) (i := 5) (j := ((5 + n : Nat) : Int)) (a := 5) (b := (5 + n)) (by kernel_rfl) (by kernel_rfl) (by kernel_rfl) (by kernel_rfl) (by omega) (by omega) (by omega) (by omega)) fun a H => ?_
      have hpay : payAt l j = (p.drop 5).take ((5 + n) - 5) := by unfold payAt; rw [hpn, ← hp]; exact cut_pay (by omega) (by omega)
      refine H.call 43 (by kernel_rfl) (Eq.trans (by kernel_rfl : _ = (callFunc 64 #[(.pointer (some ⟨b_1, 0, none⟩)), (.string (bstr ((p.drop 5).take ((5 + n) - 5))))]).run Tryd.prog w_3) (Tryd.call64 _ _)) (writeStr_any w.heap.size b_1 v1 (payTo l j) ((p.drop 5).take ((5 + n) - 5)) w_3 (HP.held 0 rfl) (by have h1 := payTo_len hok; rw [List.length_take, List.length_drop]; omega) HP.size) ?_
      rintro e w_5 ⟨rfl, v_4, hF, hag, hvn⟩
      refine ⟨_, rfl, ?_⟩
      intro a H
      have HP := HP.wrote 0 rfl [(bldR w.heap.size b_1 v_4 ((payTo l j) ++ ((p.drop 5).take ((5 + n) - 5))))] (by kernel_rfl) hF hag hvn
      refine wpList_nil (inb_normal (then_normal (w_region ?_)))
      refine H.valE 44 (.int .i64 (IntKind.i64.wrap (((j : Nat) : Int) + 1))) (.int .i64 (((j : Nat) : Int) + 1)) (by kernel_rfl) (by kernel_rfl) ((by rw [wrap_ini64 _ (by omega)])) fun a H => ?_
      refine H.v 20 (.int .i64 (((j : Nat) : Int) + 1)) fun a H => ?_
      refine wpList_nil (then_normal ?_)
      have H := H.as 20 (.int .i64 ((j + 1 : Nat) : Int)) rfl rfl
      refine ⟨_, ?_, j + 1, v_4, rfl, H.keep (by kernel_rfl), (by rw [payTo_succ, hpay]; exact HP), by omega, payOk_succ hok (by omega)⟩
      omega
   ·have g21p := of_decide_eq_false g21
    refine wp_exit (then_exit (then_exit ?_))
    refine w_exit_here ?_
    refine then_normal (wp_seq (w_region ?_))
    refine H.call 45 (by kernel_rfl) (Eq.trans (by kernel_rfl : _ = (callFunc 32 #[(.pointer (some ⟨b_1, 0, none⟩))]).run Tryd.prog w_3) (Tryd.call32 _ _)) (str_any w.heap.size b_1 v1 (payTo l j) w_3 (HP.held 0 rfl) (by intro h; have h1 := payTo_ge hok (by omega); rw [h] at h1; simp at h1; omega)) ?_
    rintro e w_6 ⟨rfl, hF, hag⟩
    refine ⟨_, rfl, ?_⟩
    intro a H
    have HP := HP.wrote 0 rfl [(bldR w.heap.size b_1 v1 (payTo l j))] (by kernel_rfl) hF hag (fun k hk => .inl hk)
    refine H.v 2 (.string (bstr (payTo l j))) fun a H => ?_
    refine H.v 3 (.bool true) fun a H => ?_
    refine wpList_nil (then_normal (wp_ret ?_))
    refine H.ret2 (fn := Tryd.f40) Tryd.results40 (RV.tmp_ (v := (.string (bstr (payTo l j)))) (by kernel_rfl)) (RV.tmp_ (v := (.bool true)) (by kernel_rfl)) ?_
    exact ⟨by unfold streamP; have hjN : j = N := (by omega); subst hjN; rw [hN, if_neg (by rintro (h | h | h); omega; omega; rw [hok] at h; cases h)]; rfl, (HP.below (by kernel_rfl))⟩
set_option maxRecDepth 100000 in
set_option maxHeartbeats 4000000 in
theorem num_bad (b : Nat) (s : List UInt8) (k : Nat) (w : World) (h : Box w b 76 [Value.string (bstr s), .int .i64 ((k : Nat) : Int), .bool true].toArray) (hl : s.length ≤ 9000000000000000000) (hk : k ≤ s.length)  :
  Calls Tryd.prog 41 #[.pointer (some ⟨b, 0, none⟩)] w fun e w' => e = .returned (.int .i64 (rnum s (k, true)).1) ∧ Box w' b 76 (rdCells s (rnum s (k, true)).2).toArray ∧ w.grownBy w' (some b) := by
 have HP := Hp.own (vs := [.string (bstr s), .int .i64 ((k : Nat) : Int), .bool true]) h
 refine w_enter 33 [(0, (.pointer (some ⟨b, 0, none⟩)))] Tryd.func41 rfl Tryd.ntmps41 (by kernel_rfl) (by kernel_rfl) fun a H => ?_
 refine wp_seq (w_region ?_)
 refine H.v 2 (.int .i64 0) fun a H => ?_
 refine wpList_nil (then_normal (wp_seq (wp_seq (w_region ?_))))
 refine H.v 6 (.pointer (some ⟨b, 0, none⟩)) fun a H => ?_
 refine H.v 7 (.pointer (some ⟨b, 0, none⟩)) fun a H => ?_
 refine H.v 8 (.pointer (some ⟨b, 2, none⟩)) fun a H => ?_
 refine H.u 9 (.bool true) (ex_load1 (by kernel_rfl) (by kernel_rfl) (HP.cell 0 rfl 2 rfl)) fun a H => ?_
 refine wpList_nil (then_normal ?_)
 refine w_ift H rfl ?_
 refine wp_seq (w_region ?_)
 refine H.v 2 (.int .i64 0) fun a H => ?_
 refine wpList_nil (then_normal (wp_ret (then_ret ?_)))
 refine H.ret1 (fn := Tryd.f41) Tryd.results41 (RV.tmp_ (v := (.int .i64 0)) (by kernel_rfl)) ?_
 exact ⟨by unfold rnum; rw [if_pos rfl] <;> rfl, by unfold rnum; rw [if_pos rfl]; exact HP.at_ 0 rfl, HP.only b (by intro x hx; simp only [List.mem_cons, List.not_mem_nil, or_false] at hx; rcases hx with rfl <;> simp [bx])⟩
set_option maxRecDepth 100000 in
set_option maxHeartbeats 4000000 in
theorem num_none (b : Nat) (s : List UInt8) (k : Nat) (w : World) (h : Box w b 76 [Value.string (bstr s), .int .i64 ((k : Nat) : Int), .bool false].toArray) (hl : s.length ≤ 9000000000000000000) (hk : k ≤ s.length) (hR : rdInt s k = none) :
  Calls Tryd.prog 41 #[.pointer (some ⟨b, 0, none⟩)] w fun e w' => e = .returned (.int .i64 (rnum s (k, false)).1) ∧ Box w' b 76 (rdCells s (rnum s (k, false)).2).toArray ∧ w.grownBy w' (some b) := by
 have HP := Hp.own (vs := [.string (bstr s), .int .i64 ((k : Nat) : Int), .bool false]) h
 refine w_enter 33 [(0, (.pointer (some ⟨b, 0, none⟩)))] Tryd.func41 rfl Tryd.ntmps41 (by kernel_rfl) (by kernel_rfl) fun a H => ?_
 refine wp_seq (w_region ?_)
 refine H.v 2 (.int .i64 0) fun a H => ?_
 refine wpList_nil (then_normal (wp_seq (wp_seq (w_region ?_))))
 refine H.v 6 (.pointer (some ⟨b, 0, none⟩)) fun a H => ?_
 refine H.v 7 (.pointer (some ⟨b, 0, none⟩)) fun a H => ?_
 refine H.v 8 (.pointer (some ⟨b, 2, none⟩)) fun a H => ?_
 refine H.u 9 (.bool false) (ex_load1 (by kernel_rfl) (by kernel_rfl) (HP.cell 0 rfl 2 rfl)) fun a H => ?_
 refine wpList_nil (then_normal ?_)
 refine w_iff H rfl ?_
 refine wp_skip (then_normal (wp_seq ?_))
 refine An.start (fun v => Hp w v [bx b 76 [(.string (bstr s)), (.int .i64 ((k : Nat) : Int)), (.bool false)] false] []) 16 16 HP wide_follows rfl fun w_1 HP => ?_
 refine An.p H (.inr HP) 0 11 (.pointer (some ⟨b, 0, none⟩)) fun a H => ?_
 refine An.p H (.inr HP) 1 12 (.pointer (some ⟨b, 0, none⟩)) fun a H => ?_
 refine An.p H (.inr HP) 2 13 (.pointer (some ⟨b, 0, none⟩)) fun a H => ?_
 refine An.val H (HP) 3 14 (.string (bstr s)) rfl (by kernel_rfl) (by kernel_rfl) (fun _ _ _ h => h) (fun _ hS => ex_load1 (by kernel_rfl) (by kernel_rfl) (hS.cell 0 rfl 0 rfl)) fun a H => ?_
 refine An.p H (.inr HP) 4 15 (.pointer (some ⟨b, 0, none⟩)) fun a H => ?_
 refine An.p H (.inr HP) 5 16 (.pointer (some ⟨b, 0, none⟩)) fun a H => ?_
 refine An.p H (.inr HP) 6 17 (.pointer (some ⟨b, 1, none⟩)) fun a H => ?_
 refine An.val H (HP) 7 18 (.int .i64 ((k : Nat) : Int)) rfl (by kernel_rfl) (by kernel_rfl) (fun _ _ _ h => h) (fun _ hS => ex_load1 (by kernel_rfl) (by kernel_rfl) (hS.cell 0 rfl 1 rfl)) fun a H => ?_
 refine An.one 8 (by kernel_rfl) ?_
 refine Op.call H 19 rfl (by kernel_rfl) (Eq.trans (by kernel_rfl : _ = (callFunc 65 #[(.string (bstr s)), (.int .i64 ((k : Nat) : Int))]).run Tryd.prog w_1) (Tryd.call65 _ _)) ((by have hh := wint_any (bstr s) k w_1 hl hk; rw [show (bstr s).data.toList = s from rfl, hR] at hh; exact hh)) ?_
 rintro e w_2 ⟨rfl, hw⟩
 refine ⟨_, rfl, ?_⟩
 intro a H
 have HP := hw ▸ HP
 refine ⟨.inr (HP), ?_⟩
 refine An.p H (.inr HP) 9 10 (.tuple #[(.int .i64 0), (.int .i64 0), (.int .i64 10)]) fun a H => ?_
 refine An.p H (.inr HP) 10 20 (.int .i64 0) fun a H => ?_
 refine An.p H (.inr HP) 11 21 (.int .i64 0) fun a H => ?_
 refine An.p H (.inr HP) 12 22 (.int .i64 10) fun a H => ?_
 refine An.p H (.inr HP) 13 3 (.int .i64 0) fun a H => ?_
 refine An.p H (.inr HP) 14 4 (.int .i64 0) fun a H => ?_
 refine An.p H (.inr HP) 15 5 (.int .i64 10) fun a H => ?_
 refine An.done (by kernel_rfl) ?_
 refine then_normal (wp_seq (wp_seq (w_region ?_)))
 refine H.v 23 (.int .i64 10) fun a H => ?_
 refine H.v 24 (.bool true) fun a H => ?_
 refine wpList_nil (then_normal ?_)
 refine w_ift H rfl ?_
 refine wp_seq (w_region ?_)
 refine H.v 25 (.pointer (some ⟨b, 0, none⟩)) fun a H => ?_
 refine H.v 26 (.pointer (some ⟨b, 0, none⟩)) fun a H => ?_
 refine H.v 27 (.pointer (some ⟨b, 2, none⟩)) fun a H => ?_
 refine H.store HP 0 b 2 1 76 _ false (.bool true) [bx b 76 [(.string (bstr s)), (.int .i64 ((k : Nat) : Int)), (.bool true)] false] (by kernel_rfl) (by kernel_rfl) (by kernel_rfl) rfl (by kernel_rfl) (by kernel_rfl) (by kernel_rfl) (by kernel_rfl) (by kernel_rfl) fun w_3 a H HP => ?_
 refine wpList_nil (then_normal (wp_seq (w_region ?_)))
 refine H.v 2 (.int .i64 0) fun a H => ?_
 refine wpList_nil (then_normal (wp_ret (then_ret ?_)))
 refine H.ret1 (fn := Tryd.f41) Tryd.results41 (RV.tmp_ (v := (.int .i64 0)) (by kernel_rfl)) ?_
 exact ⟨by unfold rnum; simp only [Bool.false_eq_true, if_false]; rw [hR] <;> rfl, by unfold rnum; simp only [Bool.false_eq_true, if_false]; rw [hR]; exact HP.at_ 0 rfl, HP.only b (by intro x hx; simp only [List.mem_cons, List.not_mem_nil, or_false] at hx; rcases hx with rfl <;> simp [bx])⟩
set_option maxRecDepth 100000 in
set_option maxHeartbeats 4000000 in
theorem num_some (b : Nat) (s : List UInt8) (k : Nat) (w : World) (h : Box w b 76 [Value.string (bstr s), .int .i64 ((k : Nat) : Int), .bool false].toArray) (hl : s.length ≤ 9000000000000000000) (hk : k ≤ s.length) (n : Int) (e : Nat) (hR : rdInt s k = some (n, e)) :
  Calls Tryd.prog 41 #[.pointer (some ⟨b, 0, none⟩)] w fun e w' => e = .returned (.int .i64 (rnum s (k, false)).1) ∧ Box w' b 76 (rdCells s (rnum s (k, false)).2).toArray ∧ w.grownBy w' (some b) := by
 have HP := Hp.own (vs := [.string (bstr s), .int .i64 ((k : Nat) : Int), .bool false]) h
 refine w_enter 33 [(0, (.pointer (some ⟨b, 0, none⟩)))] Tryd.func41 rfl Tryd.ntmps41 (by kernel_rfl) (by kernel_rfl) fun a H => ?_
 refine wp_seq (w_region ?_)
 refine H.v 2 (.int .i64 0) fun a H => ?_
 refine wpList_nil (then_normal (wp_seq (wp_seq (w_region ?_))))
 refine H.v 6 (.pointer (some ⟨b, 0, none⟩)) fun a H => ?_
 refine H.v 7 (.pointer (some ⟨b, 0, none⟩)) fun a H => ?_
 refine H.v 8 (.pointer (some ⟨b, 2, none⟩)) fun a H => ?_
 refine H.u 9 (.bool false) (ex_load1 (by kernel_rfl) (by kernel_rfl) (HP.cell 0 rfl 2 rfl)) fun a H => ?_
 refine wpList_nil (then_normal ?_)
 refine w_iff H rfl ?_
 refine wp_skip (then_normal (wp_seq ?_))
 refine An.start (fun v => Hp w v [bx b 76 [(.string (bstr s)), (.int .i64 ((k : Nat) : Int)), (.bool false)] false] []) 16 16 HP wide_follows rfl fun w_1 HP => ?_
 refine An.p H (.inr HP) 0 11 (.pointer (some ⟨b, 0, none⟩)) fun a H => ?_
 refine An.p H (.inr HP) 1 12 (.pointer (some ⟨b, 0, none⟩)) fun a H => ?_
 refine An.p H (.inr HP) 2 13 (.pointer (some ⟨b, 0, none⟩)) fun a H => ?_
 refine An.val H (HP) 3 14 (.string (bstr s)) rfl (by kernel_rfl) (by kernel_rfl) (fun _ _ _ h => h) (fun _ hS => ex_load1 (by kernel_rfl) (by kernel_rfl) (hS.cell 0 rfl 0 rfl)) fun a H => ?_
 refine An.p H (.inr HP) 4 15 (.pointer (some ⟨b, 0, none⟩)) fun a H => ?_
 refine An.p H (.inr HP) 5 16 (.pointer (some ⟨b, 0, none⟩)) fun a H => ?_
 refine An.p H (.inr HP) 6 17 (.pointer (some ⟨b, 1, none⟩)) fun a H => ?_
 refine An.val H (HP) 7 18 (.int .i64 ((k : Nat) : Int)) rfl (by kernel_rfl) (by kernel_rfl) (fun _ _ _ h => h) (fun _ hS => ex_load1 (by kernel_rfl) (by kernel_rfl) (hS.cell 0 rfl 1 rfl)) fun a H => ?_
 refine An.one 8 (by kernel_rfl) ?_
 refine Op.call H 19 rfl (by kernel_rfl) (Eq.trans (by kernel_rfl : _ = (callFunc 65 #[(.string (bstr s)), (.int .i64 ((k : Nat) : Int))]).run Tryd.prog w_1) (Tryd.call65 _ _)) ((by have hh := wint_any (bstr s) k w_1 hl hk; rw [show (bstr s).data.toList = s from rfl, hR] at hh; exact hh)) ?_
 rintro e w_2 ⟨rfl, hw⟩
 refine ⟨_, rfl, ?_⟩
 intro a H
 have HP := hw ▸ HP
 refine ⟨.inr (HP), ?_⟩
 refine An.p H (.inr HP) 9 10 (.tuple #[(.int .i64 n), (.int .i64 ((e : Nat) : Int)), (.int .i64 0)]) fun a H => ?_
 refine An.p H (.inr HP) 10 20 (.int .i64 n) fun a H => ?_
 refine An.p H (.inr HP) 11 21 (.int .i64 ((e : Nat) : Int)) fun a H => ?_
 refine An.p H (.inr HP) 12 22 (.int .i64 0) fun a H => ?_
 refine An.p H (.inr HP) 13 3 (.int .i64 n) fun a H => ?_
 refine An.p H (.inr HP) 14 4 (.int .i64 ((e : Nat) : Int)) fun a H => ?_
 refine An.p H (.inr HP) 15 5 (.int .i64 0) fun a H => ?_
 refine An.done (by kernel_rfl) ?_
 refine then_normal (wp_seq (wp_seq (w_region ?_)))
 refine H.v 23 (.int .i64 0) fun a H => ?_
 refine H.v 24 (.bool false) fun a H => ?_
 refine wpList_nil (then_normal ?_)
 refine w_iff H rfl ?_
 refine wp_skip (then_normal (wp_seq (w_region ?_)))
 refine H.v 28 (.pointer (some ⟨b, 0, none⟩)) fun a H => ?_
 refine H.v 29 (.int .i64 ((e : Nat) : Int)) fun a H => ?_
 refine H.v 30 (.pointer (some ⟨b, 0, none⟩)) fun a H => ?_
 refine H.v 31 (.pointer (some ⟨b, 1, none⟩)) fun a H => ?_
 refine H.store HP 0 b 1 1 76 _ false (.int .i64 ((e : Nat) : Int)) [bx b 76 [(.string (bstr s)), (.int .i64 ((e : Nat) : Int)), (.bool false)] false] (by kernel_rfl) (by kernel_rfl) (by kernel_rfl) rfl (by kernel_rfl) (by kernel_rfl) (by kernel_rfl) (by kernel_rfl) (by kernel_rfl) fun w_3 a H HP => ?_
 refine wpList_nil (then_normal (wp_seq (w_region ?_)))
 refine H.v 32 (.int .i64 n) fun a H => ?_
 refine H.v 2 (.int .i64 n) fun a H => ?_
 refine wpList_nil (then_normal (wp_ret ?_))
 refine H.ret1 (fn := Tryd.f41) Tryd.results41 (RV.tmp_ (v := (.int .i64 n)) (by kernel_rfl)) ?_
 exact ⟨by unfold rnum; simp only [Bool.false_eq_true, if_false]; rw [hR] <;> rfl, by unfold rnum; simp only [Bool.false_eq_true, if_false]; rw [hR]; exact HP.at_ 0 rfl, HP.only b (by intro x hx; simp only [List.mem_cons, List.not_mem_nil, or_false] at hx; rcases hx with rfl <;> simp [bx])⟩
theorem num_any (b : Nat) (s : List UInt8) (q : Nat × Bool) (w : World) (h : Box w b 76 (rdCells s q).toArray) (hl : s.length ≤ 9000000000000000000) (hk : q.1 ≤ s.length) :
  Calls Tryd.prog 41 #[.pointer (some ⟨b, 0, none⟩)] w fun e w' => e = .returned (.int .i64 (rnum s q).1) ∧ Box w' b 76 (rdCells s (rnum s q).2).toArray ∧ w.grownBy w' (some b) := by
 obtain ⟨k, fl⟩ := q
 cases fl with
 | true => exact num_bad b s k w h hl hk
 | false =>
  cases hR : rdInt s k with
  | none => exact num_none b s k w h hl hk hR
  | some p => exact num_some b s k w h hl hk p.1 p.2 hR
set_option maxRecDepth 100000 in
set_option maxHeartbeats 4000000 in
theorem txt_bad (b : Nat) (s : List UInt8) (k : Nat) (w : World) (h : Box w b 76 [Value.string (bstr s), .int .i64 ((k : Nat) : Int), .bool true].toArray) (hl : s.length ≤ 9000000000000000000) (hk : k ≤ s.length)  :
  Calls Tryd.prog 42 #[.pointer (some ⟨b, 0, none⟩)] w fun e w' => e = .returned (.string (bstr (rtxt s (k, true)).1)) ∧ Box w' b 76 (rdCells s (rtxt s (k, true)).2).toArray ∧ w.grownBy w' (some b) := by
 have HP := Hp.own (vs := [.string (bstr s), .int .i64 ((k : Nat) : Int), .bool true]) h
 refine w_enter 33 [(0, (.pointer (some ⟨b, 0, none⟩)))] Tryd.func42 rfl Tryd.ntmps42 (by kernel_rfl) (by kernel_rfl) fun a H => ?_
 refine wp_seq (w_region ?_)
 refine H.v 2 (.string (bstr ([]))) fun a H => ?_
 refine wpList_nil (then_normal (wp_seq (wp_seq (w_region ?_))))
 refine H.v 6 (.pointer (some ⟨b, 0, none⟩)) fun a H => ?_
 refine H.v 7 (.pointer (some ⟨b, 0, none⟩)) fun a H => ?_
 refine H.v 8 (.pointer (some ⟨b, 2, none⟩)) fun a H => ?_
 refine H.u 9 (.bool true) (ex_load1 (by kernel_rfl) (by kernel_rfl) (HP.cell 0 rfl 2 rfl)) fun a H => ?_
 refine wpList_nil (then_normal ?_)
 refine w_ift H rfl ?_
 refine wp_seq (w_region ?_)
 refine H.v 2 (.string (bstr ([]))) fun a H => ?_
 refine wpList_nil (then_normal (wp_ret (then_ret ?_)))
 refine H.ret1 (fn := Tryd.f42) Tryd.results42 (RV.tmp_ (v := (.string (bstr ([])))) (by kernel_rfl)) ?_
 exact ⟨by unfold rtxt; rw [if_pos rfl] <;> rfl, by unfold rtxt; rw [if_pos rfl]; exact HP.at_ 0 rfl, HP.only b (by intro x hx; simp only [List.mem_cons, List.not_mem_nil, or_false] at hx; rcases hx with rfl <;> simp [bx])⟩
set_option maxRecDepth 100000 in
set_option maxHeartbeats 4000000 in
theorem txt_none (b : Nat) (s : List UInt8) (k : Nat) (w : World) (h : Box w b 76 [Value.string (bstr s), .int .i64 ((k : Nat) : Int), .bool false].toArray) (hl : s.length ≤ 9000000000000000000) (hk : k ≤ s.length) (hR : rdStr s k = none) :
  Calls Tryd.prog 42 #[.pointer (some ⟨b, 0, none⟩)] w fun e w' => e = .returned (.string (bstr (rtxt s (k, false)).1)) ∧ Box w' b 76 (rdCells s (rtxt s (k, false)).2).toArray ∧ w.grownBy w' (some b) := by
 have HP := Hp.own (vs := [.string (bstr s), .int .i64 ((k : Nat) : Int), .bool false]) h
 refine w_enter 33 [(0, (.pointer (some ⟨b, 0, none⟩)))] Tryd.func42 rfl Tryd.ntmps42 (by kernel_rfl) (by kernel_rfl) fun a H => ?_
 refine wp_seq (w_region ?_)
 refine H.v 2 (.string (bstr ([]))) fun a H => ?_
 refine wpList_nil (then_normal (wp_seq (wp_seq (w_region ?_))))
 refine H.v 6 (.pointer (some ⟨b, 0, none⟩)) fun a H => ?_
 refine H.v 7 (.pointer (some ⟨b, 0, none⟩)) fun a H => ?_
 refine H.v 8 (.pointer (some ⟨b, 2, none⟩)) fun a H => ?_
 refine H.u 9 (.bool false) (ex_load1 (by kernel_rfl) (by kernel_rfl) (HP.cell 0 rfl 2 rfl)) fun a H => ?_
 refine wpList_nil (then_normal ?_)
 refine w_iff H rfl ?_
 refine wp_skip (then_normal (wp_seq ?_))
 refine An.start (fun v => Hp w v [bx b 76 [(.string (bstr s)), (.int .i64 ((k : Nat) : Int)), (.bool false)] false] []) 16 16 HP wide_follows rfl fun w_1 HP => ?_
 refine An.p H (.inr HP) 0 11 (.pointer (some ⟨b, 0, none⟩)) fun a H => ?_
 refine An.p H (.inr HP) 1 12 (.pointer (some ⟨b, 0, none⟩)) fun a H => ?_
 refine An.p H (.inr HP) 2 13 (.pointer (some ⟨b, 0, none⟩)) fun a H => ?_
 refine An.val H (HP) 3 14 (.string (bstr s)) rfl (by kernel_rfl) (by kernel_rfl) (fun _ _ _ h => h) (fun _ hS => ex_load1 (by kernel_rfl) (by kernel_rfl) (hS.cell 0 rfl 0 rfl)) fun a H => ?_
 refine An.p H (.inr HP) 4 15 (.pointer (some ⟨b, 0, none⟩)) fun a H => ?_
 refine An.p H (.inr HP) 5 16 (.pointer (some ⟨b, 0, none⟩)) fun a H => ?_
 refine An.p H (.inr HP) 6 17 (.pointer (some ⟨b, 1, none⟩)) fun a H => ?_
 refine An.val H (HP) 7 18 (.int .i64 ((k : Nat) : Int)) rfl (by kernel_rfl) (by kernel_rfl) (fun _ _ _ h => h) (fun _ hS => ex_load1 (by kernel_rfl) (by kernel_rfl) (hS.cell 0 rfl 1 rfl)) fun a H => ?_
 refine An.one 8 (by kernel_rfl) ?_
 refine Op.call H 19 rfl (by kernel_rfl) (Eq.trans (by kernel_rfl : _ = (callFunc 66 #[(.string (bstr s)), (.int .i64 ((k : Nat) : Int))]).run Tryd.prog w_1) (Tryd.call66 _ _)) ((by have hh := string_any s k w_1 hl hk; rw [hR] at hh; exact hh)) ?_
 rintro e w_2 ⟨rfl, hw⟩
 refine ⟨_, rfl, ?_⟩
 intro a H
 have HP := hw ▸ HP
 refine ⟨.inr (HP), ?_⟩
 refine An.p H (.inr HP) 9 10 (.tuple #[(.string (bstr ([]))), (.int .i64 0), (.int .i64 10)]) fun a H => ?_
 refine An.p H (.inr HP) 10 20 (.string (bstr ([]))) fun a H => ?_
 refine An.p H (.inr HP) 11 21 (.int .i64 0) fun a H => ?_
 refine An.p H (.inr HP) 12 22 (.int .i64 10) fun a H => ?_
 refine An.p H (.inr HP) 13 3 (.string (bstr ([]))) fun a H => ?_
 refine An.p H (.inr HP) 14 4 (.int .i64 0) fun a H => ?_
 refine An.p H (.inr HP) 15 5 (.int .i64 10) fun a H => ?_
 refine An.done (by kernel_rfl) ?_
 refine then_normal (wp_seq (wp_seq (w_region ?_)))
 refine H.v 23 (.int .i64 10) fun a H => ?_
 refine H.v 24 (.bool true) fun a H => ?_
 refine wpList_nil (then_normal ?_)
 refine w_ift H rfl ?_
 refine wp_seq (w_region ?_)
 refine H.v 25 (.pointer (some ⟨b, 0, none⟩)) fun a H => ?_
 refine H.v 26 (.pointer (some ⟨b, 0, none⟩)) fun a H => ?_
 refine H.v 27 (.pointer (some ⟨b, 2, none⟩)) fun a H => ?_
 refine H.store HP 0 b 2 1 76 _ false (.bool true) [bx b 76 [(.string (bstr s)), (.int .i64 ((k : Nat) : Int)), (.bool true)] false] (by kernel_rfl) (by kernel_rfl) (by kernel_rfl) rfl (by kernel_rfl) (by kernel_rfl) (by kernel_rfl) (by kernel_rfl) (by kernel_rfl) fun w_3 a H HP => ?_
 refine wpList_nil (then_normal (wp_seq (w_region ?_)))
 refine H.v 2 (.string (bstr ([]))) fun a H => ?_
 refine wpList_nil (then_normal (wp_ret (then_ret ?_)))
 refine H.ret1 (fn := Tryd.f42) Tryd.results42 (RV.tmp_ (v := (.string (bstr ([])))) (by kernel_rfl)) ?_
 exact ⟨by unfold rtxt; simp only [Bool.false_eq_true, if_false]; rw [hR] <;> rfl, by unfold rtxt; simp only [Bool.false_eq_true, if_false]; rw [hR]; exact HP.at_ 0 rfl, HP.only b (by intro x hx; simp only [List.mem_cons, List.not_mem_nil, or_false] at hx; rcases hx with rfl <;> simp [bx])⟩
set_option maxRecDepth 100000 in
set_option maxHeartbeats 4000000 in
theorem txt_some (b : Nat) (s : List UInt8) (k : Nat) (w : World) (h : Box w b 76 [Value.string (bstr s), .int .i64 ((k : Nat) : Int), .bool false].toArray) (hl : s.length ≤ 9000000000000000000) (hk : k ≤ s.length) (n : List UInt8) (e : Nat) (hR : rdStr s k = some (n, e)) :
  Calls Tryd.prog 42 #[.pointer (some ⟨b, 0, none⟩)] w fun e w' => e = .returned (.string (bstr (rtxt s (k, false)).1)) ∧ Box w' b 76 (rdCells s (rtxt s (k, false)).2).toArray ∧ w.grownBy w' (some b) := by
 have HP := Hp.own (vs := [.string (bstr s), .int .i64 ((k : Nat) : Int), .bool false]) h
 refine w_enter 33 [(0, (.pointer (some ⟨b, 0, none⟩)))] Tryd.func42 rfl Tryd.ntmps42 (by kernel_rfl) (by kernel_rfl) fun a H => ?_
 refine wp_seq (w_region ?_)
 refine H.v 2 (.string (bstr ([]))) fun a H => ?_
 refine wpList_nil (then_normal (wp_seq (wp_seq (w_region ?_))))
 refine H.v 6 (.pointer (some ⟨b, 0, none⟩)) fun a H => ?_
 refine H.v 7 (.pointer (some ⟨b, 0, none⟩)) fun a H => ?_
 refine H.v 8 (.pointer (some ⟨b, 2, none⟩)) fun a H => ?_
 refine H.u 9 (.bool false) (ex_load1 (by kernel_rfl) (by kernel_rfl) (HP.cell 0 rfl 2 rfl)) fun a H => ?_
 refine wpList_nil (then_normal ?_)
 refine w_iff H rfl ?_
 refine wp_skip (then_normal (wp_seq ?_))
 refine An.start (fun v => Hp w v [bx b 76 [(.string (bstr s)), (.int .i64 ((k : Nat) : Int)), (.bool false)] false] []) 16 16 HP wide_follows rfl fun w_1 HP => ?_
 refine An.p H (.inr HP) 0 11 (.pointer (some ⟨b, 0, none⟩)) fun a H => ?_
 refine An.p H (.inr HP) 1 12 (.pointer (some ⟨b, 0, none⟩)) fun a H => ?_
 refine An.p H (.inr HP) 2 13 (.pointer (some ⟨b, 0, none⟩)) fun a H => ?_
 refine An.val H (HP) 3 14 (.string (bstr s)) rfl (by kernel_rfl) (by kernel_rfl) (fun _ _ _ h => h) (fun _ hS => ex_load1 (by kernel_rfl) (by kernel_rfl) (hS.cell 0 rfl 0 rfl)) fun a H => ?_
 refine An.p H (.inr HP) 4 15 (.pointer (some ⟨b, 0, none⟩)) fun a H => ?_
 refine An.p H (.inr HP) 5 16 (.pointer (some ⟨b, 0, none⟩)) fun a H => ?_
 refine An.p H (.inr HP) 6 17 (.pointer (some ⟨b, 1, none⟩)) fun a H => ?_
 refine An.val H (HP) 7 18 (.int .i64 ((k : Nat) : Int)) rfl (by kernel_rfl) (by kernel_rfl) (fun _ _ _ h => h) (fun _ hS => ex_load1 (by kernel_rfl) (by kernel_rfl) (hS.cell 0 rfl 1 rfl)) fun a H => ?_
 refine An.one 8 (by kernel_rfl) ?_
 refine Op.call H 19 rfl (by kernel_rfl) (Eq.trans (by kernel_rfl : _ = (callFunc 66 #[(.string (bstr s)), (.int .i64 ((k : Nat) : Int))]).run Tryd.prog w_1) (Tryd.call66 _ _)) ((by have hh := string_any s k w_1 hl hk; rw [hR] at hh; exact hh)) ?_
 rintro e w_2 ⟨rfl, hw⟩
 refine ⟨_, rfl, ?_⟩
 intro a H
 have HP := hw ▸ HP
 refine ⟨.inr (HP), ?_⟩
 refine An.p H (.inr HP) 9 10 (.tuple #[(.string (bstr n)), (.int .i64 ((e : Nat) : Int)), (.int .i64 0)]) fun a H => ?_
 refine An.p H (.inr HP) 10 20 (.string (bstr n)) fun a H => ?_
 refine An.p H (.inr HP) 11 21 (.int .i64 ((e : Nat) : Int)) fun a H => ?_
 refine An.p H (.inr HP) 12 22 (.int .i64 0) fun a H => ?_
 refine An.p H (.inr HP) 13 3 (.string (bstr n)) fun a H => ?_
 refine An.p H (.inr HP) 14 4 (.int .i64 ((e : Nat) : Int)) fun a H => ?_
 refine An.p H (.inr HP) 15 5 (.int .i64 0) fun a H => ?_
 refine An.done (by kernel_rfl) ?_
 refine then_normal (wp_seq (wp_seq (w_region ?_)))
 refine H.v 23 (.int .i64 0) fun a H => ?_
 refine H.v 24 (.bool false) fun a H => ?_
 refine wpList_nil (then_normal ?_)
 refine w_iff H rfl ?_
 refine wp_skip (then_normal (wp_seq (w_region ?_)))
 refine H.v 28 (.pointer (some ⟨b, 0, none⟩)) fun a H => ?_
 refine H.v 29 (.int .i64 ((e : Nat) : Int)) fun a H => ?_
 refine H.v 30 (.pointer (some ⟨b, 0, none⟩)) fun a H => ?_
 refine H.v 31 (.pointer (some ⟨b, 1, none⟩)) fun a H => ?_
 refine H.store HP 0 b 1 1 76 _ false (.int .i64 ((e : Nat) : Int)) [bx b 76 [(.string (bstr s)), (.int .i64 ((e : Nat) : Int)), (.bool false)] false] (by kernel_rfl) (by kernel_rfl) (by kernel_rfl) rfl (by kernel_rfl) (by kernel_rfl) (by kernel_rfl) (by kernel_rfl) (by kernel_rfl) fun w_3 a H HP => ?_
 refine wpList_nil (then_normal (wp_seq (w_region ?_)))
 refine H.v 32 (.string (bstr n)) fun a H => ?_
 refine H.v 2 (.string (bstr n)) fun a H => ?_
 refine wpList_nil (then_normal (wp_ret ?_))
 refine H.ret1 (fn := Tryd.f42) Tryd.results42 (RV.tmp_ (v := (.string (bstr n))) (by kernel_rfl)) ?_
 exact ⟨by unfold rtxt; simp only [Bool.false_eq_true, if_false]; rw [hR] <;> rfl, by unfold rtxt; simp only [Bool.false_eq_true, if_false]; rw [hR]; exact HP.at_ 0 rfl, HP.only b (by intro x hx; simp only [List.mem_cons, List.not_mem_nil, or_false] at hx; rcases hx with rfl <;> simp [bx])⟩
theorem txt_any (b : Nat) (s : List UInt8) (q : Nat × Bool) (w : World) (h : Box w b 76 (rdCells s q).toArray) (hl : s.length ≤ 9000000000000000000) (hk : q.1 ≤ s.length) :
  Calls Tryd.prog 42 #[.pointer (some ⟨b, 0, none⟩)] w fun e w' => e = .returned (.string (bstr (rtxt s q).1)) ∧ Box w' b 76 (rdCells s (rtxt s q).2).toArray ∧ w.grownBy w' (some b) := by
 obtain ⟨k, fl⟩ := q
 cases fl with
 | true => exact txt_bad b s k w h hl hk
 | false =>
  cases hR : rdStr s k with
  | none => exact txt_none b s k w h hl hk hR
  | some p => exact txt_some b s k w h hl hk p.1 p.2 hR
end Go.Proofs.YtgdjpaeclicdfaaDoor
