/- Contracts of the laws' helpers short and sane. -/
import Derived.Test.YtgdjpaeclicdfaaDoorTrJ
import Derived.Test.YtgdjpaeclicdfaaDoorSymC
namespace Go.Proofs.YtgdjpaeclicdfaaDoor
open Go.ChangeShapes Go.WideShapes Go.ChangeAt Go.RowKit Go.Shelf
set_option linter.unusedVariables false
set_option linter.unusedSimpArgs false

theorem take_min {α : Type} (l : List α) (n : Nat) : l.take (min l.length n) = l.take n := by
 rcases Nat.le_total l.length n with h | h
 ·rw [Nat.min_eq_left h, List.take_of_length_le (Nat.le_refl _), List.take_of_length_le h]
 ·rw [Nat.min_eq_right h]
abbrev altC (p : Int × Int) : Array Value := #[.int .i64 p.1, .int .i64 p.2]
theorem flat_alt (l : Alts) : flat altC l = pairs l := by simp [flat, pairs, altC]
theorem alt_ones (l : Alts) : ∀ u ∈ flat altC l, u.oneCell' = true := by
 intro u hu
 simp only [flat, List.mem_flatMap, altC] at hu
 obtain ⟨a, _, ha⟩ := hu
 simp at ha
 rcases ha with rfl | rfl <;> rfl
theorem alts_take {w : World} {A : Option Addr} {al : Alts} {k : Nat} (h : IsAlts w A al.length al) (hk : (al.take k).length ≤ al.length) : Rd w 2 A (al.take k).length (pairs (al.take k)) := by
 have := h.2.take hk
 rwa [show (pairs al).take ((al.take k).length * 2) = pairs (al.take k) from ?_] at this
 clear this hk h
 induction al generalizing k with
 | nil => simp [pairs]
 | cons a al ih =>
  cases k with
  | zero => simp [pairs]
  | succ k =>
   have := ih (k := k)
   simp only [pairs, List.take_succ_cons, List.length_cons, List.flatMap_cons, List.flatMap_nil, Nat.add_mul] at *
   simpa using this
/-- A unit that is not much longer than permitted. -/
def shortU (u : Un) : Un := { u with data := u.data.take 410, caption := u.caption.take 5, al := u.al.take 10 }
def RetShort (u : Un) (w : World) (e : Ending) (w' : World) : Prop :=
 ∃ B c, e = .returned ({ shortU u with A := B, c := c } : Un).val ∧ IsAlts w' B (shortU u).al.length (shortU u).al ∧ (shortU u).al.length ≤ c ∧ c ≤ maxLen ∧ (B = none → c = 0) ∧ (∀ b off, B = some ⟨b, off, none⟩ → w.heap.size ≤ b) ∧ Below w.heap.size w w'
theorem short_anyU {u U : Un} (hU : shortU u = U) {P : Program} {f : Nat} {args : Array Value} {w : World} (h : Calls P f args w (RetShort u w)) : Calls P f args w fun e w' => ∃ B c, e = .returned ({ U with A := B, c := c } : Un).val ∧ IsAlts w' B U.al.length U.al ∧ U.al.length ≤ c ∧ c ≤ maxLen ∧ (B = none → c = 0) ∧ (∀ b off, B = some ⟨b, off, none⟩ → w.heap.size ≤ b) ∧ Below w.heap.size w w' := by subst hU; exact h
def saneU : Un := ⟨2, 17, 0, 0, 0, false, [], 0, 1000, [0, 0, 0], 0, 0, none, 0, []⟩
def saneS : List UInt8 := (pktsU 25 1 saneU).flatten
def saneT : List UInt8 := (pktsU 25 1 { saneU with frame := 18 }).flatten
def saneX : List UInt8 := (pktsU 25 1 { saneU with frame := 18, channel := 3 }).flatten
theorem sane_s1 : packP 25 1 saneU = some saneS := by kernel_rfl
theorem sane_s2 : packP 25 1 { saneU with frame := 18 } = some saneT := by kernel_rfl
theorem sane_s3 : packP 25 1 { saneU with frame := 18, channel := 3 } = some saneX := by kernel_rfl
theorem sane_s4 : packP 25 1 { saneU with frame := 18, channel := 3, caption := [97, 98] } = none := by kernel_rfl
theorem sane_l : saneS.length = 64 := by kernel_rfl
theorem sane_l2 : saneT.length = 64 := by kernel_rfl
theorem sane_l3 : saneX.length = 64 := by kernel_rfl
theorem sane_u1 : unpackP 25 1 saneS = some saneU := by kernel_rfl
theorem sane_u2 : unpackP 50 1 saneS = none := by kernel_rfl
theorem sane_f1 : followsP saneS saneT = true := by kernel_rfl
theorem sane_f2 : followsP saneS saneX = false := by kernel_rfl
theorem sane_f3 : followsP saneT saneS = false := by kernel_rfl
set_option maxRecDepth 100000 in
set_option maxHeartbeats 4000000 in
theorem short_any (u : Un) (w : World) (hu : IsAlts w u.A u.al.length u.al) (hc1 : u.al.length ≤ u.c) (hA : u.A = none → u.c = 0) :
  Calls Tryd.prog 15 #[u.val] w (RetShort u w) := by
 have HP := Hp.start w
 have hml : (u.al.take 10).length = min 10 u.al.length := List.length_take ..
 refine w_enter 33 [(0, (.agg (ua u u.A u.c)))] Tryd.func15 rfl Tryd.ntmps15 (by kernel_rfl) (by kernel_rfl) fun a H => ?_
 refine wp_seq (w_region ?_)
 refine H.alloc HP 1 (fun b => (.pointer (some ⟨b, 0, none⟩))) 28 (ul u u.A u.c) (by kernel_rfl) (fun w => by kernel_rfl) fun b_1 w_2 a H HP => ?_
 refine H.alloc HP 2 (fun b => (.pointer (some ⟨b, 0, none⟩))) 28 [(.int .i64 0), (.int .i64 0), (.int .i64 0), (.int .i64 0), (.int .i64 0), (.bool false), (.string (bstr ([]))), (.int .i64 0), (.int .i64 0), (.string (bstr ([]))), (.int .i64 0), (.int .i64 0), (.slice none 0 0)] (by kernel_rfl) (fun w => by kernel_rfl) fun b_3 w_4 a H HP => ?_
 refine wpList_nil (then_normal (wp_seq (w_region ?_)))
 refine H.v 3 (.pointer (some ⟨b_1, 6, none⟩)) fun a H => ?_
 refine H.u 4 (.string (bstr u.data)) (ex_load1 (by kernel_rfl) (by kernel_rfl) (HP.cell 1 rfl 6 rfl)) fun a H => ?_
 refine H.v 5 (.pointer (some ⟨b_1, 6, none⟩)) fun a H => ?_
 refine H.u 6 (.string (bstr u.data)) (ex_load1 (by kernel_rfl) (by kernel_rfl) (HP.cell 1 rfl 6 rfl)) fun a H => ?_
 refine H.v 7 (.int .i64 ((u.data.length : Nat) : Int)) fun a H => ?_
 refine H.valE 8 (.int .i64 (if (410 : Int) < ((u.data.length : Nat) : Int) then 410 else ((u.data.length : Nat) : Int))) (.int .i64 ((min u.data.length 410 : Nat) : Int)) (by kernel_rfl) (by kernel_rfl) ((congrArg (Value.int .i64) (by split <;> omega))) fun a H => ?_
 refine H.valE 9 (.string (bstr (u.data.take (min u.data.length 410)))) (.string (bstr (u.data.take 410))) (by kernel_rfl) (ex_ssliceH (kk := .i64) (l := u.data) (j := ((min u.data.length 410 : Nat) : Int)) (b := min u.data.length 410) (by kernel_rfl) (by kernel_rfl) (by kernel_rfl) (by omega) (by omega)) ((congrArg (fun x => Value.string (bstr x)) (take_min _ _))) fun a H => ?_
 refine H.v 10 (.pointer (some ⟨b_1, 6, none⟩)) fun a H => ?_
 refine H.store HP 1 b_1 6 1 28 _ true (.string (bstr (u.data.take 410))) [bx b_3 28 [(.int .i64 0), (.int .i64 0), (.int .i64 0), (.int .i64 0), (.int .i64 0), (.bool false), (.string (bstr ([]))), (.int .i64 0), (.int .i64 0), (.string (bstr ([]))), (.int .i64 0), (.int .i64 0), (.slice none 0 0)] true, bx b_1 28 [(.int .i64 u.channel), (.int .i64 u.frame), (.int .i64 u.version), (.int .i64 u.item), (.int .i64 u.index), (.bool u.key), (.string (bstr (u.data.take 410))), (.int .i64 u.regions), (.int .i64 u.gain), (.string (bstr u.caption)), (.int .i64 u.os), (.int .i64 u.of), (.slice u.A u.al.length u.c)] true] (by kernel_rfl) (by kernel_rfl) (by kernel_rfl) rfl (by kernel_rfl) (by kernel_rfl) (by kernel_rfl) (by kernel_rfl) (by kernel_rfl) fun w_5 a H HP => ?_
 refine wpList_nil (then_normal (wp_seq (w_region ?_)))
 refine H.v 11 (.pointer (some ⟨b_1, 9, none⟩)) fun a H => ?_
 refine H.u 12 (.string (bstr u.caption)) (ex_load1 (by kernel_rfl) (by kernel_rfl) (HP.cell 1 rfl 9 rfl)) fun a H => ?_
 refine H.v 13 (.pointer (some ⟨b_1, 9, none⟩)) fun a H => ?_
 refine H.u 14 (.string (bstr u.caption)) (ex_load1 (by kernel_rfl) (by kernel_rfl) (HP.cell 1 rfl 9 rfl)) fun a H => ?_
 refine H.v 15 (.int .i64 ((u.caption.length : Nat) : Int)) fun a H => ?_
 refine H.valE 16 (.int .i64 (if (5 : Int) < ((u.caption.length : Nat) : Int) then 5 else ((u.caption.length : Nat) : Int))) (.int .i64 ((min u.caption.length 5 : Nat) : Int)) (by kernel_rfl) (by kernel_rfl) ((congrArg (Value.int .i64) (by split <;> omega))) fun a H => ?_
 refine H.valE 17 (.string (bstr (u.caption.take (min u.caption.length 5)))) (.string (bstr (u.caption.take 5))) (by kernel_rfl) (ex_ssliceH (kk := .i64) (l := u.caption) (j := ((min u.caption.length 5 : Nat) : Int)) (b := min u.caption.length 5) (by kernel_rfl) (by kernel_rfl) (by kernel_rfl) (by omega) (by omega)) ((congrArg (fun x => Value.string (bstr x)) (take_min _ _))) fun a H => ?_
 refine H.v 18 (.pointer (some ⟨b_1, 9, none⟩)) fun a H => ?_
 refine H.store HP 1 b_1 9 1 28 _ true (.string (bstr (u.caption.take 5))) [bx b_3 28 [(.int .i64 0), (.int .i64 0), (.int .i64 0), (.int .i64 0), (.int .i64 0), (.bool false), (.string (bstr ([]))), (.int .i64 0), (.int .i64 0), (.string (bstr ([]))), (.int .i64 0), (.int .i64 0), (.slice none 0 0)] true, bx b_1 28 [(.int .i64 u.channel), (.int .i64 u.frame), (.int .i64 u.version), (.int .i64 u.item), (.int .i64 u.index), (.bool u.key), (.string (bstr (u.data.take 410))), (.int .i64 u.regions), (.int .i64 u.gain), (.string (bstr (u.caption.take 5))), (.int .i64 u.os), (.int .i64 u.of), (.slice u.A u.al.length u.c)] true] (by kernel_rfl) (by kernel_rfl) (by kernel_rfl) rfl (by kernel_rfl) (by kernel_rfl) (by kernel_rfl) (by kernel_rfl) (by kernel_rfl) fun w_6 a H HP => ?_
 refine wpList_nil (then_normal (wp_seq (w_region ?_)))
 refine H.alloc HP 19 (fun b => (.slice (some ⟨b, 0, none⟩) 0 0)) 103 [] (by kernel_rfl) (fun w => by kernel_rfl) fun b_7 w_8 a H HP => ?_
 refine H.v 20 (.pointer (some ⟨b_1, 10, none⟩)) fun a H => ?_
 refine H.v 21 (.pointer (some ⟨b_1, 12, none⟩)) fun a H => ?_
 refine H.u 22 (.slice u.A u.al.length u.c) (ex_load1 (by kernel_rfl) (by kernel_rfl) (HP.cell 2 rfl 12 rfl)) fun a H => ?_
 refine H.v 23 (.pointer (some ⟨b_1, 10, none⟩)) fun a H => ?_
 refine H.v 24 (.pointer (some ⟨b_1, 12, none⟩)) fun a H => ?_
 refine H.u 25 (.slice u.A u.al.length u.c) (ex_load1 (by kernel_rfl) (by kernel_rfl) (HP.cell 2 rfl 12 rfl)) fun a H => ?_
 refine H.v 26 (.int .i64 ((u.al.length : Nat) : Int)) fun a H => ?_
 refine H.valE 27 (.int .i64 (if (10 : Int) < ((u.al.length : Nat) : Int) then 10 else ((u.al.length : Nat) : Int))) (.int .i64 ((min u.al.length 10 : Nat) : Int)) (by kernel_rfl) (by kernel_rfl) ((congrArg (Value.int .i64) (by split <;> omega))) fun a H => ?_
 refine H.u 28 (.slice u.A ((u.al.take 10).length) u.c) (ex_sliceH (A := u.A) (len := u.al.length) (cap := u.c) (k := .i64) (n := ((min u.al.length 10 : Nat) : Int)) (m := (u.al.take 10).length) (sz := 2) (by kernel_rfl) (by kernel_rfl) (by kernel_rfl) (by kernel_rfl) (by omega) (by omega)) fun a H => ?_
 have hrd : Rd w_8 2 u.A (u.al.take 10).length (flat altC (u.al.take 10)) := by rw [flat_alt]; exact alts_take (hu.below (HP.below (by kernel_rfl))) (by omega)
 refine H.pushAll HP 29 0 (bb := b_7) (z := .agg #[.int .i64 0, .int .i64 0]) (e := 103) (size := 2) (bytes := 16) (m := (u.al.take 10).length) (c := u.c) (A := u.A) (cs := altC) (u.al.take 10) (by kernel_rfl) (by kernel_rfl) (by kernel_rfl) rfl (by kernel_rfl) (by kernel_rfl) (by kernel_rfl) (fun h => by have := hA h; omega) rfl rfl hrd (alt_ones _) (by unfold maxLen; omega) (by omega) fun BB cc w_9 a H HP => ?_
 have HP : Hp w w_9 [(rowsR w.heap.size 103 2 altC (fun _ _ => True) (fun _ _ => False) (.slice BB ((u.al.take 10).length) cc) (u.al.take 10)), bx b_3 28 [(.int .i64 0), (.int .i64 0), (.int .i64 0), (.int .i64 0), (.int .i64 0), (.bool false), (.string (bstr ([]))), (.int .i64 0), (.int .i64 0), (.string (bstr ([]))), (.int .i64 0), (.int .i64 0), (.slice none 0 0)] true, bx b_1 28 [(.int .i64 u.channel), (.int .i64 u.frame), (.int .i64 u.version), (.int .i64 u.item), (.int .i64 u.index), (.bool u.key), (.string (bstr (u.data.take 410))), (.int .i64 u.regions), (.int .i64 u.gain), (.string (bstr (u.caption.take 5))), (.int .i64 u.os), (.int .i64 u.of), (.slice u.A u.al.length u.c)] true] [] := HP
 refine H.v 30 (.pointer (some ⟨b_1, 10, none⟩)) fun a H => ?_
 refine H.v 31 (.pointer (some ⟨b_1, 12, none⟩)) fun a H => ?_
 refine H.store HP 2 b_1 12 1 28 _ true (.slice BB ((u.al.take 10).length) cc) [(rowsR w.heap.size 103 2 altC (fun _ _ => True) (fun _ _ => False) (.slice BB ((u.al.take 10).length) cc) (u.al.take 10)), bx b_3 28 [(.int .i64 0), (.int .i64 0), (.int .i64 0), (.int .i64 0), (.int .i64 0), (.bool false), (.string (bstr ([]))), (.int .i64 0), (.int .i64 0), (.string (bstr ([]))), (.int .i64 0), (.int .i64 0), (.slice none 0 0)] true, bx b_1 28 [(.int .i64 u.channel), (.int .i64 u.frame), (.int .i64 u.version), (.int .i64 u.item), (.int .i64 u.index), (.bool u.key), (.string (bstr (u.data.take 410))), (.int .i64 u.regions), (.int .i64 u.gain), (.string (bstr (u.caption.take 5))), (.int .i64 u.os), (.int .i64 u.of), (.slice BB ((u.al.take 10).length) cc)] true] (by kernel_rfl) (by kernel_rfl) (by kernel_rfl) rfl (by kernel_rfl) (by kernel_rfl) (by kernel_rfl) (by kernel_rfl) (by kernel_rfl) fun w_10 a H HP => ?_
 refine wpList_nil (then_normal (wp_seq (w_region ?_)))
 refine H.u 32 (.agg #[(.int .i64 u.channel), (.int .i64 u.frame), (.int .i64 u.version), (.int .i64 u.item), (.int .i64 u.index), (.bool u.key), (.string (bstr (u.data.take 410))), (.int .i64 u.regions), (.int .i64 u.gain), (.string (bstr (u.caption.take 5))), (.int .i64 u.os), (.int .i64 u.of), (.slice BB ((u.al.take 10).length) cc)]) (ex_loadN (vs := [(.int .i64 u.channel), (.int .i64 u.frame), (.int .i64 u.version), (.int .i64 u.item), (.int .i64 u.index), (.bool u.key), (.string (bstr (u.data.take 410))), (.int .i64 u.regions), (.int .i64 u.gain), (.string (bstr (u.caption.take 5))), (.int .i64 u.os), (.int .i64 u.of), (.slice BB ((u.al.take 10).length) cc)]) (by kernel_rfl) (by kernel_rfl) (by kernel_rfl) rfl (HP.cells 2 rfl 0 13 (by kernel_rfl))) fun a H => ?_
 refine H.store HP 1 b_3 0 13 28 _ true (.agg #[(.int .i64 u.channel), (.int .i64 u.frame), (.int .i64 u.version), (.int .i64 u.item), (.int .i64 u.index), (.bool u.key), (.string (bstr (u.data.take 410))), (.int .i64 u.regions), (.int .i64 u.gain), (.string (bstr (u.caption.take 5))), (.int .i64 u.os), (.int .i64 u.of), (.slice BB ((u.al.take 10).length) cc)]) [(rowsR w.heap.size 103 2 altC (fun _ _ => True) (fun _ _ => False) (.slice BB ((u.al.take 10).length) cc) (u.al.take 10)), bx b_3 28 [(.int .i64 u.channel), (.int .i64 u.frame), (.int .i64 u.version), (.int .i64 u.item), (.int .i64 u.index), (.bool u.key), (.string (bstr (u.data.take 410))), (.int .i64 u.regions), (.int .i64 u.gain), (.string (bstr (u.caption.take 5))), (.int .i64 u.os), (.int .i64 u.of), (.slice BB ((u.al.take 10).length) cc)] true, bx b_1 28 [(.int .i64 u.channel), (.int .i64 u.frame), (.int .i64 u.version), (.int .i64 u.item), (.int .i64 u.index), (.bool u.key), (.string (bstr (u.data.take 410))), (.int .i64 u.regions), (.int .i64 u.gain), (.string (bstr (u.caption.take 5))), (.int .i64 u.os), (.int .i64 u.of), (.slice BB ((u.al.take 10).length) cc)] true] (by kernel_rfl) (by kernel_rfl) (by kernel_rfl) rfl (by kernel_rfl) (by kernel_rfl) (by kernel_rfl) (by kernel_rfl) (by kernel_rfl) fun w_11 a H HP => ?_
 refine wpList_nil (then_normal (wp_ret ?_))
 refine H.ret1 (fn := Tryd.f15) Tryd.results15 (RV.cellN (vs := [(.int .i64 u.channel), (.int .i64 u.frame), (.int .i64 u.version), (.int .i64 u.item), (.int .i64 u.index), (.bool u.key), (.string (bstr (u.data.take 410))), (.int .i64 u.regions), (.int .i64 u.gain), (.string (bstr (u.caption.take 5))), (.int .i64 u.os), (.int .i64 u.of), (.slice BB ((u.al.take 10).length) cc)]) (b := b_3) (off := 0) (k := 13) (by kernel_rfl) (by kernel_rfl) (by kernel_rfl) rfl (HP.cells 1 rfl 0 13 (by kernel_rfl))) ?_
 have hrow := HP.held 0 rfl
 have hf := own_facts hrow.1
 refine ⟨BB, cc, rfl, ⟨rfl, ?_⟩, hf.1, hf.2.1, hf.2.2, own_base hrow.1, (HP.below (by kernel_rfl))⟩
 have hh := Rd.of_own hrow.1
 rw [flat_alt] at hh
 exact hh
set_option maxRecDepth 100000 in
set_option maxHeartbeats 4000000 in
theorem sane_any (w : World) (hL : Laid w) :
  Calls Tryd.prog 13 #[] w fun e w' => e = .returned (.bool true) ∧ Below w.heap.size w w' := by
 have HP := Hp.start w
 refine w_enter 132 [] Tryd.func13 rfl Tryd.ntmps13 (by kernel_rfl) (by kernel_rfl) fun a H => ?_
 refine wp_seq (w_region ?_)
 refine H.v 0 (.bool false) fun a H => ?_
 refine wpList_nil (then_normal (wp_seq (w_region ?_)))
 refine H.v 17 (.agg #[(.int .i64 25), (.int .i64 1)]) fun a H => ?_
 refine H.alloc HP 1 (fun b => (.pointer (some ⟨b, 0, none⟩))) 23 [(.int .i64 0), (.int .i64 0)] (by kernel_rfl) (fun w => by kernel_rfl) fun b_1 w_2 a H HP => ?_
 refine H.store HP 0 b_1 0 2 23 _ true (.agg #[(.int .i64 25), (.int .i64 1)]) [bx b_1 23 [(.int .i64 25), (.int .i64 1)] true] (by kernel_rfl) (by kernel_rfl) (by kernel_rfl) rfl (by kernel_rfl) (by kernel_rfl) (by kernel_rfl) (by kernel_rfl) (by kernel_rfl) fun w_3 a H HP => ?_
 refine wpList_nil (then_normal (wp_seq (w_region ?_)))
 refine H.v 18 (.agg #[(.int .i64 2), (.int .i64 17), (.int .i64 0), (.int .i64 0), (.int .i64 0), (.bool false), (.string (bstr ([]))), (.int .i64 0), (.int .i64 1000), (.string (bstr ([0, 0, 0]))), (.int .i64 0), (.int .i64 0), (.slice none 0 0)]) fun a H => ?_
 refine H.alloc HP 2 (fun b => (.pointer (some ⟨b, 0, none⟩))) 28 [(.int .i64 0), (.int .i64 0), (.int .i64 0), (.int .i64 0), (.int .i64 0), (.bool false), (.string (bstr ([]))), (.int .i64 0), (.int .i64 0), (.string (bstr ([]))), (.int .i64 0), (.int .i64 0), (.slice none 0 0)] (by kernel_rfl) (fun w => by kernel_rfl) fun b_4 w_5 a H HP => ?_
 refine H.store HP 0 b_4 0 13 28 _ true (.agg #[(.int .i64 2), (.int .i64 17), (.int .i64 0), (.int .i64 0), (.int .i64 0), (.bool false), (.string (bstr ([]))), (.int .i64 0), (.int .i64 1000), (.string (bstr ([0, 0, 0]))), (.int .i64 0), (.int .i64 0), (.slice none 0 0)]) [bx b_4 28 [(.int .i64 2), (.int .i64 17), (.int .i64 0), (.int .i64 0), (.int .i64 0), (.bool false), (.string (bstr ([]))), (.int .i64 0), (.int .i64 1000), (.string (bstr ([0, 0, 0]))), (.int .i64 0), (.int .i64 0), (.slice none 0 0)] true, bx b_1 23 [(.int .i64 25), (.int .i64 1)] true] (by kernel_rfl) (by kernel_rfl) (by kernel_rfl) rfl (by kernel_rfl) (by kernel_rfl) (by kernel_rfl) (by kernel_rfl) (by kernel_rfl) fun w_6 a H HP => ?_
 refine wpList_nil (then_normal (wp_seq (w_region ?_)))
 refine H.u 19 (.agg #[(.int .i64 2), (.int .i64 17), (.int .i64 0), (.int .i64 0), (.int .i64 0), (.bool false), (.string (bstr ([]))), (.int .i64 0), (.int .i64 1000), (.string (bstr ([0, 0, 0]))), (.int .i64 0), (.int .i64 0), (.slice none 0 0)]) (ex_loadN (vs := [(.int .i64 2), (.int .i64 17), (.int .i64 0), (.int .i64 0), (.int .i64 0), (.bool false), (.string (bstr ([]))), (.int .i64 0), (.int .i64 1000), (.string (bstr ([0, 0, 0]))), (.int .i64 0), (.int .i64 0), (.slice none 0 0)]) (by kernel_rfl) (by kernel_rfl) (by kernel_rfl) rfl (HP.cells 0 rfl 0 13 (by kernel_rfl))) fun a H => ?_
 refine H.alloc HP 3 (fun b => (.pointer (some ⟨b, 0, none⟩))) 28 [(.int .i64 0), (.int .i64 0), (.int .i64 0), (.int .i64 0), (.int .i64 0), (.bool false), (.string (bstr ([]))), (.int .i64 0), (.int .i64 0), (.string (bstr ([]))), (.int .i64 0), (.int .i64 0), (.slice none 0 0)] (by kernel_rfl) (fun w => by kernel_rfl) fun b_7 w_8 a H HP => ?_
 refine H.store HP 0 b_7 0 13 28 _ true (.agg #[(.int .i64 2), (.int .i64 17), (.int .i64 0), (.int .i64 0), (.int .i64 0), (.bool false), (.string (bstr ([]))), (.int .i64 0), (.int .i64 1000), (.string (bstr ([0, 0, 0]))), (.int .i64 0), (.int .i64 0), (.slice none 0 0)]) [bx b_7 28 [(.int .i64 2), (.int .i64 17), (.int .i64 0), (.int .i64 0), (.int .i64 0), (.bool false), (.string (bstr ([]))), (.int .i64 0), (.int .i64 1000), (.string (bstr ([0, 0, 0]))), (.int .i64 0), (.int .i64 0), (.slice none 0 0)] true, bx b_4 28 [(.int .i64 2), (.int .i64 17), (.int .i64 0), (.int .i64 0), (.int .i64 0), (.bool false), (.string (bstr ([]))), (.int .i64 0), (.int .i64 1000), (.string (bstr ([0, 0, 0]))), (.int .i64 0), (.int .i64 0), (.slice none 0 0)] true, bx b_1 23 [(.int .i64 25), (.int .i64 1)] true] (by kernel_rfl) (by kernel_rfl) (by kernel_rfl) rfl (by kernel_rfl) (by kernel_rfl) (by kernel_rfl) (by kernel_rfl) (by kernel_rfl) fun w_9 a H HP => ?_
 refine wpList_nil (then_normal (wp_seq (w_region ?_)))
 refine H.v 20 (.pointer (some ⟨b_7, 1, none⟩)) fun a H => ?_
 refine H.store HP 0 b_7 1 1 28 _ true (.int .i64 18) [bx b_7 28 [(.int .i64 2), (.int .i64 18), (.int .i64 0), (.int .i64 0), (.int .i64 0), (.bool false), (.string (bstr ([]))), (.int .i64 0), (.int .i64 1000), (.string (bstr ([0, 0, 0]))), (.int .i64 0), (.int .i64 0), (.slice none 0 0)] true, bx b_4 28 [(.int .i64 2), (.int .i64 17), (.int .i64 0), (.int .i64 0), (.int .i64 0), (.bool false), (.string (bstr ([]))), (.int .i64 0), (.int .i64 1000), (.string (bstr ([0, 0, 0]))), (.int .i64 0), (.int .i64 0), (.slice none 0 0)] true, bx b_1 23 [(.int .i64 25), (.int .i64 1)] true] (by kernel_rfl) (by kernel_rfl) (by kernel_rfl) rfl (by kernel_rfl) (by kernel_rfl) (by kernel_rfl) (by kernel_rfl) (by kernel_rfl) fun w_10 a H HP => ?_
 refine wpList_nil (then_normal (wp_seq (w_region ?_)))
 refine H.u 21 (.agg #[(.int .i64 2), (.int .i64 18), (.int .i64 0), (.int .i64 0), (.int .i64 0), (.bool false), (.string (bstr ([]))), (.int .i64 0), (.int .i64 1000), (.string (bstr ([0, 0, 0]))), (.int .i64 0), (.int .i64 0), (.slice none 0 0)]) (ex_loadN (vs := [(.int .i64 2), (.int .i64 18), (.int .i64 0), (.int .i64 0), (.int .i64 0), (.bool false), (.string (bstr ([]))), (.int .i64 0), (.int .i64 1000), (.string (bstr ([0, 0, 0]))), (.int .i64 0), (.int .i64 0), (.slice none 0 0)]) (by kernel_rfl) (by kernel_rfl) (by kernel_rfl) rfl (HP.cells 0 rfl 0 13 (by kernel_rfl))) fun a H => ?_
 refine H.alloc HP 4 (fun b => (.pointer (some ⟨b, 0, none⟩))) 28 [(.int .i64 0), (.int .i64 0), (.int .i64 0), (.int .i64 0), (.int .i64 0), (.bool false), (.string (bstr ([]))), (.int .i64 0), (.int .i64 0), (.string (bstr ([]))), (.int .i64 0), (.int .i64 0), (.slice none 0 0)] (by kernel_rfl) (fun w => by kernel_rfl) fun b_11 w_12 a H HP => ?_
 refine H.store HP 0 b_11 0 13 28 _ true (.agg #[(.int .i64 2), (.int .i64 18), (.int .i64 0), (.int .i64 0), (.int .i64 0), (.bool false), (.string (bstr ([]))), (.int .i64 0), (.int .i64 1000), (.string (bstr ([0, 0, 0]))), (.int .i64 0), (.int .i64 0), (.slice none 0 0)]) [bx b_11 28 [(.int .i64 2), (.int .i64 18), (.int .i64 0), (.int .i64 0), (.int .i64 0), (.bool false), (.string (bstr ([]))), (.int .i64 0), (.int .i64 1000), (.string (bstr ([0, 0, 0]))), (.int .i64 0), (.int .i64 0), (.slice none 0 0)] true, bx b_7 28 [(.int .i64 2), (.int .i64 18), (.int .i64 0), (.int .i64 0), (.int .i64 0), (.bool false), (.string (bstr ([]))), (.int .i64 0), (.int .i64 1000), (.string (bstr ([0, 0, 0]))), (.int .i64 0), (.int .i64 0), (.slice none 0 0)] true, bx b_4 28 [(.int .i64 2), (.int .i64 17), (.int .i64 0), (.int .i64 0), (.int .i64 0), (.bool false), (.string (bstr ([]))), (.int .i64 0), (.int .i64 1000), (.string (bstr ([0, 0, 0]))), (.int .i64 0), (.int .i64 0), (.slice none 0 0)] true, bx b_1 23 [(.int .i64 25), (.int .i64 1)] true] (by kernel_rfl) (by kernel_rfl) (by kernel_rfl) rfl (by kernel_rfl) (by kernel_rfl) (by kernel_rfl) (by kernel_rfl) (by kernel_rfl) fun w_13 a H HP => ?_
 refine wpList_nil (then_normal (wp_seq (w_region ?_)))
 refine H.v 22 (.pointer (some ⟨b_11, 0, none⟩)) fun a H => ?_
 refine H.store HP 0 b_11 0 1 28 _ true (.int .i64 3) [bx b_11 28 [(.int .i64 3), (.int .i64 18), (.int .i64 0), (.int .i64 0), (.int .i64 0), (.bool false), (.string (bstr ([]))), (.int .i64 0), (.int .i64 1000), (.string (bstr ([0, 0, 0]))), (.int .i64 0), (.int .i64 0), (.slice none 0 0)] true, bx b_7 28 [(.int .i64 2), (.int .i64 18), (.int .i64 0), (.int .i64 0), (.int .i64 0), (.bool false), (.string (bstr ([]))), (.int .i64 0), (.int .i64 1000), (.string (bstr ([0, 0, 0]))), (.int .i64 0), (.int .i64 0), (.slice none 0 0)] true, bx b_4 28 [(.int .i64 2), (.int .i64 17), (.int .i64 0), (.int .i64 0), (.int .i64 0), (.bool false), (.string (bstr ([]))), (.int .i64 0), (.int .i64 1000), (.string (bstr ([0, 0, 0]))), (.int .i64 0), (.int .i64 0), (.slice none 0 0)] true, bx b_1 23 [(.int .i64 25), (.int .i64 1)] true] (by kernel_rfl) (by kernel_rfl) (by kernel_rfl) rfl (by kernel_rfl) (by kernel_rfl) (by kernel_rfl) (by kernel_rfl) (by kernel_rfl) fun w_14 a H HP => ?_
 refine wpList_nil (then_normal (wp_seq (w_region ?_)))
 refine H.u 24 (.agg #[(.int .i64 25), (.int .i64 1)]) (ex_loadN (vs := [(.int .i64 25), (.int .i64 1)]) (by kernel_rfl) (by kernel_rfl) (by kernel_rfl) rfl (HP.cells 3 rfl 0 2 (by kernel_rfl))) fun a H => ?_
 refine H.u 25 (.agg #[(.int .i64 2), (.int .i64 17), (.int .i64 0), (.int .i64 0), (.int .i64 0), (.bool false), (.string (bstr ([]))), (.int .i64 0), (.int .i64 1000), (.string (bstr ([0, 0, 0]))), (.int .i64 0), (.int .i64 0), (.slice none 0 0)]) (ex_loadN (vs := [(.int .i64 2), (.int .i64 17), (.int .i64 0), (.int .i64 0), (.int .i64 0), (.bool false), (.string (bstr ([]))), (.int .i64 0), (.int .i64 1000), (.string (bstr ([0, 0, 0]))), (.int .i64 0), (.int .i64 0), (.slice none 0 0)]) (by kernel_rfl) (by kernel_rfl) (by kernel_rfl) rfl (HP.cells 2 rfl 0 13 (by kernel_rfl))) fun a H => ?_
 refine H.call 26 (by kernel_rfl) (Eq.trans (by kernel_rfl : _ = (callFunc 16 #[(.agg #[(.int .i64 25), (.int .i64 1)]), (.agg #[(.int .i64 2), (.int .i64 17), (.int .i64 0), (.int .i64 0), (.int .i64 0), (.bool false), (.string (bstr ([]))), (.int .i64 0), (.int .i64 1000), (.string (bstr ([0, 0, 0]))), (.int .i64 0), (.int .i64 0), (.slice none 0 0)])]).run Tryd.prog w_14) (Tryd.call16 _ _)) ((by have hh := pack_any 25 1 saneU w_14 (hL.below (HP.below (by kernel_rfl))) (IsAlts.nil _ _) (Nat.zero_le _); rw [sane_s1] at hh; exact hh)) ?_
 rintro e w_15 ⟨rfl, hb⟩
 refine ⟨_, rfl, ?_⟩
 intro a H
 have HP := HP.next hb
 refine H.v 23 (.tuple #[(.string (bstr saneS)), (.int .i64 0)]) fun a H => ?_
 refine H.v 27 (.string (bstr saneS)) fun a H => ?_
 refine H.v 28 (.int .i64 0) fun a H => ?_
 refine H.v 5 (.string (bstr saneS)) fun a H => ?_
 refine H.v 6 (.int .i64 0) fun a H => ?_
 refine wpList_nil (then_normal (wp_seq (w_region ?_)))
 refine H.u 30 (.agg #[(.int .i64 25), (.int .i64 1)]) (ex_loadN (vs := [(.int .i64 25), (.int .i64 1)]) (by kernel_rfl) (by kernel_rfl) (by kernel_rfl) rfl (HP.cells 3 rfl 0 2 (by kernel_rfl))) fun a H => ?_
 refine H.u 31 (.agg #[(.int .i64 2), (.int .i64 18), (.int .i64 0), (.int .i64 0), (.int .i64 0), (.bool false), (.string (bstr ([]))), (.int .i64 0), (.int .i64 1000), (.string (bstr ([0, 0, 0]))), (.int .i64 0), (.int .i64 0), (.slice none 0 0)]) (ex_loadN (vs := [(.int .i64 2), (.int .i64 18), (.int .i64 0), (.int .i64 0), (.int .i64 0), (.bool false), (.string (bstr ([]))), (.int .i64 0), (.int .i64 1000), (.string (bstr ([0, 0, 0]))), (.int .i64 0), (.int .i64 0), (.slice none 0 0)]) (by kernel_rfl) (by kernel_rfl) (by kernel_rfl) rfl (HP.cells 1 rfl 0 13 (by kernel_rfl))) fun a H => ?_
 refine H.call 32 (by kernel_rfl) (Eq.trans (by kernel_rfl : _ = (callFunc 16 #[(.agg #[(.int .i64 25), (.int .i64 1)]), (.agg #[(.int .i64 2), (.int .i64 18), (.int .i64 0), (.int .i64 0), (.int .i64 0), (.bool false), (.string (bstr ([]))), (.int .i64 0), (.int .i64 1000), (.string (bstr ([0, 0, 0]))), (.int .i64 0), (.int .i64 0), (.slice none 0 0)])]).run Tryd.prog w_15) (Tryd.call16 _ _)) ((by have hh := pack_any 25 1 ({ saneU with frame := 18 } : Un) w_15 (hL.below (HP.below (by kernel_rfl))) (IsAlts.nil _ _) (Nat.zero_le _); rw [sane_s2] at hh; exact hh)) ?_
 rintro e w_16 ⟨rfl, hb⟩
 refine ⟨_, rfl, ?_⟩
 intro a H
 have HP := HP.next hb
 refine H.v 29 (.tuple #[(.string (bstr saneT)), (.int .i64 0)]) fun a H => ?_
 refine H.v 33 (.string (bstr saneT)) fun a H => ?_
 refine H.v 34 (.int .i64 0) fun a H => ?_
 refine H.v 7 (.string (bstr saneT)) fun a H => ?_
 refine H.v 8 (.int .i64 0) fun a H => ?_
 refine wpList_nil (then_normal (wp_seq (w_region ?_)))
 refine H.u 36 (.agg #[(.int .i64 25), (.int .i64 1)]) (ex_loadN (vs := [(.int .i64 25), (.int .i64 1)]) (by kernel_rfl) (by kernel_rfl) (by kernel_rfl) rfl (HP.cells 3 rfl 0 2 (by kernel_rfl))) fun a H => ?_
 refine H.u 37 (.agg #[(.int .i64 3), (.int .i64 18), (.int .i64 0), (.int .i64 0), (.int .i64 0), (.bool false), (.string (bstr ([]))), (.int .i64 0), (.int .i64 1000), (.string (bstr ([0, 0, 0]))), (.int .i64 0), (.int .i64 0), (.slice none 0 0)]) (ex_loadN (vs := [(.int .i64 3), (.int .i64 18), (.int .i64 0), (.int .i64 0), (.int .i64 0), (.bool false), (.string (bstr ([]))), (.int .i64 0), (.int .i64 1000), (.string (bstr ([0, 0, 0]))), (.int .i64 0), (.int .i64 0), (.slice none 0 0)]) (by kernel_rfl) (by kernel_rfl) (by kernel_rfl) rfl (HP.cells 0 rfl 0 13 (by kernel_rfl))) fun a H => ?_
 refine H.call 38 (by kernel_rfl) (Eq.trans (by kernel_rfl : _ = (callFunc 16 #[(.agg #[(.int .i64 25), (.int .i64 1)]), (.agg #[(.int .i64 3), (.int .i64 18), (.int .i64 0), (.int .i64 0), (.int .i64 0), (.bool false), (.string (bstr ([]))), (.int .i64 0), (.int .i64 1000), (.string (bstr ([0, 0, 0]))), (.int .i64 0), (.int .i64 0), (.slice none 0 0)])]).run Tryd.prog w_16) (Tryd.call16 _ _)) ((by have hh := pack_any 25 1 ({ saneU with frame := 18, channel := 3 } : Un) w_16 (hL.below (HP.below (by kernel_rfl))) (IsAlts.nil _ _) (Nat.zero_le _); rw [sane_s3] at hh; exact hh)) ?_
 rintro e w_17 ⟨rfl, hb⟩
 refine ⟨_, rfl, ?_⟩
 intro a H
 have HP := HP.next hb
 refine H.v 35 (.tuple #[(.string (bstr saneX)), (.int .i64 0)]) fun a H => ?_
 refine H.v 39 (.string (bstr saneX)) fun a H => ?_
 refine H.v 40 (.int .i64 0) fun a H => ?_
 refine H.v 9 (.string (bstr saneX)) fun a H => ?_
 refine H.v 10 (.int .i64 0) fun a H => ?_
 refine wpList_nil (then_normal (wp_seq (w_region ?_)))
 refine H.u 42 (.agg #[(.int .i64 25), (.int .i64 1)]) (ex_loadN (vs := [(.int .i64 25), (.int .i64 1)]) (by kernel_rfl) (by kernel_rfl) (by kernel_rfl) rfl (HP.cells 3 rfl 0 2 (by kernel_rfl))) fun a H => ?_
 refine H.v 43 (.string (bstr saneS)) fun a H => ?_
 refine H.call 44 (by kernel_rfl) (Eq.trans (by kernel_rfl : _ = (callFunc 22 #[(.agg #[(.int .i64 25), (.int .i64 1)]), (.string (bstr saneS))]).run Tryd.prog w_17) (Tryd.call22 _ _)) ((by have hh := unpack_any 25 1 saneS w_17 (hL.below (HP.below (by kernel_rfl))) (by rw [sane_l]; decide); rw [sane_u1] at hh; exact hh)) ?_
 rintro e w_18 ⟨BB, cc, rfl, hal, hc1, hc2, hc3, hfr, hb⟩
 refine ⟨_, rfl, ?_⟩
 intro a H
 have HP := HP.next hb
 refine H.v 41 (.tuple #[(.agg #[(.int .i64 2), (.int .i64 17), (.int .i64 0), (.int .i64 0), (.int .i64 0), (.bool false), (.string (bstr ([]))), (.int .i64 0), (.int .i64 1000), (.string (bstr ([0, 0, 0]))), (.int .i64 0), (.int .i64 0), (.slice BB 0 cc)]), (.int .i64 0)]) fun a H => ?_
 refine H.v 45 (.agg #[(.int .i64 2), (.int .i64 17), (.int .i64 0), (.int .i64 0), (.int .i64 0), (.bool false), (.string (bstr ([]))), (.int .i64 0), (.int .i64 1000), (.string (bstr ([0, 0, 0]))), (.int .i64 0), (.int .i64 0), (.slice BB 0 cc)]) fun a H => ?_
 refine H.v 46 (.int .i64 0) fun a H => ?_
 refine H.alloc HP 11 (fun b => (.pointer (some ⟨b, 0, none⟩))) 28 [(.int .i64 0), (.int .i64 0), (.int .i64 0), (.int .i64 0), (.int .i64 0), (.bool false), (.string (bstr ([]))), (.int .i64 0), (.int .i64 0), (.string (bstr ([]))), (.int .i64 0), (.int .i64 0), (.slice none 0 0)] (by kernel_rfl) (fun w => by kernel_rfl) fun b_19 w_20 a H HP => ?_
 refine H.store HP 0 b_19 0 13 28 _ true (.agg #[(.int .i64 2), (.int .i64 17), (.int .i64 0), (.int .i64 0), (.int .i64 0), (.bool false), (.string (bstr ([]))), (.int .i64 0), (.int .i64 1000), (.string (bstr ([0, 0, 0]))), (.int .i64 0), (.int .i64 0), (.slice BB 0 cc)]) [bx b_19 28 [(.int .i64 2), (.int .i64 17), (.int .i64 0), (.int .i64 0), (.int .i64 0), (.bool false), (.string (bstr ([]))), (.int .i64 0), (.int .i64 1000), (.string (bstr ([0, 0, 0]))), (.int .i64 0), (.int .i64 0), (.slice BB 0 cc)] true, bx b_11 28 [(.int .i64 3), (.int .i64 18), (.int .i64 0), (.int .i64 0), (.int .i64 0), (.bool false), (.string (bstr ([]))), (.int .i64 0), (.int .i64 1000), (.string (bstr ([0, 0, 0]))), (.int .i64 0), (.int .i64 0), (.slice none 0 0)] true, bx b_7 28 [(.int .i64 2), (.int .i64 18), (.int .i64 0), (.int .i64 0), (.int .i64 0), (.bool false), (.string (bstr ([]))), (.int .i64 0), (.int .i64 1000), (.string (bstr ([0, 0, 0]))), (.int .i64 0), (.int .i64 0), (.slice none 0 0)] true, bx b_4 28 [(.int .i64 2), (.int .i64 17), (.int .i64 0), (.int .i64 0), (.int .i64 0), (.bool false), (.string (bstr ([]))), (.int .i64 0), (.int .i64 1000), (.string (bstr ([0, 0, 0]))), (.int .i64 0), (.int .i64 0), (.slice none 0 0)] true, bx b_1 23 [(.int .i64 25), (.int .i64 1)] true] (by kernel_rfl) (by kernel_rfl) (by kernel_rfl) rfl (by kernel_rfl) (by kernel_rfl) (by kernel_rfl) (by kernel_rfl) (by kernel_rfl) fun w_21 a H HP => ?_
 refine H.v 12 (.int .i64 0) fun a H => ?_
 refine wpList_nil (then_normal (wp_seq (w_region ?_)))
 refine H.v 48 (.agg #[(.int .i64 50), (.int .i64 1)]) fun a H => ?_
 refine H.v 49 (.string (bstr saneS)) fun a H => ?_
 refine H.call 50 (by kernel_rfl) (Eq.trans (by kernel_rfl : _ = (callFunc 22 #[(.agg #[(.int .i64 50), (.int .i64 1)]), (.string (bstr saneS))]).run Tryd.prog w_21) (Tryd.call22 _ _)) ((by have hh := unpack_any 50 1 saneS w_21 (hL.below (HP.below (by kernel_rfl))) (by rw [sane_l]; decide); rw [sane_u2] at hh; exact hh)) ?_
 rintro e w_22 ⟨rfl, hb⟩
 refine ⟨_, rfl, ?_⟩
 intro a H
 have HP := HP.next hb
 refine H.v 47 (.tuple #[(.agg #[(.int .i64 0), (.int .i64 0), (.int .i64 0), (.int .i64 0), (.int .i64 0), (.bool false), (.string (bstr ([]))), (.int .i64 0), (.int .i64 0), (.string (bstr ([]))), (.int .i64 0), (.int .i64 0), (.slice none 0 0)]), (.int .i64 180)]) fun a H => ?_
 refine H.v 51 (.agg #[(.int .i64 0), (.int .i64 0), (.int .i64 0), (.int .i64 0), (.int .i64 0), (.bool false), (.string (bstr ([]))), (.int .i64 0), (.int .i64 0), (.string (bstr ([]))), (.int .i64 0), (.int .i64 0), (.slice none 0 0)]) fun a H => ?_
 refine H.v 52 (.int .i64 180) fun a H => ?_
 refine H.alloc HP 13 (fun b => (.pointer (some ⟨b, 0, none⟩))) 28 [(.int .i64 0), (.int .i64 0), (.int .i64 0), (.int .i64 0), (.int .i64 0), (.bool false), (.string (bstr ([]))), (.int .i64 0), (.int .i64 0), (.string (bstr ([]))), (.int .i64 0), (.int .i64 0), (.slice none 0 0)] (by kernel_rfl) (fun w => by kernel_rfl) fun b_23 w_24 a H HP => ?_
 refine H.store HP 0 b_23 0 13 28 _ true (.agg #[(.int .i64 0), (.int .i64 0), (.int .i64 0), (.int .i64 0), (.int .i64 0), (.bool false), (.string (bstr ([]))), (.int .i64 0), (.int .i64 0), (.string (bstr ([]))), (.int .i64 0), (.int .i64 0), (.slice none 0 0)]) [bx b_23 28 [(.int .i64 0), (.int .i64 0), (.int .i64 0), (.int .i64 0), (.int .i64 0), (.bool false), (.string (bstr ([]))), (.int .i64 0), (.int .i64 0), (.string (bstr ([]))), (.int .i64 0), (.int .i64 0), (.slice none 0 0)] true, bx b_19 28 [(.int .i64 2), (.int .i64 17), (.int .i64 0), (.int .i64 0), (.int .i64 0), (.bool false), (.string (bstr ([]))), (.int .i64 0), (.int .i64 1000), (.string (bstr ([0, 0, 0]))), (.int .i64 0), (.int .i64 0), (.slice BB 0 cc)] true, bx b_11 28 [(.int .i64 3), (.int .i64 18), (.int .i64 0), (.int .i64 0), (.int .i64 0), (.bool false), (.string (bstr ([]))), (.int .i64 0), (.int .i64 1000), (.string (bstr ([0, 0, 0]))), (.int .i64 0), (.int .i64 0), (.slice none 0 0)] true, bx b_7 28 [(.int .i64 2), (.int .i64 18), (.int .i64 0), (.int .i64 0), (.int .i64 0), (.bool false), (.string (bstr ([]))), (.int .i64 0), (.int .i64 1000), (.string (bstr ([0, 0, 0]))), (.int .i64 0), (.int .i64 0), (.slice none 0 0)] true, bx b_4 28 [(.int .i64 2), (.int .i64 17), (.int .i64 0), (.int .i64 0), (.int .i64 0), (.bool false), (.string (bstr ([]))), (.int .i64 0), (.int .i64 1000), (.string (bstr ([0, 0, 0]))), (.int .i64 0), (.int .i64 0), (.slice none 0 0)] true, bx b_1 23 [(.int .i64 25), (.int .i64 1)] true] (by kernel_rfl) (by kernel_rfl) (by kernel_rfl) rfl (by kernel_rfl) (by kernel_rfl) (by kernel_rfl) (by kernel_rfl) (by kernel_rfl) fun w_25 a H HP => ?_
 refine H.v 14 (.int .i64 180) fun a H => ?_
 refine wpList_nil (then_normal (wp_seq (w_region ?_)))
 refine H.v 53 (.pointer (some ⟨b_11, 9, none⟩)) fun a H => ?_
 refine H.store HP 2 b_11 9 1 28 _ true (.string (bstr ([97, 98]))) [bx b_23 28 [(.int .i64 0), (.int .i64 0), (.int .i64 0), (.int .i64 0), (.int .i64 0), (.bool false), (.string (bstr ([]))), (.int .i64 0), (.int .i64 0), (.string (bstr ([]))), (.int .i64 0), (.int .i64 0), (.slice none 0 0)] true, bx b_19 28 [(.int .i64 2), (.int .i64 17), (.int .i64 0), (.int .i64 0), (.int .i64 0), (.bool false), (.string (bstr ([]))), (.int .i64 0), (.int .i64 1000), (.string (bstr ([0, 0, 0]))), (.int .i64 0), (.int .i64 0), (.slice BB 0 cc)] true, bx b_11 28 [(.int .i64 3), (.int .i64 18), (.int .i64 0), (.int .i64 0), (.int .i64 0), (.bool false), (.string (bstr ([]))), (.int .i64 0), (.int .i64 1000), (.string (bstr ([97, 98]))), (.int .i64 0), (.int .i64 0), (.slice none 0 0)] true, bx b_7 28 [(.int .i64 2), (.int .i64 18), (.int .i64 0), (.int .i64 0), (.int .i64 0), (.bool false), (.string (bstr ([]))), (.int .i64 0), (.int .i64 1000), (.string (bstr ([0, 0, 0]))), (.int .i64 0), (.int .i64 0), (.slice none 0 0)] true, bx b_4 28 [(.int .i64 2), (.int .i64 17), (.int .i64 0), (.int .i64 0), (.int .i64 0), (.bool false), (.string (bstr ([]))), (.int .i64 0), (.int .i64 1000), (.string (bstr ([0, 0, 0]))), (.int .i64 0), (.int .i64 0), (.slice none 0 0)] true, bx b_1 23 [(.int .i64 25), (.int .i64 1)] true] (by kernel_rfl) (by kernel_rfl) (by kernel_rfl) rfl (by kernel_rfl) (by kernel_rfl) (by kernel_rfl) (by kernel_rfl) (by kernel_rfl) fun w_26 a H HP => ?_
 refine wpList_nil (then_normal (wp_seq (w_region ?_)))
 refine H.u 55 (.agg #[(.int .i64 25), (.int .i64 1)]) (ex_loadN (vs := [(.int .i64 25), (.int .i64 1)]) (by kernel_rfl) (by kernel_rfl) (by kernel_rfl) rfl (HP.cells 5 rfl 0 2 (by kernel_rfl))) fun a H => ?_
 refine H.u 56 (.agg #[(.int .i64 3), (.int .i64 18), (.int .i64 0), (.int .i64 0), (.int .i64 0), (.bool false), (.string (bstr ([]))), (.int .i64 0), (.int .i64 1000), (.string (bstr ([97, 98]))), (.int .i64 0), (.int .i64 0), (.slice none 0 0)]) (ex_loadN (vs := [(.int .i64 3), (.int .i64 18), (.int .i64 0), (.int .i64 0), (.int .i64 0), (.bool false), (.string (bstr ([]))), (.int .i64 0), (.int .i64 1000), (.string (bstr ([97, 98]))), (.int .i64 0), (.int .i64 0), (.slice none 0 0)]) (by kernel_rfl) (by kernel_rfl) (by kernel_rfl) rfl (HP.cells 2 rfl 0 13 (by kernel_rfl))) fun a H => ?_
 refine H.call 57 (by kernel_rfl) (Eq.trans (by kernel_rfl : _ = (callFunc 16 #[(.agg #[(.int .i64 25), (.int .i64 1)]), (.agg #[(.int .i64 3), (.int .i64 18), (.int .i64 0), (.int .i64 0), (.int .i64 0), (.bool false), (.string (bstr ([]))), (.int .i64 0), (.int .i64 1000), (.string (bstr ([97, 98]))), (.int .i64 0), (.int .i64 0), (.slice none 0 0)])]).run Tryd.prog w_26) (Tryd.call16 _ _)) ((by have hh := pack_any 25 1 ({ saneU with frame := 18, channel := 3, caption := [97, 98] } : Un) w_26 (hL.below (HP.below (by kernel_rfl))) (IsAlts.nil _ _) (Nat.zero_le _); rw [sane_s4] at hh; exact hh)) ?_
 rintro e w_27 ⟨rfl, hb⟩
 refine ⟨_, rfl, ?_⟩
 intro a H
 have HP := HP.next hb
 refine H.v 54 (.tuple #[(.string (bstr ([]))), (.int .i64 180)]) fun a H => ?_
 refine H.v 58 (.string (bstr ([]))) fun a H => ?_
 refine H.v 59 (.int .i64 180) fun a H => ?_
 refine H.v 15 (.string (bstr ([]))) fun a H => ?_
 refine H.v 16 (.int .i64 180) fun a H => ?_
 refine wpList_nil (then_normal (wp_seq (wp_seq (w_region ?_))))
 refine H.v 60 (.int .i64 0) fun a H => ?_
 refine H.v 61 (.bool false) fun a H => ?_
 refine H.v 62 (.bool false) fun a H => ?_
 refine H.v 63 (.int .i64 0) fun a H => ?_
 refine H.v 64 (.bool false) fun a H => ?_
 refine H.v 65 (.bool false) fun a H => ?_
 refine H.v 66 (.bool false) fun a H => ?_
 refine H.v 67 (.int .i64 0) fun a H => ?_
 refine H.v 68 (.bool false) fun a H => ?_
 refine H.v 69 (.bool false) fun a H => ?_
 refine H.v 70 (.bool false) fun a H => ?_
 refine H.v 71 (.string (bstr saneS)) fun a H => ?_
 refine H.valE 72 (.int .i64 ((saneS.length : Nat) : Int)) (.int .i64 64) (by kernel_rfl) (by kernel_rfl) ((by rw [sane_l]; rfl)) fun a H => ?_
 refine H.v 73 (.bool false) fun a H => ?_
 refine H.v 74 (.bool false) fun a H => ?_
 refine wpList_nil ?_
 have H := H.keep (L' := [(74, (.bool false)), (16, (.int .i64 180)), (15, (.string (bstr ([])))), (59, (.int .i64 180)), (58, (.string (bstr ([])))), (54, (.tuple #[(.string (bstr ([]))), (.int .i64 180)])), (57, (.tuple #[(.string (bstr ([]))), (.int .i64 180)])), (56, (.agg #[(.int .i64 3), (.int .i64 18), (.int .i64 0), (.int .i64 0), (.int .i64 0), (.bool false), (.string (bstr ([]))), (.int .i64 0), (.int .i64 1000), (.string (bstr ([97, 98]))), (.int .i64 0), (.int .i64 0), (.slice none 0 0)])), (55, (.agg #[(.int .i64 25), (.int .i64 1)])), (53, (.pointer (some ⟨b_11, 9, none⟩))), (14, (.int .i64 180)), (13, (.pointer (some ⟨b_23, 0, none⟩))), (52, (.int .i64 180)), (51, (.agg #[(.int .i64 0), (.int .i64 0), (.int .i64 0), (.int .i64 0), (.int .i64 0), (.bool false), (.string (bstr ([]))), (.int .i64 0), (.int .i64 0), (.string (bstr ([]))), (.int .i64 0), (.int .i64 0), (.slice none 0 0)])), (47, (.tuple #[(.agg #[(.int .i64 0), (.int .i64 0), (.int .i64 0), (.int .i64 0), (.int .i64 0), (.bool false), (.string (bstr ([]))), (.int .i64 0), (.int .i64 0), (.string (bstr ([]))), (.int .i64 0), (.int .i64 0), (.slice none 0 0)]), (.int .i64 180)])), (50, (.tuple #[(.agg #[(.int .i64 0), (.int .i64 0), (.int .i64 0), (.int .i64 0), (.int .i64 0), (.bool false), (.string (bstr ([]))), (.int .i64 0), (.int .i64 0), (.string (bstr ([]))), (.int .i64 0), (.int .i64 0), (.slice none 0 0)]), (.int .i64 180)])), (49, (.string (bstr saneS))), (48, (.agg #[(.int .i64 50), (.int .i64 1)])), (12, (.int .i64 0)), (11, (.pointer (some ⟨b_19, 0, none⟩))), (46, (.int .i64 0)), (45, (.agg #[(.int .i64 2), (.int .i64 17), (.int .i64 0), (.int .i64 0), (.int .i64 0), (.bool false), (.string (bstr ([]))), (.int .i64 0), (.int .i64 1000), (.string (bstr ([0, 0, 0]))), (.int .i64 0), (.int .i64 0), (.slice BB 0 cc)])), (41, (.tuple #[(.agg #[(.int .i64 2), (.int .i64 17), (.int .i64 0), (.int .i64 0), (.int .i64 0), (.bool false), (.string (bstr ([]))), (.int .i64 0), (.int .i64 1000), (.string (bstr ([0, 0, 0]))), (.int .i64 0), (.int .i64 0), (.slice BB 0 cc)]), (.int .i64 0)])), (44, (.tuple #[(.agg #[(.int .i64 2), (.int .i64 17), (.int .i64 0), (.int .i64 0), (.int .i64 0), (.bool false), (.string (bstr ([]))), (.int .i64 0), (.int .i64 1000), (.string (bstr ([0, 0, 0]))), (.int .i64 0), (.int .i64 0), (.slice BB 0 cc)]), (.int .i64 0)])), (43, (.string (bstr saneS))), (42, (.agg #[(.int .i64 25), (.int .i64 1)])), (10, (.int .i64 0)), (9, (.string (bstr saneX))), (40, (.int .i64 0)), (39, (.string (bstr saneX))), (35, (.tuple #[(.string (bstr saneX)), (.int .i64 0)])), (38, (.tuple #[(.string (bstr saneX)), (.int .i64 0)])), (37, (.agg #[(.int .i64 3), (.int .i64 18), (.int .i64 0), (.int .i64 0), (.int .i64 0), (.bool false), (.string (bstr ([]))), (.int .i64 0), (.int .i64 1000), (.string (bstr ([0, 0, 0]))), (.int .i64 0), (.int .i64 0), (.slice none 0 0)])), (36, (.agg #[(.int .i64 25), (.int .i64 1)])), (8, (.int .i64 0)), (7, (.string (bstr saneT))), (34, (.int .i64 0)), (33, (.string (bstr saneT))), (29, (.tuple #[(.string (bstr saneT)), (.int .i64 0)])), (32, (.tuple #[(.string (bstr saneT)), (.int .i64 0)])), (31, (.agg #[(.int .i64 2), (.int .i64 18), (.int .i64 0), (.int .i64 0), (.int .i64 0), (.bool false), (.string (bstr ([]))), (.int .i64 0), (.int .i64 1000), (.string (bstr ([0, 0, 0]))), (.int .i64 0), (.int .i64 0), (.slice none 0 0)])), (30, (.agg #[(.int .i64 25), (.int .i64 1)])), (6, (.int .i64 0)), (5, (.string (bstr saneS))), (28, (.int .i64 0)), (27, (.string (bstr saneS))), (23, (.tuple #[(.string (bstr saneS)), (.int .i64 0)])), (26, (.tuple #[(.string (bstr saneS)), (.int .i64 0)])), (25, (.agg #[(.int .i64 2), (.int .i64 17), (.int .i64 0), (.int .i64 0), (.int .i64 0), (.bool false), (.string (bstr ([]))), (.int .i64 0), (.int .i64 1000), (.string (bstr ([0, 0, 0]))), (.int .i64 0), (.int .i64 0), (.slice none 0 0)])), (24, (.agg #[(.int .i64 25), (.int .i64 1)])), (22, (.pointer (some ⟨b_11, 0, none⟩))), (4, (.pointer (some ⟨b_11, 0, none⟩))), (21, (.agg #[(.int .i64 2), (.int .i64 18), (.int .i64 0), (.int .i64 0), (.int .i64 0), (.bool false), (.string (bstr ([]))), (.int .i64 0), (.int .i64 1000), (.string (bstr ([0, 0, 0]))), (.int .i64 0), (.int .i64 0), (.slice none 0 0)])), (20, (.pointer (some ⟨b_7, 1, none⟩))), (3, (.pointer (some ⟨b_7, 0, none⟩))), (19, (.agg #[(.int .i64 2), (.int .i64 17), (.int .i64 0), (.int .i64 0), (.int .i64 0), (.bool false), (.string (bstr ([]))), (.int .i64 0), (.int .i64 1000), (.string (bstr ([0, 0, 0]))), (.int .i64 0), (.int .i64 0), (.slice none 0 0)])), (2, (.pointer (some ⟨b_4, 0, none⟩))), (18, (.agg #[(.int .i64 2), (.int .i64 17), (.int .i64 0), (.int .i64 0), (.int .i64 0), (.bool false), (.string (bstr ([]))), (.int .i64 0), (.int .i64 1000), (.string (bstr ([0, 0, 0]))), (.int .i64 0), (.int .i64 0), (.slice none 0 0)])), (1, (.pointer (some ⟨b_1, 0, none⟩))), (17, (.agg #[(.int .i64 25), (.int .i64 1)])), (0, (.bool false))]) (by kernel_rfl)
 refine then_normal ?_
 refine w_iff H rfl ?_
 refine wp_skip (then_normal (wp_seq (w_region ?_)))
 refine H.v 75 (.string (bstr saneS)) fun a H => ?_
 refine H.u 76 (.string (bstr (saneS.take 4))) (ex_ssliceH (kk := .i64) (l := saneS) (j := 4) (b := 4) (by kernel_rfl) (by kernel_rfl) (by kernel_rfl) (by omega) (by (have := sane_l; omega))) fun a H => ?_
 refine H.valE 77 (.bool ((bstr (saneS.take 4)).toList == (bstr [71, 2, 16, 3]).toList)) (.bool true) (by kernel_rfl) (by kernel_rfl) ((by kernel_rfl)) fun a H => ?_
 refine H.v 78 (.bool true) fun a H => ?_
 refine H.v 79 (.string (bstr saneS)) fun a H => ?_
 refine H.u 80 (.string (bstr ((saneS.drop 5).take (9 - 5)))) (ex_sslice (k := .i64) (kk := .i64) (l := saneS) (i := 5) (j := 9) (a := 5) (b := 9) (by kernel_rfl) (by kernel_rfl) (by kernel_rfl) (by kernel_rfl) (by omega) (by omega) (by (have := sane_l; omega)) (by (have := sane_l; omega))) fun a H => ?_
 refine H.valE 81 (.bool ((bstr ((saneS.drop 5).take (9 - 5))).toList == (bstr [0, 0, 0, 239]).toList)) (.bool true) (by kernel_rfl) (by kernel_rfl) ((by kernel_rfl)) fun a H => ?_
 refine H.v 82 (.bool true) fun a H => ?_
 refine H.v 83 (.bool true) fun a H => ?_
 refine H.v 84 (.int .i64 0) fun a H => ?_
 refine H.v 85 (.bool true) fun a H => ?_
 refine H.v 86 (.bool true) fun a H => ?_
 refine H.v 87 (.bool true) fun a H => ?_
 refine H.u 88 (.agg #[(.int .i64 2), (.int .i64 17), (.int .i64 0), (.int .i64 0), (.int .i64 0), (.bool false), (.string (bstr ([]))), (.int .i64 0), (.int .i64 1000), (.string (bstr ([0, 0, 0]))), (.int .i64 0), (.int .i64 0), (.slice BB 0 cc)]) (ex_loadN (vs := [(.int .i64 2), (.int .i64 17), (.int .i64 0), (.int .i64 0), (.int .i64 0), (.bool false), (.string (bstr ([]))), (.int .i64 0), (.int .i64 1000), (.string (bstr ([0, 0, 0]))), (.int .i64 0), (.int .i64 0), (.slice BB 0 cc)]) (by kernel_rfl) (by kernel_rfl) (by kernel_rfl) rfl (HP.cells 1 rfl 0 13 (by kernel_rfl))) fun a H => ?_
 refine H.u 89 (.agg #[(.int .i64 2), (.int .i64 17), (.int .i64 0), (.int .i64 0), (.int .i64 0), (.bool false), (.string (bstr ([]))), (.int .i64 0), (.int .i64 1000), (.string (bstr ([0, 0, 0]))), (.int .i64 0), (.int .i64 0), (.slice none 0 0)]) (ex_loadN (vs := [(.int .i64 2), (.int .i64 17), (.int .i64 0), (.int .i64 0), (.int .i64 0), (.bool false), (.string (bstr ([]))), (.int .i64 0), (.int .i64 1000), (.string (bstr ([0, 0, 0]))), (.int .i64 0), (.int .i64 0), (.slice none 0 0)]) (by kernel_rfl) (by kernel_rfl) (by kernel_rfl) rfl (HP.cells 4 rfl 0 13 (by kernel_rfl))) fun a H => ?_
 refine H.call 90 (by kernel_rfl) (Eq.trans (by kernel_rfl : _ = (callFunc 20 #[(.agg #[(.int .i64 2), (.int .i64 17), (.int .i64 0), (.int .i64 0), (.int .i64 0), (.bool false), (.string (bstr ([]))), (.int .i64 0), (.int .i64 1000), (.string (bstr ([0, 0, 0]))), (.int .i64 0), (.int .i64 0), (.slice BB 0 cc)]), (.agg #[(.int .i64 2), (.int .i64 17), (.int .i64 0), (.int .i64 0), (.int .i64 0), (.bool false), (.string (bstr ([]))), (.int .i64 0), (.int .i64 1000), (.string (bstr ([0, 0, 0]))), (.int .i64 0), (.int .i64 0), (.slice none 0 0)])]).run Tryd.prog w_27) (Tryd.call20 _ _)) ((by have hh := usame_any ({ saneU with A := BB, c := cc } : Un) saneU w_27 (IsAlts.nil _ _) (IsAlts.nil _ _) (Nat.zero_le _); rw [show sameU ({ saneU with A := BB, c := cc } : Un) saneU = true from by kernel_rfl] at hh; exact hh)) ?_
 rintro e w_28 ⟨rfl, hb⟩
 refine ⟨_, rfl, ?_⟩
 intro a H
 have HP := HP.next hb
 refine H.v 91 (.bool true) fun a H => ?_
 refine H.v 92 (.bool true) fun a H => ?_
 refine H.v 93 (.int .i64 180) fun a H => ?_
 refine H.v 94 (.bool true) fun a H => ?_
 refine H.v 95 (.bool true) fun a H => ?_
 refine H.v 96 (.bool true) fun a H => ?_
 refine H.v 97 (.int .i64 180) fun a H => ?_
 refine H.v 98 (.bool true) fun a H => ?_
 refine H.v 99 (.bool true) fun a H => ?_
 refine H.v 100 (.bool true) fun a H => ?_
 refine H.v 101 (.string (bstr saneS)) fun a H => ?_
 refine H.v 102 (.string (bstr saneT)) fun a H => ?_
 refine H.call 103 (by kernel_rfl) (Eq.trans (by kernel_rfl : _ = (callFunc 24 #[(.string (bstr saneS)), (.string (bstr saneT))]).run Tryd.prog w_28) (Tryd.call24 _ _)) ((by have hh := follows_any saneS saneT w_28 (by rw [sane_l]; decide) (by rw [sane_l2]; decide); rw [sane_f1] at hh; exact hh)) ?_
 rintro e w_29 ⟨rfl, hb⟩
 refine ⟨_, rfl, ?_⟩
 intro a H
 have HP := HP.next hb
 refine H.v 104 (.bool true) fun a H => ?_
 refine H.v 105 (.bool true) fun a H => ?_
 refine H.v 106 (.string (bstr saneS)) fun a H => ?_
 refine H.v 107 (.string (bstr saneX)) fun a H => ?_
 refine H.call 108 (by kernel_rfl) (Eq.trans (by kernel_rfl : _ = (callFunc 24 #[(.string (bstr saneS)), (.string (bstr saneX))]).run Tryd.prog w_29) (Tryd.call24 _ _)) ((by have hh := follows_any saneS saneX w_29 (by rw [sane_l]; decide) (by rw [sane_l3]; decide); rw [sane_f2] at hh; exact hh)) ?_
 rintro e w_30 ⟨rfl, hb⟩
 refine ⟨_, rfl, ?_⟩
 intro a H
 have HP := HP.next hb
 refine H.v 109 (.bool true) fun a H => ?_
 refine H.v 110 (.bool true) fun a H => ?_
 refine H.v 111 (.bool true) fun a H => ?_
 refine H.v 112 (.string (bstr saneT)) fun a H => ?_
 refine H.v 113 (.string (bstr saneS)) fun a H => ?_
 refine H.call 114 (by kernel_rfl) (Eq.trans (by kernel_rfl : _ = (callFunc 24 #[(.string (bstr saneT)), (.string (bstr saneS))]).run Tryd.prog w_30) (Tryd.call24 _ _)) ((by have hh := follows_any saneT saneS w_30 (by rw [sane_l2]; decide) (by rw [sane_l]; decide); rw [sane_f3] at hh; exact hh)) ?_
 rintro e w_31 ⟨rfl, hb⟩
 refine ⟨_, rfl, ?_⟩
 intro a H
 have HP := HP.next hb
 refine H.v 115 (.bool true) fun a H => ?_
 refine H.v 116 (.bool true) fun a H => ?_
 refine H.v 117 (.bool true) fun a H => ?_
 refine H.u 118 (.agg #[(.int .i64 2), (.int .i64 17), (.int .i64 0), (.int .i64 0), (.int .i64 0), (.bool false), (.string (bstr ([]))), (.int .i64 0), (.int .i64 1000), (.string (bstr ([0, 0, 0]))), (.int .i64 0), (.int .i64 0), (.slice none 0 0)]) (ex_loadN (vs := [(.int .i64 2), (.int .i64 17), (.int .i64 0), (.int .i64 0), (.int .i64 0), (.bool false), (.string (bstr ([]))), (.int .i64 0), (.int .i64 1000), (.string (bstr ([0, 0, 0]))), (.int .i64 0), (.int .i64 0), (.slice none 0 0)]) (by kernel_rfl) (by kernel_rfl) (by kernel_rfl) rfl (HP.cells 4 rfl 0 13 (by kernel_rfl))) fun a H => ?_
 refine H.call 119 (by kernel_rfl) (Eq.trans (by kernel_rfl : _ = (callFunc 18 #[(.agg #[(.int .i64 2), (.int .i64 17), (.int .i64 0), (.int .i64 0), (.int .i64 0), (.bool false), (.string (bstr ([]))), (.int .i64 0), (.int .i64 1000), (.string (bstr ([0, 0, 0]))), (.int .i64 0), (.int .i64 0), (.slice none 0 0)])]).run Tryd.prog w_31) (Tryd.call18 _ _)) ((by have hh := uvalid_any saneU w_31 (IsAlts.nil _ _) (Nat.zero_le _); rw [show validU saneU = true from by kernel_rfl] at hh; exact hh)) ?_
 rintro e w_32 ⟨rfl, hb⟩
 refine ⟨_, rfl, ?_⟩
 intro a H
 have HP := HP.next hb
 refine H.v 120 (.bool true) fun a H => ?_
 refine H.v 121 (.bool true) fun a H => ?_
 refine H.u 122 (.agg #[(.int .i64 3), (.int .i64 18), (.int .i64 0), (.int .i64 0), (.int .i64 0), (.bool false), (.string (bstr ([]))), (.int .i64 0), (.int .i64 1000), (.string (bstr ([97, 98]))), (.int .i64 0), (.int .i64 0), (.slice none 0 0)]) (ex_loadN (vs := [(.int .i64 3), (.int .i64 18), (.int .i64 0), (.int .i64 0), (.int .i64 0), (.bool false), (.string (bstr ([]))), (.int .i64 0), (.int .i64 1000), (.string (bstr ([97, 98]))), (.int .i64 0), (.int .i64 0), (.slice none 0 0)]) (by kernel_rfl) (by kernel_rfl) (by kernel_rfl) rfl (HP.cells 2 rfl 0 13 (by kernel_rfl))) fun a H => ?_
 refine H.call 123 (by kernel_rfl) (Eq.trans (by kernel_rfl : _ = (callFunc 18 #[(.agg #[(.int .i64 3), (.int .i64 18), (.int .i64 0), (.int .i64 0), (.int .i64 0), (.bool false), (.string (bstr ([]))), (.int .i64 0), (.int .i64 1000), (.string (bstr ([97, 98]))), (.int .i64 0), (.int .i64 0), (.slice none 0 0)])]).run Tryd.prog w_32) (Tryd.call18 _ _)) ((by have hh := uvalid_any ({ saneU with frame := 18, channel := 3, caption := [97, 98] } : Un) w_32 (IsAlts.nil _ _) (Nat.zero_le _); rw [show validU ({ saneU with frame := 18, channel := 3, caption := [97, 98] } : Un) = false from by kernel_rfl] at hh; exact hh)) ?_
 rintro e w_33 ⟨rfl, hb⟩
 refine ⟨_, rfl, ?_⟩
 intro a H
 have HP := HP.next hb
 refine H.v 124 (.bool true) fun a H => ?_
 refine H.v 125 (.bool true) fun a H => ?_
 refine H.v 126 (.bool true) fun a H => ?_
 refine H.u 127 (.agg #[(.int .i64 2), (.int .i64 17), (.int .i64 0), (.int .i64 0), (.int .i64 0), (.bool false), (.string (bstr ([]))), (.int .i64 0), (.int .i64 1000), (.string (bstr ([0, 0, 0]))), (.int .i64 0), (.int .i64 0), (.slice none 0 0)]) (ex_loadN (vs := [(.int .i64 2), (.int .i64 17), (.int .i64 0), (.int .i64 0), (.int .i64 0), (.bool false), (.string (bstr ([]))), (.int .i64 0), (.int .i64 1000), (.string (bstr ([0, 0, 0]))), (.int .i64 0), (.int .i64 0), (.slice none 0 0)]) (by kernel_rfl) (by kernel_rfl) (by kernel_rfl) rfl (HP.cells 4 rfl 0 13 (by kernel_rfl))) fun a H => ?_
 refine H.u 128 (.agg #[(.int .i64 2), (.int .i64 18), (.int .i64 0), (.int .i64 0), (.int .i64 0), (.bool false), (.string (bstr ([]))), (.int .i64 0), (.int .i64 1000), (.string (bstr ([0, 0, 0]))), (.int .i64 0), (.int .i64 0), (.slice none 0 0)]) (ex_loadN (vs := [(.int .i64 2), (.int .i64 18), (.int .i64 0), (.int .i64 0), (.int .i64 0), (.bool false), (.string (bstr ([]))), (.int .i64 0), (.int .i64 1000), (.string (bstr ([0, 0, 0]))), (.int .i64 0), (.int .i64 0), (.slice none 0 0)]) (by kernel_rfl) (by kernel_rfl) (by kernel_rfl) rfl (HP.cells 3 rfl 0 13 (by kernel_rfl))) fun a H => ?_
 refine H.call 129 (by kernel_rfl) (Eq.trans (by kernel_rfl : _ = (callFunc 20 #[(.agg #[(.int .i64 2), (.int .i64 17), (.int .i64 0), (.int .i64 0), (.int .i64 0), (.bool false), (.string (bstr ([]))), (.int .i64 0), (.int .i64 1000), (.string (bstr ([0, 0, 0]))), (.int .i64 0), (.int .i64 0), (.slice none 0 0)]), (.agg #[(.int .i64 2), (.int .i64 18), (.int .i64 0), (.int .i64 0), (.int .i64 0), (.bool false), (.string (bstr ([]))), (.int .i64 0), (.int .i64 1000), (.string (bstr ([0, 0, 0]))), (.int .i64 0), (.int .i64 0), (.slice none 0 0)])]).run Tryd.prog w_33) (Tryd.call20 _ _)) ((by have hh := usame_any saneU ({ saneU with frame := 18 } : Un) w_33 (IsAlts.nil _ _) (IsAlts.nil _ _) (Nat.zero_le _); rw [show sameU saneU ({ saneU with frame := 18 } : Un) = false from by kernel_rfl] at hh; exact hh)) ?_
 rintro e w_34 ⟨rfl, hb⟩
 refine ⟨_, rfl, ?_⟩
 intro a H
 have HP := HP.next hb
 refine H.v 130 (.bool true) fun a H => ?_
 refine H.v 131 (.bool true) fun a H => ?_
 refine H.v 0 (.bool true) fun a H => ?_
 refine wpList_nil ?_
 have H := H.keep (L' := [(0, (.bool true)), (74, (.bool false)), (16, (.int .i64 180)), (15, (.string (bstr ([])))), (59, (.int .i64 180)), (58, (.string (bstr ([])))), (54, (.tuple #[(.string (bstr ([]))), (.int .i64 180)])), (57, (.tuple #[(.string (bstr ([]))), (.int .i64 180)])), (56, (.agg #[(.int .i64 3), (.int .i64 18), (.int .i64 0), (.int .i64 0), (.int .i64 0), (.bool false), (.string (bstr ([]))), (.int .i64 0), (.int .i64 1000), (.string (bstr ([97, 98]))), (.int .i64 0), (.int .i64 0), (.slice none 0 0)])), (55, (.agg #[(.int .i64 25), (.int .i64 1)])), (53, (.pointer (some ⟨b_11, 9, none⟩))), (14, (.int .i64 180)), (13, (.pointer (some ⟨b_23, 0, none⟩))), (52, (.int .i64 180)), (51, (.agg #[(.int .i64 0), (.int .i64 0), (.int .i64 0), (.int .i64 0), (.int .i64 0), (.bool false), (.string (bstr ([]))), (.int .i64 0), (.int .i64 0), (.string (bstr ([]))), (.int .i64 0), (.int .i64 0), (.slice none 0 0)])), (47, (.tuple #[(.agg #[(.int .i64 0), (.int .i64 0), (.int .i64 0), (.int .i64 0), (.int .i64 0), (.bool false), (.string (bstr ([]))), (.int .i64 0), (.int .i64 0), (.string (bstr ([]))), (.int .i64 0), (.int .i64 0), (.slice none 0 0)]), (.int .i64 180)])), (50, (.tuple #[(.agg #[(.int .i64 0), (.int .i64 0), (.int .i64 0), (.int .i64 0), (.int .i64 0), (.bool false), (.string (bstr ([]))), (.int .i64 0), (.int .i64 0), (.string (bstr ([]))), (.int .i64 0), (.int .i64 0), (.slice none 0 0)]), (.int .i64 180)])), (49, (.string (bstr saneS))), (48, (.agg #[(.int .i64 50), (.int .i64 1)])), (12, (.int .i64 0)), (11, (.pointer (some ⟨b_19, 0, none⟩))), (46, (.int .i64 0)), (45, (.agg #[(.int .i64 2), (.int .i64 17), (.int .i64 0), (.int .i64 0), (.int .i64 0), (.bool false), (.string (bstr ([]))), (.int .i64 0), (.int .i64 1000), (.string (bstr ([0, 0, 0]))), (.int .i64 0), (.int .i64 0), (.slice BB 0 cc)])), (41, (.tuple #[(.agg #[(.int .i64 2), (.int .i64 17), (.int .i64 0), (.int .i64 0), (.int .i64 0), (.bool false), (.string (bstr ([]))), (.int .i64 0), (.int .i64 1000), (.string (bstr ([0, 0, 0]))), (.int .i64 0), (.int .i64 0), (.slice BB 0 cc)]), (.int .i64 0)])), (44, (.tuple #[(.agg #[(.int .i64 2), (.int .i64 17), (.int .i64 0), (.int .i64 0), (.int .i64 0), (.bool false), (.string (bstr ([]))), (.int .i64 0), (.int .i64 1000), (.string (bstr ([0, 0, 0]))), (.int .i64 0), (.int .i64 0), (.slice BB 0 cc)]), (.int .i64 0)])), (43, (.string (bstr saneS))), (42, (.agg #[(.int .i64 25), (.int .i64 1)])), (10, (.int .i64 0)), (9, (.string (bstr saneX))), (40, (.int .i64 0)), (39, (.string (bstr saneX))), (35, (.tuple #[(.string (bstr saneX)), (.int .i64 0)])), (38, (.tuple #[(.string (bstr saneX)), (.int .i64 0)])), (37, (.agg #[(.int .i64 3), (.int .i64 18), (.int .i64 0), (.int .i64 0), (.int .i64 0), (.bool false), (.string (bstr ([]))), (.int .i64 0), (.int .i64 1000), (.string (bstr ([0, 0, 0]))), (.int .i64 0), (.int .i64 0), (.slice none 0 0)])), (36, (.agg #[(.int .i64 25), (.int .i64 1)])), (8, (.int .i64 0)), (7, (.string (bstr saneT))), (34, (.int .i64 0)), (33, (.string (bstr saneT))), (29, (.tuple #[(.string (bstr saneT)), (.int .i64 0)])), (32, (.tuple #[(.string (bstr saneT)), (.int .i64 0)])), (31, (.agg #[(.int .i64 2), (.int .i64 18), (.int .i64 0), (.int .i64 0), (.int .i64 0), (.bool false), (.string (bstr ([]))), (.int .i64 0), (.int .i64 1000), (.string (bstr ([0, 0, 0]))), (.int .i64 0), (.int .i64 0), (.slice none 0 0)])), (30, (.agg #[(.int .i64 25), (.int .i64 1)])), (6, (.int .i64 0)), (5, (.string (bstr saneS))), (28, (.int .i64 0)), (27, (.string (bstr saneS))), (23, (.tuple #[(.string (bstr saneS)), (.int .i64 0)])), (26, (.tuple #[(.string (bstr saneS)), (.int .i64 0)])), (25, (.agg #[(.int .i64 2), (.int .i64 17), (.int .i64 0), (.int .i64 0), (.int .i64 0), (.bool false), (.string (bstr ([]))), (.int .i64 0), (.int .i64 1000), (.string (bstr ([0, 0, 0]))), (.int .i64 0), (.int .i64 0), (.slice none 0 0)])), (24, (.agg #[(.int .i64 25), (.int .i64 1)])), (22, (.pointer (some ⟨b_11, 0, none⟩))), (4, (.pointer (some ⟨b_11, 0, none⟩))), (21, (.agg #[(.int .i64 2), (.int .i64 18), (.int .i64 0), (.int .i64 0), (.int .i64 0), (.bool false), (.string (bstr ([]))), (.int .i64 0), (.int .i64 1000), (.string (bstr ([0, 0, 0]))), (.int .i64 0), (.int .i64 0), (.slice none 0 0)])), (20, (.pointer (some ⟨b_7, 1, none⟩))), (3, (.pointer (some ⟨b_7, 0, none⟩))), (19, (.agg #[(.int .i64 2), (.int .i64 17), (.int .i64 0), (.int .i64 0), (.int .i64 0), (.bool false), (.string (bstr ([]))), (.int .i64 0), (.int .i64 1000), (.string (bstr ([0, 0, 0]))), (.int .i64 0), (.int .i64 0), (.slice none 0 0)])), (2, (.pointer (some ⟨b_4, 0, none⟩))), (18, (.agg #[(.int .i64 2), (.int .i64 17), (.int .i64 0), (.int .i64 0), (.int .i64 0), (.bool false), (.string (bstr ([]))), (.int .i64 0), (.int .i64 1000), (.string (bstr ([0, 0, 0]))), (.int .i64 0), (.int .i64 0), (.slice none 0 0)])), (1, (.pointer (some ⟨b_1, 0, none⟩))), (17, (.agg #[(.int .i64 25), (.int .i64 1)]))]) (by kernel_rfl)
 refine then_normal (wp_ret ?_)
 refine H.ret1 (fn := Tryd.f13) Tryd.results13 (RV.tmp_ (v := (.bool true)) (by kernel_rfl)) ?_
 exact ⟨rfl, (HP.below (by kernel_rfl))⟩
end Go.Proofs.YtgdjpaeclicdfaaDoor
