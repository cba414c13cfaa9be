/- Contracts of the reference: Body, Pack. -/
import Derived.Test.YtgdjpaeclicdfaaDoorRfB
namespace Go.Proofs.YtgdjpaeclicdfaaDoor
open Go.ChangeShapes Go.WideShapes Go.ChangeAt Go.RowKit
set_option linter.unusedVariables false
set_option linter.unusedSimpArgs false

theorem content_len {u : Un} (h : validU u = true) : (contentP u).length ≤ 720 := by
 have h1 := streamU_len (rn := 1) (rd := 1) h
 rw [streamU_eq, List.length_append, List.length_append] at h1
 omega
theorem bytes5 {a b c d : Nat} (ha : a < 256) (hb : b < 256) (hc : c < 256) (hd : d < 256) : Lib.byteCells [71, UInt8.ofNat a, UInt8.ofNat b, UInt8.ofNat c, UInt8.ofNat d] = [Value.int .u8 71, Value.int .u8 ((a : Nat) : Int), Value.int .u8 ((b : Nat) : Int), Value.int .u8 ((c : Nat) : Int), Value.int .u8 ((d : Nat) : Int)] := by
 simp only [Lib.byteCells, List.map_cons, List.map_nil, ofNat_toNat ha, ofNat_toNat hb, ofNat_toNat hc, ofNat_toNat hd]
 rfl
theorem bytes_onec (l : List UInt8) : oneCells (Lib.byteCells l) = true := by
 induction l with
 | nil => rfl
 | cons a l ih => exact ih
theorem stream_sub {w : World} {bs j m : Nat} {S : List UInt8} (h : Rd w 1 (some ⟨bs, 0, none⟩) (Lib.byteCells S).length (Lib.byteCells S)) (hm : 59 * j + m ≤ S.length) : Rd w 1 (some ⟨bs, 59 * j, none⟩) m (Lib.byteCells ((S.drop (59 * j)).take m)) := by
 refine ⟨by rw [byteCells_len, List.length_take, List.length_drop]; omega, ?_⟩
 by_cases h0 : m = 0
 ·exact .inl h0
 ·obtain ⟨b, off, he, hb, hc⟩ := h.2.resolve_left (by rw [byteCells_len]; omega)
  cases he
  refine .inr ⟨bs, 59 * j, rfl, hb, fun i hi => ?_⟩
  have := hc (59 * j + i) (by rw [byteCells_len]; omega)
  rw [Nat.zero_add] at this
  rw [this, byteCells_get, byteCells_get, List.getElem?_take_of_lt (by omega), List.getElem?_drop]
theorem rep_step {q m : Nat} (h : m ≤ q) : List.replicate (q + 1 - m) (255 : UInt8) = List.replicate (q - m) 255 ++ [255] := by
 rw [show q + 1 - m = (q - m) + 1 by omega, List.replicate_succ']
theorem pk_take_len {S : List UInt8} {ch fr N j : Nat} (hN : pktN S = N) (hj : j ≤ N) : (((pkL S ch fr).take j).flatten).length = 64 * j := by
 rw [flat_len64 (fun y hy => pkL_len S ch fr y (List.mem_of_mem_take hy)), List.length_take]
 have : (pkL S ch fr).length = N := by simp [pkL, hN]
 rw [this, Nat.min_eq_left hj]
theorem pk_step {S : List UInt8} {ch fr N j m fl : Nat} (hN : pktN S = N) (hj : j < N) (hm : m = min 59 (S.length - 59 * j)) (hfl : fl = flagsP N j) :
  ((pkL S ch fr).take j).flatten ++ [71, UInt8.ofNat ch, UInt8.ofNat (16 * (fr % 16) + j % 16), UInt8.ofNat fl, UInt8.ofNat m] ++ (S.drop (59 * j)).take m ++ List.replicate (59 - m) 255 = ((pkL S ch fr).take (j + 1)).flatten := by
 have hl : j < (pkL S ch fr).length := by simp [pkL, hN, hj]
 have hg : (pkL S ch fr)[j] = pktAt S ch fr N j := by simp [pkL, hN]
 rw [List.take_succ_eq_append_getElem hl, List.flatten_append, hg]
 simp only [List.flatten_cons, List.flatten_nil, List.append_nil]
 unfold pktAt
 rw [hfl, ← hm, List.append_assoc, List.append_assoc, List.append_assoc]
 congr 2
 have e1 : (S.drop (59 * j)).take m = (S.drop (59 * j)).take 59 := by
  by_cases h : m = 59
  ·rw [h]
  ·rw [List.take_of_length_le (by rw [List.length_drop]; omega), List.take_of_length_le (by rw [List.length_drop]; omega)]
 rw [e1, show 59 - m = 59 - (S.length - 59 * j) by omega]
theorem slice_adv {bs j m cl L : Nat} (h1 : m < cl) (h2 : m = min 59 (L - 59 * j)) (h3 : 59 < L - 59 * j) : (if cl = m then some (⟨bs, 59 * j, none⟩ : Addr) else some ⟨bs, 59 * j + m, none⟩) = some ⟨bs, 59 * (j + 1), none⟩ := by
 rw [if_neg (by omega), show 59 * j + m = 59 * (j + 1) by omega]
/-- x[a:] of a slice -/
theorem ex_sliceLo {P : Program} {ρ : Operand → Value} {w : World} {t : TypeId} {x y : Operand} {dst : Option Tmp} {ty : TypeId} {pos : String} {af : Array Edge} {g : Option (Nat × Bool)} {b off len cap i : Nat} {lo : Int} (hx : ρ x = .slice (some ⟨b, off, none⟩) len cap) (hy : ρ y = .int .i64 lo) (hu : P.underlying t = some (.slice (P.elem t))) (hs : sizeB P (P.elem t) = some 1)
  (h1 : lo = (i : Int)) (h3 : i ≤ len) (h4 : len ≤ cap) :
  (execOp ρ ⟨dst, .slice t x (some y) none none, ty, pos, af, g⟩).run P w = .ok (.value (.slice (if cap = i then some ⟨b, off, none⟩ else some ⟨b, off + i, none⟩) (len - i) (cap - i))) w := by
 subst h1
 have e : sliced (some ⟨b, off, none⟩) i len cap 1 = .slice (if cap = i then some ⟨b, off, none⟩ else some ⟨b, off + i, none⟩) (len - i) (cap - i) := by
  unfold sliced
  rw [Option.map_some, add_plain, Nat.mul_one]
 simp only [execOp, hx, hy, Option.map_none, Option.map_some, run_sliceAt_slice w t _ _ _ _ hu, run_slice_l w t (some ⟨b, off, none⟩) len cap hu .i64 (i : Int) (by omega) (by omega), run_sizeOf hs, Sem.run_bind, Result.andThen_ok, Sem.run_pure, Int.toNat_natCast, e]
set_option maxRecDepth 100000 in
set_option maxHeartbeats 4000000 in
theorem rbody_any (u : Un) (w : World) (hu : IsAlts w u.A u.al.length u.al) (hv : validU u = true) (hcap : u.al.length ≤ u.c) :
  Calls Tryd.prog 35 #[u.val] w fun e w' => e = .returned (.string (bstr (bodyP u))) ∧ Below w.heap.size w w' := by
 have HP := Hp.start w
 obtain ⟨⟨f1, f2, f3, f4, f5, f6, f7, f8, f9, f10, f11, f12, f13, f14, f15, f16⟩, ho⟩ := validU_facts hv
 have hol := encOpt_len ho
 have hcl := content_len hv
 have hsl := sumP_lt (contentP u)
 have e1 := (encInt_len u.channel).2
 have e2 := (encInt_len u.frame).2
 have e3 := (encInt_len u.version).2
 have e4 := (encInt_len u.item).2
 have e5 := (encInt_len u.index).2
 have e6 := (encInt_len 0).2
 have e7 := (encInt_len 1).2
 have e8 := encStr_len u.data
 have e9 := (encInt_len u.regions).2
 have e10 := (encInt_len u.gain).2
 have e11 := encStr_len u.caption
 have e12 := encStr_len (encOpt u.os u.of u.al)
 have e13 := (encInt_len ((sumP (contentP u) : Nat) : Int)).2
 refine w_enter 61 [(0, (.agg (ua u u.A u.c)))] Tryd.func35 rfl Tryd.ntmps35 (by kernel_rfl) (by kernel_rfl) fun a H => ?_
 refine wp_seq (w_region ?_)
 refine H.alloc HP 1 (fun b => (.pointer (some ⟨b, 0, none⟩))) 28 (ul u u.A u.c) (by kernel_rfl) (fun w => by kernel_rfl) fun b_1 w_2 a H HP => ?_
 refine H.v 2 (.string (bstr ([]))) fun a H => ?_
 refine wpList_nil (then_normal (wp_seq (w_region ?_)))
 refine H.v 3 (.int .i64 0) fun a H => ?_
 refine wpList_nil (then_normal (wp_seq (wp_seq (w_region ?_))))
 refine H.v 7 (.pointer (some ⟨b_1, 5, none⟩)) fun a H => ?_
 refine H.u 8 (.bool u.key) (ex_load1 (by kernel_rfl) (by kernel_rfl) (HP.cell 0 rfl 5 rfl)) fun a H => ?_
 refine wpList_nil (then_normal ?_)
 refine w_if H rfl (fun g8 => ?_) (fun g8 => ?_)
 ·have g8p := g8
  refine w_region ?_
  refine H.v 3 (.int .i64 1) fun a H => ?_
  refine wpList_nil (then_normal (wp_seq (w_region ?_)))
  refine H.v 10 (.pointer (some ⟨b_1, 10, none⟩)) fun a H => ?_
  refine H.u 11 (.agg #[(.int .i64 u.os), (.int .i64 u.of), (.slice u.A u.al.length u.c)]) (ex_loadN (vs := [(.int .i64 u.os), (.int .i64 u.of), (.slice u.A u.al.length u.c)]) (by kernel_rfl) (by kernel_rfl) (by kernel_rfl) rfl (HP.cells 0 rfl 10 3 (by kernel_rfl))) fun a H => ?_
  refine H.call 12 (by kernel_rfl) (Eq.trans (by kernel_rfl : _ = (callFunc 57 #[(.agg #[(.int .i64 u.os), (.int .i64 u.of), (.slice u.A u.al.length u.c)])]).run Tryd.prog w_2) (Tryd.call57 _ _)) (rencode_any u.os u.of u.A u.c u.al w_2 (hu.below (HP.below (by kernel_rfl))) ho hcap) ?_
  rintro e w_3 ⟨rfl, hb⟩
  refine ⟨_, rfl, ?_⟩
  intro a H
  have HP := HP.next hb
  refine H.v 9 (.tuple #[(.string (bstr (encOpt u.os u.of u.al))), (.int .i64 0)]) fun a H => ?_
  refine H.v 13 (.string (bstr (encOpt u.os u.of u.al))) fun a H => ?_
  refine H.v 14 (.int .i64 0) fun a H => ?_
  refine H.v 4 (.string (bstr (encOpt u.os u.of u.al))) fun a H => ?_
  refine H.v 5 (.int .i64 0) fun a H => ?_
  refine wpList_nil (then_normal ?_)
  refine w_cut (fun a wv => Sl 61 [(6, (.string (bstr (contentP u))))] a ∧ Hp w wv [bx b_1 28 (ul u u.A u.c) true] []) ?_ ?_
  ·
   refine An.start (fun v => Hp w v [bx b_1 28 (ul u u.A u.c) true] []) 42 42 HP wide_follows rfl fun w_4 HP => ?_
   refine An.p H (.inr HP) 0 15 (.pointer (some ⟨b_1, 0, none⟩)) fun a H => ?_
   refine An.val H (HP) 1 16 (.int .i64 u.channel) rfl (by kernel_rfl) (by kernel_rfl) (fun _ _ _ h => h) (fun _ hS => ex_load1 (by kernel_rfl) (by kernel_rfl) (hS.cell 0 rfl 0 rfl)) fun a H => ?_
   refine An.p H (.inr HP) 3 18 (.pointer (some ⟨b_1, 1, none⟩)) fun a H => ?_
   refine An.val H (HP) 4 19 (.int .i64 u.frame) rfl (by kernel_rfl) (by kernel_rfl) (fun _ _ _ h => h) (fun _ hS => ex_load1 (by kernel_rfl) (by kernel_rfl) (hS.cell 0 rfl 1 rfl)) fun a H => ?_
   refine An.p H (.inr HP) 7 22 (.pointer (some ⟨b_1, 2, none⟩)) fun a H => ?_
   refine An.val H (HP) 8 23 (.int .i64 u.version) rfl (by kernel_rfl) (by kernel_rfl) (fun _ _ _ h => h) (fun _ hS => ex_load1 (by kernel_rfl) (by kernel_rfl) (hS.cell 0 rfl 2 rfl)) fun a H => ?_
   refine An.p H (.inr HP) 11 26 (.pointer (some ⟨b_1, 3, none⟩)) fun a H => ?_
   refine An.val H (HP) 12 27 (.int .i64 u.item) rfl (by kernel_rfl) (by kernel_rfl) (fun _ _ _ h => h) (fun _ hS => ex_load1 (by kernel_rfl) (by kernel_rfl) (hS.cell 0 rfl 3 rfl)) fun a H => ?_
   refine An.p H (.inr HP) 15 30 (.pointer (some ⟨b_1, 4, none⟩)) fun a H => ?_
   refine An.val H (HP) 16 31 (.int .i64 u.index) rfl (by kernel_rfl) (by kernel_rfl) (fun _ _ _ h => h) (fun _ hS => ex_load1 (by kernel_rfl) (by kernel_rfl) (hS.cell 0 rfl 4 rfl)) fun a H => ?_
   refine An.p H (.inr HP) 19 34 (.int .i64 1) fun a H => ?_
   refine An.p H (.inr HP) 22 37 (.pointer (some ⟨b_1, 6, none⟩)) fun a H => ?_
   refine An.val H (HP) 23 38 (.string (bstr u.data)) rfl (by kernel_rfl) (by kernel_rfl) (fun _ _ _ h => h) (fun _ hS => ex_load1 (by kernel_rfl) (by kernel_rfl) (hS.cell 0 rfl 6 rfl)) fun a H => ?_
   refine An.p H (.inr HP) 26 41 (.pointer (some ⟨b_1, 7, none⟩)) fun a H => ?_
   refine An.val H (HP) 27 42 (.int .i64 u.regions) rfl (by kernel_rfl) (by kernel_rfl) (fun _ _ _ h => h) (fun _ hS => ex_load1 (by kernel_rfl) (by kernel_rfl) (hS.cell 0 rfl 7 rfl)) fun a H => ?_
   refine An.p H (.inr HP) 30 45 (.pointer (some ⟨b_1, 8, none⟩)) fun a H => ?_
   refine An.val H (HP) 31 46 (.int .i64 u.gain) rfl (by kernel_rfl) (by kernel_rfl) (fun _ _ _ h => h) (fun _ hS => ex_load1 (by kernel_rfl) (by kernel_rfl) (hS.cell 0 rfl 8 rfl)) fun a H => ?_
   refine An.p H (.inr HP) 34 49 (.pointer (some ⟨b_1, 9, none⟩)) fun a H => ?_
   refine An.val H (HP) 35 50 (.string (bstr u.caption)) rfl (by kernel_rfl) (by kernel_rfl) (fun _ _ _ h => h) (fun _ hS => ex_load1 (by kernel_rfl) (by kernel_rfl) (hS.cell 0 rfl 9 rfl)) fun a H => ?_
   refine An.p H (.inr HP) 38 53 (.string (bstr (encOpt u.os u.of u.al))) fun a H => ?_
   refine An.one 2 (by kernel_rfl) ?_
   refine Op.call H 17 rfl (by kernel_rfl) (Eq.trans (by kernel_rfl : _ = (callFunc 58 #[(.int .i64 u.channel)]).run Tryd.prog w_4) (Tryd.call58 _ _)) (rnumber_any u.channel w_4 (wf_le (by omega) (by omega)).1 (wf_le (by omega) (by omega)).2) ?_
   rintro e w_5 ⟨rfl, hb⟩
   refine ⟨_, rfl, ?_⟩
   intro a H
   have HP := HP.next hb
   refine ⟨.inr (HP), ?_⟩
   refine An.one 5 (by kernel_rfl) ?_
   refine Op.call H 20 rfl (by kernel_rfl) (Eq.trans (by kernel_rfl : _ = (callFunc 58 #[(.int .i64 u.frame)]).run Tryd.prog w_5) (Tryd.call58 _ _)) (rnumber_any u.frame w_5 (wf_le (by omega) (by omega)).1 (wf_le (by omega) (by omega)).2) ?_
   rintro e w_6 ⟨rfl, hb⟩
   refine ⟨_, rfl, ?_⟩
   intro a H
   have HP := HP.next hb
   refine ⟨.inr (HP), ?_⟩
   refine An.pure H (.inr (HP)) 6 21 (.string (bstr ((encInt u.channel) ++ (encInt u.frame)))) rfl (by kernel_rfl) (by kernel_rfl) (fun _ _ _ h => h) (fun _ => ex_sadd (by kernel_rfl) (by kernel_rfl) (by first | omega | (simp only [List.length_append]; omega))) fun a H => ?_
   refine An.one 9 (by kernel_rfl) ?_
   refine Op.call H 24 rfl (by kernel_rfl) (Eq.trans (by kernel_rfl : _ = (callFunc 58 #[(.int .i64 u.version)]).run Tryd.prog w_6) (Tryd.call58 _ _)) (rnumber_any u.version w_6 (wf_le (by omega) (by omega)).1 (wf_le (by omega) (by omega)).2) ?_
   rintro e w_7 ⟨rfl, hb⟩
   refine ⟨_, rfl, ?_⟩
   intro a H
   have HP := HP.next hb
   refine ⟨.inr (HP), ?_⟩
   refine An.pure H (.inr (HP)) 10 25 (.string (bstr (((encInt u.channel) ++ (encInt u.frame)) ++ (encInt u.version)))) rfl (by kernel_rfl) (by kernel_rfl) (fun _ _ _ h => h) (fun _ => ex_sadd (by kernel_rfl) (by kernel_rfl) (by first | omega | (simp only [List.length_append]; omega))) fun a H => ?_
   refine An.one 13 (by kernel_rfl) ?_
   refine Op.call H 28 rfl (by kernel_rfl) (Eq.trans (by kernel_rfl : _ = (callFunc 58 #[(.int .i64 u.item)]).run Tryd.prog w_7) (Tryd.call58 _ _)) (rnumber_any u.item w_7 (wf_le (by omega) (by omega)).1 (wf_le (by omega) (by omega)).2) ?_
   rintro e w_8 ⟨rfl, hb⟩
   refine ⟨_, rfl, ?_⟩
   intro a H
   have HP := HP.next hb
   refine ⟨.inr (HP), ?_⟩
   refine An.pure H (.inr (HP)) 14 29 (.string (bstr ((((encInt u.channel) ++ (encInt u.frame)) ++ (encInt u.version)) ++ (encInt u.item)))) rfl (by kernel_rfl) (by kernel_rfl) (fun _ _ _ h => h) (fun _ => ex_sadd (by kernel_rfl) (by kernel_rfl) (by first | omega | (simp only [List.length_append]; omega))) fun a H => ?_
   refine An.one 17 (by kernel_rfl) ?_
   refine Op.call H 32 rfl (by kernel_rfl) (Eq.trans (by kernel_rfl : _ = (callFunc 58 #[(.int .i64 u.index)]).run Tryd.prog w_8) (Tryd.call58 _ _)) (rnumber_any u.index w_8 (wf_le (by omega) (by omega)).1 (wf_le (by omega) (by omega)).2) ?_
   rintro e w_9 ⟨rfl, hb⟩
   refine ⟨_, rfl, ?_⟩
   intro a H
   have HP := HP.next hb
   refine ⟨.inr (HP), ?_⟩
   refine An.pure H (.inr (HP)) 18 33 (.string (bstr (((((encInt u.channel) ++ (encInt u.frame)) ++ (encInt u.version)) ++ (encInt u.item)) ++ (encInt u.index)))) rfl (by kernel_rfl) (by kernel_rfl) (fun _ _ _ h => h) (fun _ => ex_sadd (by kernel_rfl) (by kernel_rfl) (by first | omega | (simp only [List.length_append]; omega))) fun a H => ?_
   refine An.one 20 (by kernel_rfl) ?_
   refine Op.call H 35 rfl (by kernel_rfl) (Eq.trans (by kernel_rfl : _ = (callFunc 58 #[(.int .i64 1)]).run Tryd.prog w_9) (Tryd.call58 _ _)) (rnumber_any 1 w_9 (wf_le (by omega) (by omega)).1 (wf_le (by omega) (by omega)).2) ?_
   rintro e w_10 ⟨rfl, hb⟩
   refine ⟨_, rfl, ?_⟩
   intro a H
   have HP := HP.next hb
   refine ⟨.inr (HP), ?_⟩
   refine An.pure H (.inr (HP)) 21 36 (.string (bstr ((((((encInt u.channel) ++ (encInt u.frame)) ++ (encInt u.version)) ++ (encInt u.item)) ++ (encInt u.index)) ++ (encInt 1)))) rfl (by kernel_rfl) (by kernel_rfl) (fun _ _ _ h => h) (fun _ => ex_sadd (by kernel_rfl) (by kernel_rfl) (by first | omega | (simp only [List.length_append]; omega))) fun a H => ?_
   refine An.one 24 (by kernel_rfl) ?_
   refine Op.call H 39 rfl (by kernel_rfl) (Eq.trans (by kernel_rfl : _ = (callFunc 59 #[(.string (bstr u.data))]).run Tryd.prog w_10) (Tryd.call59 _ _)) (rtext_any u.data w_10 (by omega)) ?_
   rintro e w_11 ⟨rfl, hb⟩
   refine ⟨_, rfl, ?_⟩
   intro a H
   have HP := HP.next hb
   refine ⟨.inr (HP), ?_⟩
   refine An.pure H (.inr (HP)) 25 40 (.string (bstr (((((((encInt u.channel) ++ (encInt u.frame)) ++ (encInt u.version)) ++ (encInt u.item)) ++ (encInt u.index)) ++ (encInt 1)) ++ (encStr u.data)))) rfl (by kernel_rfl) (by kernel_rfl) (fun _ _ _ h => h) (fun _ => ex_sadd (by kernel_rfl) (by kernel_rfl) (by first | omega | (simp only [List.length_append]; omega))) fun a H => ?_
   refine An.one 28 (by kernel_rfl) ?_
   refine Op.call H 43 rfl (by kernel_rfl) (Eq.trans (by kernel_rfl : _ = (callFunc 58 #[(.int .i64 u.regions)]).run Tryd.prog w_11) (Tryd.call58 _ _)) (rnumber_any u.regions w_11 (wf_le (by omega) (by omega)).1 (wf_le (by omega) (by omega)).2) ?_
   rintro e w_12 ⟨rfl, hb⟩
   refine ⟨_, rfl, ?_⟩
   intro a H
   have HP := HP.next hb
   refine ⟨.inr (HP), ?_⟩
   refine An.pure H (.inr (HP)) 29 44 (.string (bstr ((((((((encInt u.channel) ++ (encInt u.frame)) ++ (encInt u.version)) ++ (encInt u.item)) ++ (encInt u.index)) ++ (encInt 1)) ++ (encStr u.data)) ++ (encInt u.regions)))) rfl (by kernel_rfl) (by kernel_rfl) (fun _ _ _ h => h) (fun _ => ex_sadd (by kernel_rfl) (by kernel_rfl) (by first | omega | (simp only [List.length_append]; omega))) fun a H => ?_
   refine An.one 32 (by kernel_rfl) ?_
   refine Op.call H 47 rfl (by kernel_rfl) (Eq.trans (by kernel_rfl : _ = (callFunc 58 #[(.int .i64 u.gain)]).run Tryd.prog w_12) (Tryd.call58 _ _)) (rnumber_any u.gain w_12 (wf_le (by omega) (by omega)).1 (wf_le (by omega) (by omega)).2) ?_
   rintro e w_13 ⟨rfl, hb⟩
   refine ⟨_, rfl, ?_⟩
   intro a H
   have HP := HP.next hb
   refine ⟨.inr (HP), ?_⟩
   refine An.pure H (.inr (HP)) 33 48 (.string (bstr (((((((((encInt u.channel) ++ (encInt u.frame)) ++ (encInt u.version)) ++ (encInt u.item)) ++ (encInt u.index)) ++ (encInt 1)) ++ (encStr u.data)) ++ (encInt u.regions)) ++ (encInt u.gain)))) rfl (by kernel_rfl) (by kernel_rfl) (fun _ _ _ h => h) (fun _ => ex_sadd (by kernel_rfl) (by kernel_rfl) (by first | omega | (simp only [List.length_append]; omega))) fun a H => ?_
   refine An.one 36 (by kernel_rfl) ?_
   refine Op.call H 51 rfl (by kernel_rfl) (Eq.trans (by kernel_rfl : _ = (callFunc 59 #[(.string (bstr u.caption))]).run Tryd.prog w_13) (Tryd.call59 _ _)) (rtext_any u.caption w_13 (by omega)) ?_
   rintro e w_14 ⟨rfl, hb⟩
   refine ⟨_, rfl, ?_⟩
   intro a H
   have HP := HP.next hb
   refine ⟨.inr (HP), ?_⟩
   refine An.pure H (.inr (HP)) 37 52 (.string (bstr ((((((((((encInt u.channel) ++ (encInt u.frame)) ++ (encInt u.version)) ++ (encInt u.item)) ++ (encInt u.index)) ++ (encInt 1)) ++ (encStr u.data)) ++ (encInt u.regions)) ++ (encInt u.gain)) ++ (encStr u.caption)))) rfl (by kernel_rfl) (by kernel_rfl) (fun _ _ _ h => h) (fun _ => ex_sadd (by kernel_rfl) (by kernel_rfl) (by first | omega | (simp only [List.length_append]; omega))) fun a H => ?_
   refine An.one 39 (by kernel_rfl) ?_
   refine Op.call H 54 rfl (by kernel_rfl) (Eq.trans (by kernel_rfl : _ = (callFunc 59 #[(.string (bstr (encOpt u.os u.of u.al)))]).run Tryd.prog w_14) (Tryd.call59 _ _)) (rtext_any (encOpt u.os u.of u.al) w_14 (by omega)) ?_
   rintro e w_15 ⟨rfl, hb⟩
   refine ⟨_, rfl, ?_⟩
   intro a H
   have HP := HP.next hb
   refine ⟨.inr (HP), ?_⟩
   refine An.pure H (.inr (HP)) 40 55 (.string (bstr (((((((((((encInt u.channel) ++ (encInt u.frame)) ++ (encInt u.version)) ++ (encInt u.item)) ++ (encInt u.index)) ++ (encInt 1)) ++ (encStr u.data)) ++ (encInt u.regions)) ++ (encInt u.gain)) ++ (encStr u.caption)) ++ (encStr (encOpt u.os u.of u.al))))) rfl (by kernel_rfl) (by kernel_rfl) (fun _ _ _ h => h) (fun _ => ex_sadd (by kernel_rfl) (by kernel_rfl) (by first | omega | (simp only [List.length_append]; omega))) fun a H => ?_
   refine An.p H (.inr HP) 41 6 (.string (bstr (((((((((((encInt u.channel) ++ (encInt u.frame)) ++ (encInt u.version)) ++ (encInt u.item)) ++ (encInt u.index)) ++ (encInt 1)) ++ (encStr u.data)) ++ (encInt u.regions)) ++ (encInt u.gain)) ++ (encStr u.caption)) ++ (encStr (encOpt u.os u.of u.al))))) fun a H => ?_
   refine An.done (by kernel_rfl) ?_
   have H := H.keep (L' := [(6, (.string (bstr (((((((((((encInt u.channel) ++ (encInt u.frame)) ++ (encInt u.version)) ++ (encInt u.item)) ++ (encInt u.index)) ++ (encInt 1)) ++ (encStr u.data)) ++ (encInt u.regions)) ++ (encInt u.gain)) ++ (encStr u.caption)) ++ (encStr (encOpt u.os u.of u.al)))))), (5, (.int .i64 0)), (4, (.string (bstr (encOpt u.os u.of u.al)))), (14, (.int .i64 0)), (13, (.string (bstr (encOpt u.os u.of u.al)))), (9, (.tuple #[(.string (bstr (encOpt u.os u.of u.al))), (.int .i64 0)])), (12, (.tuple #[(.string (bstr (encOpt u.os u.of u.al))), (.int .i64 0)])), (11, (.agg #[(.int .i64 u.os), (.int .i64 u.of), (.slice u.A u.al.length u.c)])), (10, (.pointer (some ⟨b_1, 10, none⟩))), (3, (.int .i64 1)), (8, (.bool u.key)), (7, (.pointer (some ⟨b_1, 5, none⟩))), (2, (.string (bstr ([])))), (1, (.pointer (some ⟨b_1, 0, none⟩))), (0, (.agg (ua u u.A u.c)))]) (by kernel_rfl)
   refine then_normal ?_
   have H := H.as 6 (.string (bstr (contentP u))) rfl (congrArg (fun x => Value.string (bstr x)) (by simp only [contentP, encInts, List.flatMap_cons, List.flatMap_nil, List.append_nil, List.append_assoc, if_pos g8]))
   exact ⟨H.keep (by kernel_rfl), HP⟩
  ·
   rintro a w_16 ⟨H, HP⟩
   refine wp_seq (w_region ?_)
   refine H.v 56 (.string (bstr (contentP u))) fun a H => ?_
   refine H.v 57 (.string (bstr (contentP u))) fun a H => ?_
   refine H.call 58 (by kernel_rfl) (Eq.trans (by kernel_rfl : _ = (callFunc 60 #[(.string (bstr (contentP u)))]).run Tryd.prog w_16) (Tryd.call60 _ _)) (rsum_any (contentP u) w_16 (by omega)) ?_
   rintro e w_17 ⟨rfl, hb⟩
   refine ⟨_, rfl, ?_⟩
   intro a H
   have HP := HP.next hb
   refine H.call 59 (by kernel_rfl) (Eq.trans (by kernel_rfl : _ = (callFunc 58 #[(.int .i64 ((sumP (contentP u) : Nat) : Int))]).run Tryd.prog w_17) (Tryd.call58 _ _)) (rnumber_any ((sumP (contentP u) : Nat) : Int) w_17 (wf_le (by omega) (by omega)).1 (wf_le (by omega) (by omega)).2) ?_
   rintro e w_18 ⟨rfl, hb⟩
   refine ⟨_, rfl, ?_⟩
   intro a H
   have HP := HP.next hb
   refine H.u 60 (.string (bstr ((contentP u) ++ (encInt ((sumP (contentP u) : Nat) : Int))))) (ex_sadd (by kernel_rfl) (by kernel_rfl) (by first | omega | (simp only [List.length_append]; omega))) fun a H => ?_
   refine H.v 2 (.string (bstr ((contentP u) ++ (encInt ((sumP (contentP u) : Nat) : Int))))) fun a H => ?_
   refine wpList_nil (then_normal (wp_ret ?_))
   refine H.ret1 (fn := Tryd.f35) Tryd.results35 (RV.tmp_ (v := (.string (bstr ((contentP u) ++ (encInt ((sumP (contentP u) : Nat) : Int)))))) (by kernel_rfl)) ?_
   exact ⟨rfl, (HP.below (by kernel_rfl))⟩
 ·have g8p := g8
  refine wp_skip (then_normal (wp_seq (w_region ?_)))
  refine H.v 10 (.pointer (some ⟨b_1, 10, none⟩)) fun a H => ?_
  refine H.u 11 (.agg #[(.int .i64 u.os), (.int .i64 u.of), (.slice u.A u.al.length u.c)]) (ex_loadN (vs := [(.int .i64 u.os), (.int .i64 u.of), (.slice u.A u.al.length u.c)]) (by kernel_rfl) (by kernel_rfl) (by kernel_rfl) rfl (HP.cells 0 rfl 10 3 (by kernel_rfl))) fun a H => ?_
  refine H.call 12 (by kernel_rfl) (Eq.trans (by kernel_rfl : _ = (callFunc 57 #[(.agg #[(.int .i64 u.os), (.int .i64 u.of), (.slice u.A u.al.length u.c)])]).run Tryd.prog w_2) (Tryd.call57 _ _)) (rencode_any u.os u.of u.A u.c u.al w_2 (hu.below (HP.below (by kernel_rfl))) ho hcap) ?_
  rintro e w_19 ⟨rfl, hb⟩
  refine ⟨_, rfl, ?_⟩
  intro a H
  have HP := HP.next hb
  refine H.v 9 (.tuple #[(.string (bstr (encOpt u.os u.of u.al))), (.int .i64 0)]) fun a H => ?_
  refine H.v 13 (.string (bstr (encOpt u.os u.of u.al))) fun a H => ?_
  refine H.v 14 (.int .i64 0) fun a H => ?_
  refine H.v 4 (.string (bstr (encOpt u.os u.of u.al))) fun a H => ?_
  refine H.v 5 (.int .i64 0) fun a H => ?_
  refine wpList_nil (then_normal ?_)
  refine w_cut (fun a wv => Sl 61 [(6, (.string (bstr (contentP u))))] a ∧ Hp w wv [bx b_1 28 (ul u u.A u.c) true] []) ?_ ?_
  ·
   refine An.start (fun v => Hp w v [bx b_1 28 (ul u u.A u.c) true] []) 42 42 HP wide_follows rfl fun w_20 HP => ?_
   refine An.p H (.inr HP) 0 15 (.pointer (some ⟨b_1, 0, none⟩)) fun a H => ?_
   refine An.val H (HP) 1 16 (.int .i64 u.channel) rfl (by kernel_rfl) (by kernel_rfl) (fun _ _ _ h => h) (fun _ hS => ex_load1 (by kernel_rfl) (by kernel_rfl) (hS.cell 0 rfl 0 rfl)) fun a H => ?_
   refine An.p H (.inr HP) 3 18 (.pointer (some ⟨b_1, 1, none⟩)) fun a H => ?_
   refine An.val H (HP) 4 19 (.int .i64 u.frame) rfl (by kernel_rfl) (by kernel_rfl) (fun _ _ _ h => h) (fun _ hS => ex_load1 (by kernel_rfl) (by kernel_rfl) (hS.cell 0 rfl 1 rfl)) fun a H => ?_
   refine An.p H (.inr HP) 7 22 (.pointer (some ⟨b_1, 2, none⟩)) fun a H => ?_
   refine An.val H (HP) 8 23 (.int .i64 u.version) rfl (by kernel_rfl) (by kernel_rfl) (fun _ _ _ h => h) (fun _ hS => ex_load1 (by kernel_rfl) (by kernel_rfl) (hS.cell 0 rfl 2 rfl)) fun a H => ?_
   refine An.p H (.inr HP) 11 26 (.pointer (some ⟨b_1, 3, none⟩)) fun a H => ?_
   refine An.val H (HP) 12 27 (.int .i64 u.item) rfl (by kernel_rfl) (by kernel_rfl) (fun _ _ _ h => h) (fun _ hS => ex_load1 (by kernel_rfl) (by kernel_rfl) (hS.cell 0 rfl 3 rfl)) fun a H => ?_
   refine An.p H (.inr HP) 15 30 (.pointer (some ⟨b_1, 4, none⟩)) fun a H => ?_
   refine An.val H (HP) 16 31 (.int .i64 u.index) rfl (by kernel_rfl) (by kernel_rfl) (fun _ _ _ h => h) (fun _ hS => ex_load1 (by kernel_rfl) (by kernel_rfl) (hS.cell 0 rfl 4 rfl)) fun a H => ?_
   refine An.p H (.inr HP) 19 34 (.int .i64 0) fun a H => ?_
   refine An.p H (.inr HP) 22 37 (.pointer (some ⟨b_1, 6, none⟩)) fun a H => ?_
   refine An.val H (HP) 23 38 (.string (bstr u.data)) rfl (by kernel_rfl) (by kernel_rfl) (fun _ _ _ h => h) (fun _ hS => ex_load1 (by kernel_rfl) (by kernel_rfl) (hS.cell 0 rfl 6 rfl)) fun a H => ?_
   refine An.p H (.inr HP) 26 41 (.pointer (some ⟨b_1, 7, none⟩)) fun a H => ?_
   refine An.val H (HP) 27 42 (.int .i64 u.regions) rfl (by kernel_rfl) (by kernel_rfl) (fun _ _ _ h => h) (fun _ hS => ex_load1 (by kernel_rfl) (by kernel_rfl) (hS.cell 0 rfl 7 rfl)) fun a H => ?_
   refine An.p H (.inr HP) 30 45 (.pointer (some ⟨b_1, 8, none⟩)) fun a H => ?_
   refine An.val H (HP) 31 46 (.int .i64 u.gain) rfl (by kernel_rfl) (by kernel_rfl) (fun _ _ _ h => h) (fun _ hS => ex_load1 (by kernel_rfl) (by kernel_rfl) (hS.cell 0 rfl 8 rfl)) fun a H => ?_
   refine An.p H (.inr HP) 34 49 (.pointer (some ⟨b_1, 9, none⟩)) fun a H => ?_
   refine An.val H (HP) 35 50 (.string (bstr u.caption)) rfl (by kernel_rfl) (by kernel_rfl) (fun _ _ _ h => h) (fun _ hS => ex_load1 (by kernel_rfl) (by kernel_rfl) (hS.cell 0 rfl 9 rfl)) fun a H => ?_
   refine An.p H (.inr HP) 38 53 (.string (bstr (encOpt u.os u.of u.al))) fun a H => ?_
   refine An.one 2 (by kernel_rfl) ?_
   refine Op.call H 17 rfl (by kernel_rfl) (Eq.trans (by kernel_rfl : _ = (callFunc 58 #[(.int .i64 u.channel)]).run Tryd.prog w_20) (Tryd.call58 _ _)) (rnumber_any u.channel w_20 (wf_le (by omega) (by omega)).1 (wf_le (by omega) (by omega)).2) ?_
   rintro e w_21 ⟨rfl, hb⟩
   refine ⟨_, rfl, ?_⟩
   intro a H
   have HP := HP.next hb
   refine ⟨.inr (HP), ?_⟩
   refine An.one 5 (by kernel_rfl) ?_
   refine Op.call H 20 rfl (by kernel_rfl) (Eq.trans (by kernel_rfl : _ = (callFunc 58 #[(.int .i64 u.frame)]).run Tryd.prog w_21) (Tryd.call58 _ _)) (rnumber_any u.frame w_21 (wf_le (by omega) (by omega)).1 (wf_le (by omega) (by omega)).2) ?_
   rintro e w_22 ⟨rfl, hb⟩
   refine ⟨_, rfl, ?_⟩
   intro a H
   have HP := HP.next hb
   refine ⟨.inr (HP), ?_⟩
   refine An.pure H (.inr (HP)) 6 21 (.string (bstr ((encInt u.channel) ++ (encInt u.frame)))) rfl (by kernel_rfl) (by kernel_rfl) (fun _ _ _ h => h) (fun _ => ex_sadd (by kernel_rfl) (by kernel_rfl) (by first | omega | (simp only [List.length_append]; omega))) fun a H => ?_
   refine An.one 9 (by kernel_rfl) ?_
   refine Op.call H 24 rfl (by kernel_rfl) (Eq.trans (by kernel_rfl : _ = (callFunc 58 #[(.int .i64 u.version)]).run Tryd.prog w_22) (Tryd.call58 _ _)) (rnumber_any u.version w_22 (wf_le (by omega) (by omega)).1 (wf_le (by omega) (by omega)).2) ?_
   rintro e w_23 ⟨rfl, hb⟩
   refine ⟨_, rfl, ?_⟩
   intro a H
   have HP := HP.next hb
   refine ⟨.inr (HP), ?_⟩
   refine An.pure H (.inr (HP)) 10 25 (.string (bstr (((encInt u.channel) ++ (encInt u.frame)) ++ (encInt u.version)))) rfl (by kernel_rfl) (by kernel_rfl) (fun _ _ _ h => h) (fun _ => ex_sadd (by kernel_rfl) (by kernel_rfl) (by first | omega | (simp only [List.length_append]; omega))) fun a H => ?_
   refine An.one 13 (by kernel_rfl) ?_
   refine Op.call H 28 rfl (by kernel_rfl) (Eq.trans (by kernel_rfl : _ = (callFunc 58 #[(.int .i64 u.item)]).run Tryd.prog w_23) (Tryd.call58 _ _)) (rnumber_any u.item w_23 (wf_le (by omega) (by omega)).1 (wf_le (by omega) (by omega)).2) ?_
   rintro e w_24 ⟨rfl, hb⟩
   refine ⟨_, rfl, ?_⟩
   intro a H
   have HP := HP.next hb
   refine ⟨.inr (HP), ?_⟩
   refine An.pure H (.inr (HP)) 14 29 (.string (bstr ((((encInt u.channel) ++ (encInt u.frame)) ++ (encInt u.version)) ++ (encInt u.item)))) rfl (by kernel_rfl) (by kernel_rfl) (fun _ _ _ h => h) (fun _ => ex_sadd (by kernel_rfl) (by kernel_rfl) (by first | omega | (simp only [List.length_append]; omega))) fun a H => ?_
   refine An.one 17 (by kernel_rfl) ?_
   refine Op.call H 32 rfl (by kernel_rfl) (Eq.trans (by kernel_rfl : _ = (callFunc 58 #[(.int .i64 u.index)]).run Tryd.prog w_24) (Tryd.call58 _ _)) (rnumber_any u.index w_24 (wf_le (by omega) (by omega)).1 (wf_le (by omega) (by omega)).2) ?_
   rintro e w_25 ⟨rfl, hb⟩
   refine ⟨_, rfl, ?_⟩
   intro a H
   have HP := HP.next hb
   refine ⟨.inr (HP), ?_⟩
   refine An.pure H (.inr (HP)) 18 33 (.string (bstr (((((encInt u.channel) ++ (encInt u.frame)) ++ (encInt u.version)) ++ (encInt u.item)) ++ (encInt u.index)))) rfl (by kernel_rfl) (by kernel_rfl) (fun _ _ _ h => h) (fun _ => ex_sadd (by kernel_rfl) (by kernel_rfl) (by first | omega | (simp only [List.length_append]; omega))) fun a H => ?_
   refine An.one 20 (by kernel_rfl) ?_
   refine Op.call H 35 rfl (by kernel_rfl) (Eq.trans (by kernel_rfl : _ = (callFunc 58 #[(.int .i64 0)]).run Tryd.prog w_25) (Tryd.call58 _ _)) (rnumber_any 0 w_25 (wf_le (by omega) (by omega)).1 (wf_le (by omega) (by omega)).2) ?_
   rintro e w_26 ⟨rfl, hb⟩
   refine ⟨_, rfl, ?_⟩
   intro a H
   have HP := HP.next hb
   refine ⟨.inr (HP), ?_⟩
   refine An.pure H (.inr (HP)) 21 36 (.string (bstr ((((((encInt u.channel) ++ (encInt u.frame)) ++ (encInt u.version)) ++ (encInt u.item)) ++ (encInt u.index)) ++ (encInt 0)))) rfl (by kernel_rfl) (by kernel_rfl) (fun _ _ _ h => h) (fun _ => ex_sadd (by kernel_rfl) (by kernel_rfl) (by first | omega | (simp only [List.length_append]; omega))) fun a H => ?_
   refine An.one 24 (by kernel_rfl) ?_
   refine Op.call H 39 rfl (by kernel_rfl) (Eq.trans (by kernel_rfl : _ = (callFunc 59 #[(.string (bstr u.data))]).run Tryd.prog w_26) (Tryd.call59 _ _)) (rtext_any u.data w_26 (by omega)) ?_
   rintro e w_27 ⟨rfl, hb⟩
   refine ⟨_, rfl, ?_⟩
   intro a H
   have HP := HP.next hb
   refine ⟨.inr (HP), ?_⟩
   refine An.pure H (.inr (HP)) 25 40 (.string (bstr (((((((encInt u.channel) ++ (encInt u.frame)) ++ (encInt u.version)) ++ (encInt u.item)) ++ (encInt u.index)) ++ (encInt 0)) ++ (encStr u.data)))) rfl (by kernel_rfl) (by kernel_rfl) (fun _ _ _ h => h) (fun _ => ex_sadd (by kernel_rfl) (by kernel_rfl) (by first | omega | (simp only [List.length_append]; omega))) fun a H => ?_
   refine An.one 28 (by kernel_rfl) ?_
   refine Op.call H 43 rfl (by kernel_rfl) (Eq.trans (by kernel_rfl : _ = (callFunc 58 #[(.int .i64 u.regions)]).run Tryd.prog w_27) (Tryd.call58 _ _)) (rnumber_any u.regions w_27 (wf_le (by omega) (by omega)).1 (wf_le (by omega) (by omega)).2) ?_
   rintro e w_28 ⟨rfl, hb⟩
   refine ⟨_, rfl, ?_⟩
   intro a H
   have HP := HP.next hb
   refine ⟨.inr (HP), ?_⟩
   refine An.pure H (.inr (HP)) 29 44 (.string (bstr ((((((((encInt u.channel) ++ (encInt u.frame)) ++ (encInt u.version)) ++ (encInt u.item)) ++ (encInt u.index)) ++ (encInt 0)) ++ (encStr u.data)) ++ (encInt u.regions)))) rfl (by kernel_rfl) (by kernel_rfl) (fun _ _ _ h => h) (fun _ => ex_sadd (by kernel_rfl) (by kernel_rfl) (by first | omega | (simp only [List.length_append]; omega))) fun a H => ?_
   refine An.one 32 (by kernel_rfl) ?_
   refine Op.call H 47 rfl (by kernel_rfl) (Eq.trans (by kernel_rfl : _ = (callFunc 58 #[(.int .i64 u.gain)]).run Tryd.prog w_28) (Tryd.call58 _ _)) (rnumber_any u.gain w_28 (wf_le (by omega) (by omega)).1 (wf_le (by omega) (by omega)).2) ?_
   rintro e w_29 ⟨rfl, hb⟩
   refine ⟨_, rfl, ?_⟩
   intro a H
   have HP := HP.next hb
   refine ⟨.inr (HP), ?_⟩
   refine An.pure H (.inr (HP)) 33 48 (.string (bstr (((((((((encInt u.channel) ++ (encInt u.frame)) ++ (encInt u.version)) ++ (encInt u.item)) ++ (encInt u.index)) ++ (encInt 0)) ++ (encStr u.data)) ++ (encInt u.regions)) ++ (encInt u.gain)))) rfl (by kernel_rfl) (by kernel_rfl) (fun _ _ _ h => h) (fun _ => ex_sadd (by kernel_rfl) (by kernel_rfl) (by first | omega | (simp only [List.length_append]; omega))) fun a H => ?_
   refine An.one 36 (by kernel_rfl) ?_
   refine Op.call H 51 rfl (by kernel_rfl) (Eq.trans (by kernel_rfl : _ = (callFunc 59 #[(.string (bstr u.caption))]).run Tryd.prog w_29) (Tryd.call59 _ _)) (rtext_any u.caption w_29 (by omega)) ?_
   rintro e w_30 ⟨rfl, hb⟩
   refine ⟨_, rfl, ?_⟩
   intro a H
   have HP := HP.next hb
   refine ⟨.inr (HP), ?_⟩
   refine An.pure H (.inr (HP)) 37 52 (.string (bstr ((((((((((encInt u.channel) ++ (encInt u.frame)) ++ (encInt u.version)) ++ (encInt u.item)) ++ (encInt u.index)) ++ (encInt 0)) ++ (encStr u.data)) ++ (encInt u.regions)) ++ (encInt u.gain)) ++ (encStr u.caption)))) rfl (by kernel_rfl) (by kernel_rfl) (fun _ _ _ h => h) (fun _ => ex_sadd (by kernel_rfl) (by kernel_rfl) (by first | omega | (simp only [List.length_append]; omega))) fun a H => ?_
   refine An.one 39 (by kernel_rfl) ?_
   refine Op.call H 54 rfl (by kernel_rfl) (Eq.trans (by kernel_rfl : _ = (callFunc 59 #[(.string (bstr (encOpt u.os u.of u.al)))]).run Tryd.prog w_30) (Tryd.call59 _ _)) (rtext_any (encOpt u.os u.of u.al) w_30 (by omega)) ?_
   rintro e w_31 ⟨rfl, hb⟩
   refine ⟨_, rfl, ?_⟩
   intro a H
   have HP := HP.next hb
   refine ⟨.inr (HP), ?_⟩
   refine An.pure H (.inr (HP)) 40 55 (.string (bstr (((((((((((encInt u.channel) ++ (encInt u.frame)) ++ (encInt u.version)) ++ (encInt u.item)) ++ (encInt u.index)) ++ (encInt 0)) ++ (encStr u.data)) ++ (encInt u.regions)) ++ (encInt u.gain)) ++ (encStr u.caption)) ++ (encStr (encOpt u.os u.of u.al))))) rfl (by kernel_rfl) (by kernel_rfl) (fun _ _ _ h => h) (fun _ => ex_sadd (by kernel_rfl) (by kernel_rfl) (by first | omega | (simp only [List.length_append]; omega))) fun a H => ?_
   refine An.p H (.inr HP) 41 6 (.string (bstr (((((((((((encInt u.channel) ++ (encInt u.frame)) ++ (encInt u.version)) ++ (encInt u.item)) ++ (encInt u.index)) ++ (encInt 0)) ++ (encStr u.data)) ++ (encInt u.regions)) ++ (encInt u.gain)) ++ (encStr u.caption)) ++ (encStr (encOpt u.os u.of u.al))))) fun a H => ?_
   refine An.done (by kernel_rfl) ?_
   have H := H.keep (L' := [(6, (.string (bstr (((((((((((encInt u.channel) ++ (encInt u.frame)) ++ (encInt u.version)) ++ (encInt u.item)) ++ (encInt u.index)) ++ (encInt 0)) ++ (encStr u.data)) ++ (encInt u.regions)) ++ (encInt u.gain)) ++ (encStr u.caption)) ++ (encStr (encOpt u.os u.of u.al)))))), (5, (.int .i64 0)), (4, (.string (bstr (encOpt u.os u.of u.al)))), (14, (.int .i64 0)), (13, (.string (bstr (encOpt u.os u.of u.al)))), (9, (.tuple #[(.string (bstr (encOpt u.os u.of u.al))), (.int .i64 0)])), (12, (.tuple #[(.string (bstr (encOpt u.os u.of u.al))), (.int .i64 0)])), (11, (.agg #[(.int .i64 u.os), (.int .i64 u.of), (.slice u.A u.al.length u.c)])), (10, (.pointer (some ⟨b_1, 10, none⟩))), (8, (.bool u.key)), (7, (.pointer (some ⟨b_1, 5, none⟩))), (3, (.int .i64 0)), (2, (.string (bstr ([])))), (1, (.pointer (some ⟨b_1, 0, none⟩))), (0, (.agg (ua u u.A u.c)))]) (by kernel_rfl)
   refine then_normal ?_
   have H := H.as 6 (.string (bstr (contentP u))) rfl (congrArg (fun x => Value.string (bstr x)) (by simp only [contentP, encInts, List.flatMap_cons, List.flatMap_nil, List.append_nil, List.append_assoc, if_neg (show ¬ u.key = true by rw [g8]; decide)]))
   exact ⟨H.keep (by kernel_rfl), HP⟩
  ·
   rintro a w_32 ⟨H, HP⟩
   refine wp_seq (w_region ?_)
   refine H.v 56 (.string (bstr (contentP u))) fun a H => ?_
   refine H.v 57 (.string (bstr (contentP u))) fun a H => ?_
   refine H.call 58 (by kernel_rfl) (Eq.trans (by kernel_rfl : _ = (callFunc 60 #[(.string (bstr (contentP u)))]).run Tryd.prog w_32) (Tryd.call60 _ _)) (rsum_any (contentP u) w_32 (by omega)) ?_
   rintro e w_33 ⟨rfl, hb⟩
   refine ⟨_, rfl, ?_⟩
   intro a H
   have HP := HP.next hb
   refine H.call 59 (by kernel_rfl) (Eq.trans (by kernel_rfl : _ = (callFunc 58 #[(.int .i64 ((sumP (contentP u) : Nat) : Int))]).run Tryd.prog w_33) (Tryd.call58 _ _)) (rnumber_any ((sumP (contentP u) : Nat) : Int) w_33 (wf_le (by omega) (by omega)).1 (wf_le (by omega) (by omega)).2) ?_
   rintro e w_34 ⟨rfl, hb⟩
   refine ⟨_, rfl, ?_⟩
   intro a H
   have HP := HP.next hb
   refine H.u 60 (.string (bstr ((contentP u) ++ (encInt ((sumP (contentP u) : Nat) : Int))))) (ex_sadd (by kernel_rfl) (by kernel_rfl) (by first | omega | (simp only [List.length_append]; omega))) fun a H => ?_
   refine H.v 2 (.string (bstr ((contentP u) ++ (encInt ((sumP (contentP u) : Nat) : Int))))) fun a H => ?_
   refine wpList_nil (then_normal (wp_ret ?_))
   refine H.ret1 (fn := Tryd.f35) Tryd.results35 (RV.tmp_ (v := (.string (bstr ((contentP u) ++ (encInt ((sumP (contentP u) : Nat) : Int)))))) (by kernel_rfl)) ?_
   exact ⟨rfl, (HP.below (by kernel_rfl))⟩
set_option maxRecDepth 100000 in
set_option maxHeartbeats 4000000 in
theorem rpack_rate (rn rd : Int) (u : Un) (w : World) (hu : IsAlts w u.A u.al.length u.al) (hcap : u.al.length ≤ u.c) (hmax : u.c ≤ maxLen) (hr : rateOk rn rd = false) :
  Calls Tryd.prog 17 #[.agg #[.int .i64 rn, .int .i64 rd], u.val] w fun e w' => e = .returned (packV (packP rn rd u)) ∧ Below w.heap.size w w' := by
 have HP := Hp.start w
 refine w_enter 94 [(0, (.agg #[(.int .i64 rn), (.int .i64 rd)])), (1, (.agg (ua u u.A u.c)))] Tryd.func17 rfl Tryd.ntmps17 (by kernel_rfl) (by kernel_rfl) fun a H => ?_
 refine wp_seq (w_region ?_)
 refine H.alloc HP 2 (fun b => (.pointer (some ⟨b, 0, none⟩))) 23 [(.int .i64 rn), (.int .i64 rd)] (by kernel_rfl) (fun w => by kernel_rfl) fun b_1 w_2 a H HP => ?_
 refine H.alloc HP 3 (fun b => (.pointer (some ⟨b, 0, none⟩))) 28 (ul u u.A u.c) (by kernel_rfl) (fun w => by kernel_rfl) fun b_3 w_4 a H HP => ?_
 refine H.v 4 (.string (bstr ([]))) fun a H => ?_
 refine H.v 5 (.int .i64 0) fun a H => ?_
 refine wpList_nil (then_normal (wp_seq (wp_seq (w_region ?_))))
 refine H.u 14 (.agg #[(.int .i64 rn), (.int .i64 rd)]) (ex_loadN (vs := [(.int .i64 rn), (.int .i64 rd)]) (by kernel_rfl) (by kernel_rfl) (by kernel_rfl) rfl (HP.cells 1 rfl 0 2 (by kernel_rfl))) fun a H => ?_
 refine H.call 15 (by kernel_rfl) (Eq.trans (by kernel_rfl : _ = (callFunc 33 #[(.agg #[(.int .i64 rn), (.int .i64 rd)])]).run Tryd.prog w_4) (Tryd.call33 _ _)) ((by have hh := rvalid3_any rn rd w_4; rw [hr] at hh; exact hh)) ?_
 rintro e w_5 ⟨rfl, hb⟩
 refine ⟨_, rfl, ?_⟩
 intro a H
 have HP := HP.next hb
 refine H.v 16 (.bool true) fun a H => ?_
 refine H.v 17 (.bool true) fun a H => ?_
 refine H.s 18 fun a H => ?_
 refine H.s 19 fun a H => ?_
 refine H.s 20 fun a H => ?_
 refine H.v 21 (.bool true) fun a H => ?_
 refine wpList_nil (then_normal ?_)
 refine w_ift H rfl ?_
 refine wp_seq (w_region ?_)
 refine H.v 4 (.string (bstr ([]))) fun a H => ?_
 refine H.v 5 (.int .i64 180) fun a H => ?_
 refine wpList_nil (then_normal (wp_ret (then_ret ?_)))
 refine H.ret2 (fn := Tryd.f17) Tryd.results17 (RV.tmp_ (v := (.string (bstr ([])))) (by kernel_rfl)) (RV.tmp_ (v := (.int .i64 180)) (by kernel_rfl)) ?_
 exact ⟨by unfold packP; rw [if_neg (by simp [hr])]; rfl, (HP.below (by kernel_rfl))⟩
set_option maxRecDepth 100000 in
set_option maxHeartbeats 4000000 in
theorem rpack_val (rn rd : Int) (u : Un) (w : World) (hu : IsAlts w u.A u.al.length u.al) (hcap : u.al.length ≤ u.c) (hmax : u.c ≤ maxLen) (hr : rateOk rn rd = true) (hv : validU u = false) :
  Calls Tryd.prog 17 #[.agg #[.int .i64 rn, .int .i64 rd], u.val] w fun e w' => e = .returned (packV (packP rn rd u)) ∧ Below w.heap.size w w' := by
 have HP := Hp.start w
 refine w_enter 94 [(0, (.agg #[(.int .i64 rn), (.int .i64 rd)])), (1, (.agg (ua u u.A u.c)))] Tryd.func17 rfl Tryd.ntmps17 (by kernel_rfl) (by kernel_rfl) fun a H => ?_
 refine wp_seq (w_region ?_)
 refine H.alloc HP 2 (fun b => (.pointer (some ⟨b, 0, none⟩))) 23 [(.int .i64 rn), (.int .i64 rd)] (by kernel_rfl) (fun w => by kernel_rfl) fun b_1 w_2 a H HP => ?_
 refine H.alloc HP 3 (fun b => (.pointer (some ⟨b, 0, none⟩))) 28 (ul u u.A u.c) (by kernel_rfl) (fun w => by kernel_rfl) fun b_3 w_4 a H HP => ?_
 refine H.v 4 (.string (bstr ([]))) fun a H => ?_
 refine H.v 5 (.int .i64 0) fun a H => ?_
 refine wpList_nil (then_normal (wp_seq (wp_seq (w_region ?_))))
 refine H.u 14 (.agg #[(.int .i64 rn), (.int .i64 rd)]) (ex_loadN (vs := [(.int .i64 rn), (.int .i64 rd)]) (by kernel_rfl) (by kernel_rfl) (by kernel_rfl) rfl (HP.cells 1 rfl 0 2 (by kernel_rfl))) fun a H => ?_
 refine H.call 15 (by kernel_rfl) (Eq.trans (by kernel_rfl : _ = (callFunc 33 #[(.agg #[(.int .i64 rn), (.int .i64 rd)])]).run Tryd.prog w_4) (Tryd.call33 _ _)) ((by have hh := rvalid3_any rn rd w_4; rw [hr] at hh; exact hh)) ?_
 rintro e w_5 ⟨rfl, hb⟩
 refine ⟨_, rfl, ?_⟩
 intro a H
 have HP := HP.next hb
 refine H.v 16 (.bool false) fun a H => ?_
 refine H.v 17 (.bool false) fun a H => ?_
 refine H.u 18 (.agg (ua u u.A u.c)) (ex_loadN (vs := (ul u u.A u.c)) (by kernel_rfl) (by kernel_rfl) (by kernel_rfl) rfl (HP.cells 0 rfl 0 13 (by kernel_rfl))) fun a H => ?_
 refine H.call 19 (by kernel_rfl) (Eq.trans (by kernel_rfl : _ = (callFunc 19 #[(.agg (ua u u.A u.c))]).run Tryd.prog w_5) (Tryd.call19 _ _)) ((by have hh := ruvalid_any u w_5 (hu.below (HP.below (by kernel_rfl))) (Nat.le_trans hcap hmax); rw [hv] at hh; exact hh)) ?_
 rintro e w_6 ⟨rfl, hb⟩
 refine ⟨_, rfl, ?_⟩
 intro a H
 have HP := HP.next hb
 refine H.v 20 (.bool true) fun a H => ?_
 refine H.v 21 (.bool true) fun a H => ?_
 refine wpList_nil (then_normal ?_)
 refine w_ift H rfl ?_
 refine wp_seq (w_region ?_)
 refine H.v 4 (.string (bstr ([]))) fun a H => ?_
 refine H.v 5 (.int .i64 180) fun a H => ?_
 refine wpList_nil (then_normal (wp_ret (then_ret ?_)))
 refine H.ret2 (fn := Tryd.f17) Tryd.results17 (RV.tmp_ (v := (.string (bstr ([])))) (by kernel_rfl)) (RV.tmp_ (v := (.int .i64 180)) (by kernel_rfl)) ?_
 exact ⟨by unfold packP; rw [if_neg (by simp [hv])]; rfl, (HP.below (by kernel_rfl))⟩
set_option maxRecDepth 100000 in
set_option maxHeartbeats 4000000 in
theorem rpack_ok (rn rd : Int) (u : Un) (w : World) (hu : IsAlts w u.A u.al.length u.al) (hcap : u.al.length ≤ u.c) (hmax : u.c ≤ maxLen) (hr : rateOk rn rd = true) (hv : validU u = true) :
  Calls Tryd.prog 17 #[.agg #[.int .i64 rn, .int .i64 rd], u.val] w fun e w' => e = .returned (packV (packP rn rd u)) ∧ Below w.heap.size w w' := by
 have HP := Hp.start w
 obtain ⟨⟨f1, f2, f3, f4, _⟩, ho⟩ := validU_facts hv
 have hfr0 : 0 ≤ u.frame ∧ u.frame ≤ 100000000 := ⟨f3, f4⟩
 obtain ⟨tk, htk, htb⟩ := ticks_nat rn rd u.frame
 obtain ⟨S, hS⟩ : ∃ S, streamU rn rd u = S := ⟨_, rfl⟩
 have hSl := streamU_len (rn := rn) (rd := rd) hv
 have hS5 := streamU_pos rn rd u
 rw [hS] at hSl hS5
 obtain ⟨ch, hch⟩ : ∃ c, u.channel.toNat = c := ⟨_, rfl⟩
 obtain ⟨fr, hfr⟩ : ∃ c, u.frame.toNat = c := ⟨_, rfl⟩
 obtain ⟨N, hNe⟩ : ∃ N, pktN S = N := ⟨_, rfl⟩
 have hSN := pktN_bd S
 rw [hNe] at hSN
 have hSe : [UInt8.ofNat (tk / 2 ^ 32 % 256), UInt8.ofNat (tk / 2 ^ 24 % 256), UInt8.ofNat (tk / 2 ^ 16 % 256), UInt8.ofNat (tk / 2 ^ 8 % 256), UInt8.ofNat (tk / 2 ^ 0 % 256)] ++ bodyP u = S := by rw [← hS]; unfold streamU; rw [htk]; rfl
 have hbl : (bodyP u).length + 5 = S.length := by rw [← hSe, List.length_append]; simp; omega
 have hpks : ((pkL S ch fr).take N).flatten = (pktsU rn rd u).flatten := by
  rw [List.take_of_length_le (by simp [pkL, hNe])]
  unfold pktsU pkL
  rw [hS, hch, hfr]
 refine w_enter 94 [(0, (.agg #[(.int .i64 rn), (.int .i64 rd)])), (1, (.agg (ua u u.A u.c)))] Tryd.func17 rfl Tryd.ntmps17 (by kernel_rfl) (by kernel_rfl) fun a H => ?_
 refine wp_seq (w_region ?_)
 refine H.alloc HP 2 (fun b => (.pointer (some ⟨b, 0, none⟩))) 23 [(.int .i64 rn), (.int .i64 rd)] (by kernel_rfl) (fun w => by kernel_rfl) fun b_1 w_2 a H HP => ?_
 refine H.alloc HP 3 (fun b => (.pointer (some ⟨b, 0, none⟩))) 28 (ul u u.A u.c) (by kernel_rfl) (fun w => by kernel_rfl) fun b_3 w_4 a H HP => ?_
 refine H.v 4 (.string (bstr ([]))) fun a H => ?_
 refine H.v 5 (.int .i64 0) fun a H => ?_
 refine wpList_nil (then_normal (wp_seq (wp_seq (w_region ?_))))
 refine H.u 14 (.agg #[(.int .i64 rn), (.int .i64 rd)]) (ex_loadN (vs := [(.int .i64 rn), (.int .i64 rd)]) (by kernel_rfl) (by kernel_rfl) (by kernel_rfl) rfl (HP.cells 1 rfl 0 2 (by kernel_rfl))) fun a H => ?_
 refine H.call 15 (by kernel_rfl) (Eq.trans (by kernel_rfl : _ = (callFunc 33 #[(.agg #[(.int .i64 rn), (.int .i64 rd)])]).run Tryd.prog w_4) (Tryd.call33 _ _)) ((by have hh := rvalid3_any rn rd w_4; rw [hr] at hh; exact hh)) ?_
 rintro e w_5 ⟨rfl, hb⟩
 refine ⟨_, rfl, ?_⟩
 intro a H
 have HP := HP.next hb
 refine H.v 16 (.bool false) fun a H => ?_
 refine H.v 17 (.bool false) fun a H => ?_
 refine H.u 18 (.agg (ua u u.A u.c)) (ex_loadN (vs := (ul u u.A u.c)) (by kernel_rfl) (by kernel_rfl) (by kernel_rfl) rfl (HP.cells 0 rfl 0 13 (by kernel_rfl))) fun a H => ?_
 refine H.call 19 (by kernel_rfl) (Eq.trans (by kernel_rfl : _ = (callFunc 19 #[(.agg (ua u u.A u.c))]).run Tryd.prog w_5) (Tryd.call19 _ _)) ((by have hh := ruvalid_any u w_5 (hu.below (HP.below (by kernel_rfl))) (Nat.le_trans hcap hmax); rw [hv] at hh; exact hh)) ?_
 rintro e w_6 ⟨rfl, hb⟩
 refine ⟨_, rfl, ?_⟩
 intro a H
 have HP := HP.next hb
 refine H.v 20 (.bool false) fun a H => ?_
 refine H.v 21 (.bool false) fun a H => ?_
 refine wpList_nil (then_normal ?_)
 refine w_iff H rfl ?_
 refine wp_skip (then_normal (wp_seq (w_region ?_)))
 refine H.u 22 (.agg #[(.int .i64 rn), (.int .i64 rd)]) (ex_loadN (vs := [(.int .i64 rn), (.int .i64 rd)]) (by kernel_rfl) (by kernel_rfl) (by kernel_rfl) rfl (HP.cells 1 rfl 0 2 (by kernel_rfl))) fun a H => ?_
 refine H.v 23 (.pointer (some ⟨b_3, 1, none⟩)) fun a H => ?_
 refine H.u 24 (.int .i64 u.frame) (ex_load1 (by kernel_rfl) (by kernel_rfl) (HP.cell 0 rfl 1 rfl)) fun a H => ?_
 refine H.call 25 (by kernel_rfl) (Eq.trans (by kernel_rfl : _ = (callFunc 34 #[(.agg #[(.int .i64 rn), (.int .i64 rd)]), (.int .i64 u.frame)]).run Tryd.prog w_6) (Tryd.call34 _ _)) ((by have hh := rticks_any rn rd u.frame w_6 hr hfr0; rw [htk] at hh; exact hh)) ?_
 rintro e w_7 ⟨rfl, hb⟩
 refine ⟨_, rfl, ?_⟩
 intro a H
 have HP := HP.next hb
 refine H.v 6 (.int .i64 ((tk : Nat) : Int)) fun a H => ?_
 refine wpList_nil (then_normal (wp_seq (w_region ?_)))
 refine H.v 7 (.slice none 0 0) fun a H => ?_
 refine wpList_nil (then_normal (wp_seq (wp_seq (w_region ?_))))
 refine H.v 8 (.int .i64 4) fun a H => ?_
 refine wpList_nil (then_normal (wp_block ?_))
 have HP := HP.nilR 5
 refine w_loop (fun mm a wv => (mm = 5 ∧ Sl 94 [(8, (.int .i64 4)), (7, (.slice none 0 0)), (3, (.pointer (some ⟨b_3, 0, none⟩))), (6, (.int .i64 ((tk : Nat) : Int)))] a ∧ Hp w wv [(ownR w.heap.size 5 (.slice none 0 0) (Lib.byteCells [])), bx b_3 28 (ul u u.A u.c) true, bx b_1 23 [(.int .i64 rn), (.int .i64 rd)] true] []) ∨ (∃ (B : Option Addr) (cc : Nat), mm = 4 ∧ Sl 94 [(8, (.int .i64 3)), (7, (.slice B 1 cc)), (3, (.pointer (some ⟨b_3, 0, none⟩))), (6, (.int .i64 ((tk : Nat) : Int)))] a ∧ Hp w wv [(ownR w.heap.size 5 (.slice B 1 cc) (Lib.byteCells [UInt8.ofNat (tk / 2 ^ 32 % 256)])), bx b_3 28 (ul u u.A u.c) true, bx b_1 23 [(.int .i64 rn), (.int .i64 rd)] true] []) ∨ (∃ (B : Option Addr) (cc : Nat), mm = 3 ∧ Sl 94 [(8, (.int .i64 2)), (7, (.slice B 2 cc)), (3, (.pointer (some ⟨b_3, 0, none⟩))), (6, (.int .i64 ((tk : Nat) : Int)))] a ∧ Hp w wv [(ownR w.heap.size 5 (.slice B 2 cc) (Lib.byteCells [UInt8.ofNat (tk / 2 ^ 32 % 256), UInt8.ofNat (tk / 2 ^ 24 % 256)])), bx b_3 28 (ul u u.A u.c) true, bx b_1 23 [(.int .i64 rn), (.int .i64 rd)] true] []) ∨ (∃ (B : Option Addr) (cc : Nat), mm = 2 ∧ Sl 94 [(8, (.int .i64 1)), (7, (.slice B 3 cc)), (3, (.pointer (some ⟨b_3, 0, none⟩))), (6, (.int .i64 ((tk : Nat) : Int)))] a ∧ Hp w wv [(ownR w.heap.size 5 (.slice B 3 cc) (Lib.byteCells [UInt8.ofNat (tk / 2 ^ 32 % 256), UInt8.ofNat (tk / 2 ^ 24 % 256), UInt8.ofNat (tk / 2 ^ 16 % 256)])), bx b_3 28 (ul u u.A u.c) true, bx b_1 23 [(.int .i64 rn), (.int .i64 rd)] true] []) ∨ (∃ (B : Option Addr) (cc : Nat), mm = 1 ∧ Sl 94 [(8, (.int .i64 0)), (7, (.slice B 4 cc)), (3, (.pointer (some ⟨b_3, 0, none⟩))), (6, (.int .i64 ((tk : Nat) : Int)))] a ∧ Hp w wv [(ownR w.heap.size 5 (.slice B 4 cc) (Lib.byteCells [UInt8.ofNat (tk / 2 ^ 32 % 256), UInt8.ofNat (tk / 2 ^ 24 % 256), UInt8.ofNat (tk / 2 ^ 16 % 256), UInt8.ofNat (tk / 2 ^ 8 % 256)])), bx b_3 28 (ul u u.A u.c) true, bx b_1 23 [(.int .i64 rn), (.int .i64 rd)] true] []) ∨ (∃ (B : Option Addr) (cc : Nat), mm = 0 ∧ Sl 94 [(8, (.int .i64 (-1))), (7, (.slice B 5 cc)), (3, (.pointer (some ⟨b_3, 0, none⟩))), (6, (.int .i64 ((tk : Nat) : Int)))] a ∧ Hp w wv [(ownR w.heap.size 5 (.slice B 5 cc) (Lib.byteCells [UInt8.ofNat (tk / 2 ^ 32 % 256), UInt8.ofNat (tk / 2 ^ 24 % 256), UInt8.ofNat (tk / 2 ^ 16 % 256), UInt8.ofNat (tk / 2 ^ 8 % 256), UInt8.ofNat (tk / 2 ^ 0 % 256)])), bx b_3 28 (ul u u.A u.c) true, bx b_1 23 [(.int .i64 rn), (.int .i64 rd)] true] [])) 5 (.inl ⟨rfl, H.keep (by kernel_rfl), HP⟩) ?_
 rintro mm a w_8 (⟨rfl, H, HP⟩ | ⟨B, cc, rfl, H, HP⟩ | ⟨B, cc, rfl, H, HP⟩ | ⟨B, cc, rfl, H, HP⟩ | ⟨B, cc, rfl, H, HP⟩ | ⟨B, cc, rfl, H, HP⟩)
 ·refine wp_seq (wp_seq (w_region ?_))
  refine H.v 26 (.int .i64 4) fun a H => ?_
  refine H.v 27 (.bool true) fun a H => ?_
  refine wpList_nil (then_normal ?_)
  refine w_ift H rfl ?_
  refine wp_skip (then_normal (wp_seq (wp_block (w_region ?_))))
  refine H.v 30 (.slice none 0 0) fun a H => ?_
  refine H.v 31 (.int .i64 ((tk : Nat) : Int)) fun a H => ?_
  refine H.v 32 (.int .i64 4) fun a H => ?_
  refine H.valE 33 (.int .i64 (IntKind.i64.wrap (8 * 4))) (.int .i64 32) (by kernel_rfl) (by kernel_rfl) (by kernel_rfl) fun a H => ?_
  refine H.valE 34 (.int .i64 (((tk : Nat) : Int).fdiv (2 ^ 32))) (.int .i64 ((tk / 2 ^ 32 : Nat) : Int)) (by kernel_rfl) (by kernel_rfl) ((congrArg (Value.int .i64) (shr_nat (a := tk) (c := 32)))) fun a H => ?_
  refine H.valE 35 (.int .u8 (IntKind.u8.wrap ((tk / 2 ^ 32 : Nat) : Int))) (.int .u8 ((tk / 2 ^ 32 % 256 : Nat) : Int)) (by kernel_rfl) (by kernel_rfl) ((congrArg (Value.int .u8) (wrap_u8_nat _))) fun a H => ?_
  refine H.alloc HP 36 (fun b => (.slice (some ⟨b, 0, none⟩) 1 1)) 5 [(.int .u8 ((tk / 2 ^ 32 % 256 : Nat) : Int))] (by kernel_rfl) (fun w => by kernel_rfl) fun b_9 w_10 a H HP => ?_
  refine H.appR HP 37 1 (v := (.slice none 0 0)) (xs := (Lib.byteCells [])) 5 (z := (.int .u8 0)) (bytes := 1) (some ⟨b_9, 0, none⟩) (1) (1) ([(.int .u8 ((tk / 2 ^ 32 % 256 : Nat) : Int))]) (by kernel_rfl) (by kernel_rfl) (by kernel_rfl) (by kernel_rfl) (by kernel_rfl) rfl (by kernel_rfl) (fun h => by cases h) (Rd.of_box (HP.at_ 0 rfl) rfl) (by kernel_rfl) (by simp only [byteCells_len, List.length_cons, List.length_nil]; unfold maxLen; omega) (by simp only [byteCells_len, List.length_cons, List.length_nil]; omega) fun B_11 c_12 w_13 a H HP => ?_
  have HP : Hp w w_13 [bx b_9 5 [(.int .u8 ((tk / 2 ^ 32 % 256 : Nat) : Int))] true, (ownR w.heap.size 5 (.slice B_11 ((Lib.byteCells []).length + 1) c_12) (Lib.byteCells [] ++ [(.int .u8 ((tk / 2 ^ 32 % 256 : Nat) : Int))])), bx b_3 28 (ul u u.A u.c) true, bx b_1 23 [(.int .i64 rn), (.int .i64 rd)] true] [] := HP
  have hxs : Lib.byteCells [] ++ [(.int .u8 ((tk / 2 ^ 32 % 256 : Nat) : Int))] = Lib.byteCells [UInt8.ofNat (tk / 2 ^ 32 % 256)] := (by rw [← byte_one (Nat.mod_lt _ (by decide))]; rfl)
  have hvv : ((.slice B_11 ((Lib.byteCells []).length + 1) c_12) : Value) = (.slice B_11 1 c_12) := by rw [show (Lib.byteCells []).length + 1 = 1 from rfl]
  rw [hxs, hvv] at HP
  have HP : Hp w w_13 [bx b_9 5 [(.int .u8 ((tk / 2 ^ 32 % 256 : Nat) : Int))] true, (ownR w.heap.size 5 (.slice B_11 1 c_12) (Lib.byteCells [UInt8.ofNat (tk / 2 ^ 32 % 256)])), bx b_3 28 (ul u u.A u.c) true, bx b_1 23 [(.int .i64 rn), (.int .i64 rd)] true] [] := HP
  have H := H.as 37 (.slice B_11 1 c_12) rfl hvv
  clear hxs hvv
  refine H.v 7 (.slice B_11 1 c_12) fun a H => ?_
  refine wpList_nil (inb_normal (then_normal (w_region ?_)))
  refine H.v 28 (.int .i64 4) fun a H => ?_
  refine H.valE 29 (.int .i64 (IntKind.i64.wrap (4 - 1))) (.int .i64 3) (by kernel_rfl) (by kernel_rfl) (by kernel_rfl) fun a H => ?_
  refine H.v 8 (.int .i64 3) fun a H => ?_
  refine wpList_nil (then_normal ?_)
  have HP := HP.sub [1, 2, 3] [(ownR w.heap.size 5 (.slice B_11 1 c_12) (Lib.byteCells [UInt8.ofNat (tk / 2 ^ 32 % 256)])), bx b_3 28 (ul u u.A u.c) true, bx b_1 23 [(.int .i64 rn), (.int .i64 rd)] true] (by kernel_rfl) (by kernel_rfl)
  exact ⟨4, by omega, .inr (.inl ⟨B_11, c_12, rfl, H.keep (by kernel_rfl), HP⟩)⟩
 ·refine wp_seq (wp_seq (w_region ?_))
  refine H.v 26 (.int .i64 3) fun a H => ?_
  refine H.v 27 (.bool true) fun a H => ?_
  refine wpList_nil (then_normal ?_)
  refine w_ift H rfl ?_
  refine wp_skip (then_normal (wp_seq (wp_block (w_region ?_))))
  refine H.v 30 (.slice B 1 cc) fun a H => ?_
  refine H.v 31 (.int .i64 ((tk : Nat) : Int)) fun a H => ?_
  refine H.v 32 (.int .i64 3) fun a H => ?_
  refine H.valE 33 (.int .i64 (IntKind.i64.wrap (8 * 3))) (.int .i64 24) (by kernel_rfl) (by kernel_rfl) (by kernel_rfl) fun a H => ?_
  refine H.valE 34 (.int .i64 (((tk : Nat) : Int).fdiv (2 ^ 24))) (.int .i64 ((tk / 2 ^ 24 : Nat) : Int)) (by kernel_rfl) (by kernel_rfl) ((congrArg (Value.int .i64) (shr_nat (a := tk) (c := 24)))) fun a H => ?_
  refine H.valE 35 (.int .u8 (IntKind.u8.wrap ((tk / 2 ^ 24 : Nat) : Int))) (.int .u8 ((tk / 2 ^ 24 % 256 : Nat) : Int)) (by kernel_rfl) (by kernel_rfl) ((congrArg (Value.int .u8) (wrap_u8_nat _))) fun a H => ?_
  refine H.alloc HP 36 (fun b => (.slice (some ⟨b, 0, none⟩) 1 1)) 5 [(.int .u8 ((tk / 2 ^ 24 % 256 : Nat) : Int))] (by kernel_rfl) (fun w => by kernel_rfl) fun b_14 w_15 a H HP => ?_
  refine H.appR HP 37 1 (v := (.slice B 1 cc)) (xs := (Lib.byteCells [UInt8.ofNat (tk / 2 ^ 32 % 256)])) 5 (z := (.int .u8 0)) (bytes := 1) (some ⟨b_14, 0, none⟩) (1) (1) ([(.int .u8 ((tk / 2 ^ 24 % 256 : Nat) : Int))]) (by kernel_rfl) (by kernel_rfl) (by kernel_rfl) (by kernel_rfl) (by kernel_rfl) rfl (by kernel_rfl) (fun h => by cases h) (Rd.of_box (HP.at_ 0 rfl) rfl) (by kernel_rfl) (by simp only [byteCells_len, List.length_cons, List.length_nil]; unfold maxLen; omega) (by simp only [byteCells_len, List.length_cons, List.length_nil]; omega) fun B_16 c_17 w_18 a H HP => ?_
  have HP : Hp w w_18 [bx b_14 5 [(.int .u8 ((tk / 2 ^ 24 % 256 : Nat) : Int))] true, (ownR w.heap.size 5 (.slice B_16 ((Lib.byteCells [UInt8.ofNat (tk / 2 ^ 32 % 256)]).length + 1) c_17) (Lib.byteCells [UInt8.ofNat (tk / 2 ^ 32 % 256)] ++ [(.int .u8 ((tk / 2 ^ 24 % 256 : Nat) : Int))])), bx b_3 28 (ul u u.A u.c) true, bx b_1 23 [(.int .i64 rn), (.int .i64 rd)] true] [] := HP
  have hxs : Lib.byteCells [UInt8.ofNat (tk / 2 ^ 32 % 256)] ++ [(.int .u8 ((tk / 2 ^ 24 % 256 : Nat) : Int))] = Lib.byteCells [UInt8.ofNat (tk / 2 ^ 32 % 256), UInt8.ofNat (tk / 2 ^ 24 % 256)] := (by rw [← byte_one (Nat.mod_lt _ (by decide))]; rfl)
  have hvv : ((.slice B_16 ((Lib.byteCells [UInt8.ofNat (tk / 2 ^ 32 % 256)]).length + 1) c_17) : Value) = (.slice B_16 2 c_17) := by rw [show (Lib.byteCells [UInt8.ofNat (tk / 2 ^ 32 % 256)]).length + 1 = 2 from rfl]
  rw [hxs, hvv] at HP
  have HP : Hp w w_18 [bx b_14 5 [(.int .u8 ((tk / 2 ^ 24 % 256 : Nat) : Int))] true, (ownR w.heap.size 5 (.slice B_16 2 c_17) (Lib.byteCells [UInt8.ofNat (tk / 2 ^ 32 % 256), UInt8.ofNat (tk / 2 ^ 24 % 256)])), bx b_3 28 (ul u u.A u.c) true, bx b_1 23 [(.int .i64 rn), (.int .i64 rd)] true] [] := HP
  have H := H.as 37 (.slice B_16 2 c_17) rfl hvv
  clear hxs hvv
  refine H.v 7 (.slice B_16 2 c_17) fun a H => ?_
  refine wpList_nil (inb_normal (then_normal (w_region ?_)))
  refine H.v 28 (.int .i64 3) fun a H => ?_
  refine H.valE 29 (.int .i64 (IntKind.i64.wrap (3 - 1))) (.int .i64 2) (by kernel_rfl) (by kernel_rfl) (by kernel_rfl) fun a H => ?_
  refine H.v 8 (.int .i64 2) fun a H => ?_
  refine wpList_nil (then_normal ?_)
  have HP := HP.sub [1, 2, 3] [(ownR w.heap.size 5 (.slice B_16 2 c_17) (Lib.byteCells [UInt8.ofNat (tk / 2 ^ 32 % 256), UInt8.ofNat (tk / 2 ^ 24 % 256)])), bx b_3 28 (ul u u.A u.c) true, bx b_1 23 [(.int .i64 rn), (.int .i64 rd)] true] (by kernel_rfl) (by kernel_rfl)
  exact ⟨3, by omega, .inr (.inr (.inl ⟨B_16, c_17, rfl, H.keep (by kernel_rfl), HP⟩))⟩
 ·refine wp_seq (wp_seq (w_region ?_))
  refine H.v 26 (.int .i64 2) fun a H => ?_
  refine H.v 27 (.bool true) fun a H => ?_
  refine wpList_nil (then_normal ?_)
  refine w_ift H rfl ?_
  refine wp_skip (then_normal (wp_seq (wp_block (w_region ?_))))
  refine H.v 30 (.slice B 2 cc) fun a H => ?_
  refine H.v 31 (.int .i64 ((tk : Nat) : Int)) fun a H => ?_
  refine H.v 32 (.int .i64 2) fun a H => ?_
  refine H.valE 33 (.int .i64 (IntKind.i64.wrap (8 * 2))) (.int .i64 16) (by kernel_rfl) (by kernel_rfl) (by kernel_rfl) fun a H => ?_
  refine H.valE 34 (.int .i64 (((tk : Nat) : Int).fdiv (2 ^ 16))) (.int .i64 ((tk / 2 ^ 16 : Nat) : Int)) (by kernel_rfl) (by kernel_rfl) ((congrArg (Value.int .i64) (shr_nat (a := tk) (c := 16)))) fun a H => ?_
  refine H.valE 35 (.int .u8 (IntKind.u8.wrap ((tk / 2 ^ 16 : Nat) : Int))) (.int .u8 ((tk / 2 ^ 16 % 256 : Nat) : Int)) (by kernel_rfl) (by kernel_rfl) ((congrArg (Value.int .u8) (wrap_u8_nat _))) fun a H => ?_
  refine H.alloc HP 36 (fun b => (.slice (some ⟨b, 0, none⟩) 1 1)) 5 [(.int .u8 ((tk / 2 ^ 16 % 256 : Nat) : Int))] (by kernel_rfl) (fun w => by kernel_rfl) fun b_19 w_20 a H HP => ?_
  refine H.appR HP 37 1 (v := (.slice B 2 cc)) (xs := (Lib.byteCells [UInt8.ofNat (tk / 2 ^ 32 % 256), UInt8.ofNat (tk / 2 ^ 24 % 256)])) 5 (z := (.int .u8 0)) (bytes := 1) (some ⟨b_19, 0, none⟩) (1) (1) ([(.int .u8 ((tk / 2 ^ 16 % 256 : Nat) : Int))]) (by kernel_rfl) (by kernel_rfl) (by kernel_rfl) (by kernel_rfl) (by kernel_rfl) rfl (by kernel_rfl) (fun h => by cases h) (Rd.of_box (HP.at_ 0 rfl) rfl) (by kernel_rfl) (by simp only [byteCells_len, List.length_cons, List.length_nil]; unfold maxLen; omega) (by simp only [byteCells_len, List.length_cons, List.length_nil]; omega) fun B_21 c_22 w_23 a H HP => ?_
  have HP : Hp w w_23 [bx b_19 5 [(.int .u8 ((tk / 2 ^ 16 % 256 : Nat) : Int))] true, (ownR w.heap.size 5 (.slice B_21 ((Lib.byteCells [UInt8.ofNat (tk / 2 ^ 32 % 256), UInt8.ofNat (tk / 2 ^ 24 % 256)]).length + 1) c_22) (Lib.byteCells [UInt8.ofNat (tk / 2 ^ 32 % 256), UInt8.ofNat (tk / 2 ^ 24 % 256)] ++ [(.int .u8 ((tk / 2 ^ 16 % 256 : Nat) : Int))])), bx b_3 28 (ul u u.A u.c) true, bx b_1 23 [(.int .i64 rn), (.int .i64 rd)] true] [] := HP
  have hxs : Lib.byteCells [UInt8.ofNat (tk / 2 ^ 32 % 256), UInt8.ofNat (tk / 2 ^ 24 % 256)] ++ [(.int .u8 ((tk / 2 ^ 16 % 256 : Nat) : Int))] = Lib.byteCells [UInt8.ofNat (tk / 2 ^ 32 % 256), UInt8.ofNat (tk / 2 ^ 24 % 256), UInt8.ofNat (tk / 2 ^ 16 % 256)] := (by rw [← byte_one (Nat.mod_lt _ (by decide))]; rfl)
  have hvv : ((.slice B_21 ((Lib.byteCells [UInt8.ofNat (tk / 2 ^ 32 % 256), UInt8.ofNat (tk / 2 ^ 24 % 256)]).length + 1) c_22) : Value) = (.slice B_21 3 c_22) := by rw [show (Lib.byteCells [UInt8.ofNat (tk / 2 ^ 32 % 256), UInt8.ofNat (tk / 2 ^ 24 % 256)]).length + 1 = 3 from rfl]
  rw [hxs, hvv] at HP
  have HP : Hp w w_23 [bx b_19 5 [(.int .u8 ((tk / 2 ^ 16 % 256 : Nat) : Int))] true, (ownR w.heap.size 5 (.slice B_21 3 c_22) (Lib.byteCells [UInt8.ofNat (tk / 2 ^ 32 % 256), UInt8.ofNat (tk / 2 ^ 24 % 256), UInt8.ofNat (tk / 2 ^ 16 % 256)])), bx b_3 28 (ul u u.A u.c) true, bx b_1 23 [(.int .i64 rn), (.int .i64 rd)] true] [] := HP
  have H := H.as 37 (.slice B_21 3 c_22) rfl hvv
  clear hxs hvv
  refine H.v 7 (.slice B_21 3 c_22) fun a H => ?_
  refine wpList_nil (inb_normal (then_normal (w_region ?_)))
  refine H.v 28 (.int .i64 2) fun a H => ?_
  refine H.valE 29 (.int .i64 (IntKind.i64.wrap (2 - 1))) (.int .i64 1) (by kernel_rfl) (by kernel_rfl) (by kernel_rfl) fun a H => ?_
  refine H.v 8 (.int .i64 1) fun a H => ?_
  refine wpList_nil (then_normal ?_)
  have HP := HP.sub [1, 2, 3] [(ownR w.heap.size 5 (.slice B_21 3 c_22) (Lib.byteCells [UInt8.ofNat (tk / 2 ^ 32 % 256), UInt8.ofNat (tk / 2 ^ 24 % 256), UInt8.ofNat (tk / 2 ^ 16 % 256)])), bx b_3 28 (ul u u.A u.c) true, bx b_1 23 [(.int .i64 rn), (.int .i64 rd)] true] (by kernel_rfl) (by kernel_rfl)
  exact ⟨2, by omega, .inr (.inr (.inr (.inl ⟨B_21, c_22, rfl, H.keep (by kernel_rfl), HP⟩)))⟩
 ·refine wp_seq (wp_seq (w_region ?_))
  refine H.v 26 (.int .i64 1) fun a H => ?_
  refine H.v 27 (.bool true) fun a H => ?_
  refine wpList_nil (then_normal ?_)
  refine w_ift H rfl ?_
  refine wp_skip (then_normal (wp_seq (wp_block (w_region ?_))))
  refine H.v 30 (.slice B 3 cc) fun a H => ?_
  refine H.v 31 (.int .i64 ((tk : Nat) : Int)) fun a H => ?_
  refine H.v 32 (.int .i64 1) fun a H => ?_
  refine H.valE 33 (.int .i64 (IntKind.i64.wrap (8 * 1))) (.int .i64 8) (by kernel_rfl) (by kernel_rfl) (by kernel_rfl) fun a H => ?_
  refine H.valE 34 (.int .i64 (((tk : Nat) : Int).fdiv (2 ^ 8))) (.int .i64 ((tk / 2 ^ 8 : Nat) : Int)) (by kernel_rfl) (by kernel_rfl) ((congrArg (Value.int .i64) (shr_nat (a := tk) (c := 8)))) fun a H => ?_
  refine H.valE 35 (.int .u8 (IntKind.u8.wrap ((tk / 2 ^ 8 : Nat) : Int))) (.int .u8 ((tk / 2 ^ 8 % 256 : Nat) : Int)) (by kernel_rfl) (by kernel_rfl) ((congrArg (Value.int .u8) (wrap_u8_nat _))) fun a H => ?_
  refine H.alloc HP 36 (fun b => (.slice (some ⟨b, 0, none⟩) 1 1)) 5 [(.int .u8 ((tk / 2 ^ 8 % 256 : Nat) : Int))] (by kernel_rfl) (fun w => by kernel_rfl) fun b_24 w_25 a H HP => ?_
  refine H.appR HP 37 1 (v := (.slice B 3 cc)) (xs := (Lib.byteCells [UInt8.ofNat (tk / 2 ^ 32 % 256), UInt8.ofNat (tk / 2 ^ 24 % 256), UInt8.ofNat (tk / 2 ^ 16 % 256)])) 5 (z := (.int .u8 0)) (bytes := 1) (some ⟨b_24, 0, none⟩) (1) (1) ([(.int .u8 ((tk / 2 ^ 8 % 256 : Nat) : Int))]) (by kernel_rfl) (by kernel_rfl) (by kernel_rfl) (by kernel_rfl) (by kernel_rfl) rfl (by kernel_rfl) (fun h => by cases h) (Rd.of_box (HP.at_ 0 rfl) rfl) (by kernel_rfl) (by simp only [byteCells_len, List.length_cons, List.length_nil]; unfold maxLen; omega) (by simp only [byteCells_len, List.length_cons, List.length_nil]; omega) fun B_26 c_27 w_28 a H HP => ?_
  have HP : Hp w w_28 [bx b_24 5 [(.int .u8 ((tk / 2 ^ 8 % 256 : Nat) : Int))] true, (ownR w.heap.size 5 (.slice B_26 ((Lib.byteCells [UInt8.ofNat (tk / 2 ^ 32 % 256), UInt8.ofNat (tk / 2 ^ 24 % 256), UInt8.ofNat (tk / 2 ^ 16 % 256)]).length + 1) c_27) (Lib.byteCells [UInt8.ofNat (tk / 2 ^ 32 % 256), UInt8.ofNat (tk / 2 ^ 24 % 256), UInt8.ofNat (tk / 2 ^ 16 % 256)] ++ [(.int .u8 ((tk / 2 ^ 8 % 256 : Nat) : Int))])), bx b_3 28 (ul u u.A u.c) true, bx b_1 23 [(.int .i64 rn), (.int .i64 rd)] true] [] := HP
  have hxs : Lib.byteCells [UInt8.ofNat (tk / 2 ^ 32 % 256), UInt8.ofNat (tk / 2 ^ 24 % 256), UInt8.ofNat (tk / 2 ^ 16 % 256)] ++ [(.int .u8 ((tk / 2 ^ 8 % 256 : Nat) : Int))] = Lib.byteCells [UInt8.ofNat (tk / 2 ^ 32 % 256), UInt8.ofNat (tk / 2 ^ 24 % 256), UInt8.ofNat (tk / 2 ^ 16 % 256), UInt8.ofNat (tk / 2 ^ 8 % 256)] := (by rw [← byte_one (Nat.mod_lt _ (by decide))]; rfl)
  have hvv : ((.slice B_26 ((Lib.byteCells [UInt8.ofNat (tk / 2 ^ 32 % 256), UInt8.ofNat (tk / 2 ^ 24 % 256), UInt8.ofNat (tk / 2 ^ 16 % 256)]).length + 1) c_27) : Value) = (.slice B_26 4 c_27) := by rw [show (Lib.byteCells [UInt8.ofNat (tk / 2 ^ 32 % 256), UInt8.ofNat (tk / 2 ^ 24 % 256), UInt8.ofNat (tk / 2 ^ 16 % 256)]).length + 1 = 4 from rfl]
  rw [hxs, hvv] at HP
  have HP : Hp w w_28 [bx b_24 5 [(.int .u8 ((tk / 2 ^ 8 % 256 : Nat) : Int))] true, (ownR w.heap.size 5 (.slice B_26 4 c_27) (Lib.byteCells [UInt8.ofNat (tk / 2 ^ 32 % 256), UInt8.ofNat (tk / 2 ^ 24 % 256), UInt8.ofNat (tk / 2 ^ 16 % 256), UInt8.ofNat (tk / 2 ^ 8 % 256)])), bx b_3 28 (ul u u.A u.c) true, bx b_1 23 [(.int .i64 rn), (.int .i64 rd)] true] [] := HP
  have H := H.as 37 (.slice B_26 4 c_27) rfl hvv
  clear hxs hvv
  refine H.v 7 (.slice B_26 4 c_27) fun a H => ?_
  refine wpList_nil (inb_normal (then_normal (w_region ?_)))
  refine H.v 28 (.int .i64 1) fun a H => ?_
  refine H.valE 29 (.int .i64 (IntKind.i64.wrap (1 - 1))) (.int .i64 0) (by kernel_rfl) (by kernel_rfl) (by kernel_rfl) fun a H => ?_
  refine H.v 8 (.int .i64 0) fun a H => ?_
  refine wpList_nil (then_normal ?_)
  have HP := HP.sub [1, 2, 3] [(ownR w.heap.size 5 (.slice B_26 4 c_27) (Lib.byteCells [UInt8.ofNat (tk / 2 ^ 32 % 256), UInt8.ofNat (tk / 2 ^ 24 % 256), UInt8.ofNat (tk / 2 ^ 16 % 256), UInt8.ofNat (tk / 2 ^ 8 % 256)])), bx b_3 28 (ul u u.A u.c) true, bx b_1 23 [(.int .i64 rn), (.int .i64 rd)] true] (by kernel_rfl) (by kernel_rfl)
  exact ⟨1, by omega, .inr (.inr (.inr (.inr (.inl ⟨B_26, c_27, rfl, H.keep (by kernel_rfl), HP⟩))))⟩
 ·refine wp_seq (wp_seq (w_region ?_))
  refine H.v 26 (.int .i64 0) fun a H => ?_
  refine H.v 27 (.bool true) fun a H => ?_
  refine wpList_nil (then_normal ?_)
  refine w_ift H rfl ?_
  refine wp_skip (then_normal (wp_seq (wp_block (w_region ?_))))
  refine H.v 30 (.slice B 4 cc) fun a H => ?_
  refine H.v 31 (.int .i64 ((tk : Nat) : Int)) fun a H => ?_
  refine H.v 32 (.int .i64 0) fun a H => ?_
  refine H.valE 33 (.int .i64 (IntKind.i64.wrap (8 * 0))) (.int .i64 0) (by kernel_rfl) (by kernel_rfl) (by kernel_rfl) fun a H => ?_
  refine H.valE 34 (.int .i64 (((tk : Nat) : Int).fdiv (2 ^ 0))) (.int .i64 ((tk / 2 ^ 0 : Nat) : Int)) (by kernel_rfl) (by kernel_rfl) ((congrArg (Value.int .i64) (shr_nat (a := tk) (c := 0)))) fun a H => ?_
  refine H.valE 35 (.int .u8 (IntKind.u8.wrap ((tk / 2 ^ 0 : Nat) : Int))) (.int .u8 ((tk / 2 ^ 0 % 256 : Nat) : Int)) (by kernel_rfl) (by kernel_rfl) ((congrArg (Value.int .u8) (wrap_u8_nat _))) fun a H => ?_
  refine H.alloc HP 36 (fun b => (.slice (some ⟨b, 0, none⟩) 1 1)) 5 [(.int .u8 ((tk / 2 ^ 0 % 256 : Nat) : Int))] (by kernel_rfl) (fun w => by kernel_rfl) fun b_29 w_30 a H HP => ?_
  refine H.appR HP 37 1 (v := (.slice B 4 cc)) (xs := (Lib.byteCells [UInt8.ofNat (tk / 2 ^ 32 % 256), UInt8.ofNat (tk / 2 ^ 24 % 256), UInt8.ofNat (tk / 2 ^ 16 % 256), UInt8.ofNat (tk / 2 ^ 8 % 256)])) 5 (z := (.int .u8 0)) (bytes := 1) (some ⟨b_29, 0, none⟩) (1) (1) ([(.int .u8 ((tk / 2 ^ 0 % 256 : Nat) : Int))]) (by kernel_rfl) (by kernel_rfl) (by kernel_rfl) (by kernel_rfl) (by kernel_rfl) rfl (by kernel_rfl) (fun h => by cases h) (Rd.of_box (HP.at_ 0 rfl) rfl) (by kernel_rfl) (by simp only [byteCells_len, List.length_cons, List.length_nil]; unfold maxLen; omega) (by simp only [byteCells_len, List.length_cons, List.length_nil]; omega) fun B_31 c_32 w_33 a H HP => ?_
  have HP : Hp w w_33 [bx b_29 5 [(.int .u8 ((tk / 2 ^ 0 % 256 : Nat) : Int))] true, (ownR w.heap.size 5 (.slice B_31 ((Lib.byteCells [UInt8.ofNat (tk / 2 ^ 32 % 256), UInt8.ofNat (tk / 2 ^ 24 % 256), UInt8.ofNat (tk / 2 ^ 16 % 256), UInt8.ofNat (tk / 2 ^ 8 % 256)]).length + 1) c_32) (Lib.byteCells [UInt8.ofNat (tk / 2 ^ 32 % 256), UInt8.ofNat (tk / 2 ^ 24 % 256), UInt8.ofNat (tk / 2 ^ 16 % 256), UInt8.ofNat (tk / 2 ^ 8 % 256)] ++ [(.int .u8 ((tk / 2 ^ 0 % 256 : Nat) : Int))])), bx b_3 28 (ul u u.A u.c) true, bx b_1 23 [(.int .i64 rn), (.int .i64 rd)] true] [] := HP
  have hxs : Lib.byteCells [UInt8.ofNat (tk / 2 ^ 32 % 256), UInt8.ofNat (tk / 2 ^ 24 % 256), UInt8.ofNat (tk / 2 ^ 16 % 256), UInt8.ofNat (tk / 2 ^ 8 % 256)] ++ [(.int .u8 ((tk / 2 ^ 0 % 256 : Nat) : Int))] = Lib.byteCells [UInt8.ofNat (tk / 2 ^ 32 % 256), UInt8.ofNat (tk / 2 ^ 24 % 256), UInt8.ofNat (tk / 2 ^ 16 % 256), UInt8.ofNat (tk / 2 ^ 8 % 256), UInt8.ofNat (tk / 2 ^ 0 % 256)] := (by rw [← byte_one (Nat.mod_lt _ (by decide))]; rfl)
  have hvv : ((.slice B_31 ((Lib.byteCells [UInt8.ofNat (tk / 2 ^ 32 % 256), UInt8.ofNat (tk / 2 ^ 24 % 256), UInt8.ofNat (tk / 2 ^ 16 % 256), UInt8.ofNat (tk / 2 ^ 8 % 256)]).length + 1) c_32) : Value) = (.slice B_31 5 c_32) := by rw [show (Lib.byteCells [UInt8.ofNat (tk / 2 ^ 32 % 256), UInt8.ofNat (tk / 2 ^ 24 % 256), UInt8.ofNat (tk / 2 ^ 16 % 256), UInt8.ofNat (tk / 2 ^ 8 % 256)]).length + 1 = 5 from rfl]
  rw [hxs, hvv] at HP
  have HP : Hp w w_33 [bx b_29 5 [(.int .u8 ((tk / 2 ^ 0 % 256 : Nat) : Int))] true, (ownR w.heap.size 5 (.slice B_31 5 c_32) (Lib.byteCells [UInt8.ofNat (tk / 2 ^ 32 % 256), UInt8.ofNat (tk / 2 ^ 24 % 256), UInt8.ofNat (tk / 2 ^ 16 % 256), UInt8.ofNat (tk / 2 ^ 8 % 256), UInt8.ofNat (tk / 2 ^ 0 % 256)])), bx b_3 28 (ul u u.A u.c) true, bx b_1 23 [(.int .i64 rn), (.int .i64 rd)] true] [] := HP
  have H := H.as 37 (.slice B_31 5 c_32) rfl hvv
  clear hxs hvv
  refine H.v 7 (.slice B_31 5 c_32) fun a H => ?_
  refine wpList_nil (inb_normal (then_normal (w_region ?_)))
  refine H.v 28 (.int .i64 0) fun a H => ?_
  refine H.valE 29 (.int .i64 (IntKind.i64.wrap (0 - 1))) (.int .i64 (-1)) (by kernel_rfl) (by kernel_rfl) (by kernel_rfl) fun a H => ?_
  refine H.v 8 (.int .i64 (-1)) fun a H => ?_
  refine wpList_nil (then_normal ?_)
  have HP := HP.sub [1, 2, 3] [(ownR w.heap.size 5 (.slice B_31 5 c_32) (Lib.byteCells [UInt8.ofNat (tk / 2 ^ 32 % 256), UInt8.ofNat (tk / 2 ^ 24 % 256), UInt8.ofNat (tk / 2 ^ 16 % 256), UInt8.ofNat (tk / 2 ^ 8 % 256), UInt8.ofNat (tk / 2 ^ 0 % 256)])), bx b_3 28 (ul u u.A u.c) true, bx b_1 23 [(.int .i64 rn), (.int .i64 rd)] true] (by kernel_rfl) (by kernel_rfl)
  exact ⟨0, by omega, .inr (.inr (.inr (.inr (.inr (⟨B_31, c_32, rfl, H.keep (by kernel_rfl), HP⟩)))))⟩
 ·refine wp_seq (wp_seq (w_region ?_))
  refine H.v 26 (.int .i64 (-1)) fun a H => ?_
  refine H.v 27 (.bool false) fun a H => ?_
  refine wpList_nil (then_normal ?_)
  refine w_iff H rfl ?_
  refine wp_exit (then_exit (then_exit ?_))
  refine w_exit_here ?_
  refine then_normal (wp_seq (w_region ?_))
  refine H.v 38 (.slice B 5 cc) fun a H => ?_
  refine H.u 39 (.agg (ua u u.A u.c)) (ex_loadN (vs := (ul u u.A u.c)) (by kernel_rfl) (by kernel_rfl) (by kernel_rfl) rfl (HP.cells 1 rfl 0 13 (by kernel_rfl))) fun a H => ?_
  refine H.call 40 (by kernel_rfl) (Eq.trans (by kernel_rfl : _ = (callFunc 35 #[(.agg (ua u u.A u.c))]).run Tryd.prog w_8) (Tryd.call35 _ _)) (rbody_any u w_8 (hu.below (HP.below (by kernel_rfl))) hv hcap) ?_
  rintro e w_34 ⟨rfl, hb⟩
  refine ⟨_, rfl, ?_⟩
  intro a H
  have HP := HP.next hb
  refine H.appS HP 41 0 (B := B) (N := 5) (c := cc) (xs := Lib.byteCells [UInt8.ofNat (tk / 2 ^ 32 % 256), UInt8.ofNat (tk / 2 ^ 24 % 256), UInt8.ofNat (tk / 2 ^ 16 % 256), UInt8.ofNat (tk / 2 ^ 8 % 256), UInt8.ofNat (tk / 2 ^ 0 % 256)]) 5 (bodyP u) (by kernel_rfl) (by kernel_rfl) (by kernel_rfl) (by kernel_rfl) (by kernel_rfl) rfl (by kernel_rfl) (by simp [byteCells_len]) (by rw [byteCells_len]; simp only [List.length_cons, List.length_nil]; omega) fun B_35 c_36 w_37 a H HP => ?_
  have hxs : Lib.byteCells [UInt8.ofNat (tk / 2 ^ 32 % 256), UInt8.ofNat (tk / 2 ^ 24 % 256), UInt8.ofNat (tk / 2 ^ 16 % 256), UInt8.ofNat (tk / 2 ^ 8 % 256), UInt8.ofNat (tk / 2 ^ 0 % 256)] ++ Lib.byteCells (bodyP u) = Lib.byteCells S := by rw [← byteCells_append]; exact congrArg Lib.byteCells hSe
  have hll : (Lib.byteCells [UInt8.ofNat (tk / 2 ^ 32 % 256), UInt8.ofNat (tk / 2 ^ 24 % 256), UInt8.ofNat (tk / 2 ^ 16 % 256), UInt8.ofNat (tk / 2 ^ 8 % 256), UInt8.ofNat (tk / 2 ^ 0 % 256)]).length + (bodyP u).length = S.length := by rw [← hSe, List.length_append, byteCells_len]
  have HP : Hp w w_37 [(ownR w.heap.size 5 (.slice B_35 ((Lib.byteCells [UInt8.ofNat (tk / 2 ^ 32 % 256), UInt8.ofNat (tk / 2 ^ 24 % 256), UInt8.ofNat (tk / 2 ^ 16 % 256), UInt8.ofNat (tk / 2 ^ 8 % 256), UInt8.ofNat (tk / 2 ^ 0 % 256)]).length + (bodyP u).length) c_36) (Lib.byteCells [UInt8.ofNat (tk / 2 ^ 32 % 256), UInt8.ofNat (tk / 2 ^ 24 % 256), UInt8.ofNat (tk / 2 ^ 16 % 256), UInt8.ofNat (tk / 2 ^ 8 % 256), UInt8.ofNat (tk / 2 ^ 0 % 256)] ++ Lib.byteCells (bodyP u))), bx b_3 28 (ul u u.A u.c) true, bx b_1 23 [(.int .i64 rn), (.int .i64 rd)] true] [] := HP
  rw [hxs, hll] at HP
  rw [hll] at H
  obtain ⟨bs, hbs⟩ : ∃ b, B_35 = some ⟨b, 0, none⟩ := own_some (HP.held 0 rfl) (by rw [byteCells_len]; omega)
  rw [hbs] at H HP
  refine H.v 7 (.slice (some ⟨bs, 0, none⟩) S.length c_36) fun a H => ?_
  refine wpList_nil (then_normal (wp_seq (w_region ?_)))
  refine H.v 9 (.slice none 0 0) fun a H => ?_
  refine wpList_nil (then_normal (wp_seq (wp_seq (w_region ?_))))
  refine H.v 10 (.int .i64 0) fun a H => ?_
  refine wpList_nil (then_normal (wp_block ?_))
  have HP := HP.nilR 5
  have hcsl := (ownR_facts (HP.held 1 rfl)).2.1
  refine w_loop (fun mm a wv => ∃ (j : Nat), ∃ (AA : Option Addr), ∃ (ln : Nat), ∃ (cl : Nat), ∃ (Bo : Option Addr), ∃ (co : Nat), N - j = mm ∧ Sl 94 [(10, (.int .i64 ((j : Nat) : Int))), (7, (.slice AA ln cl)), (9, (.slice Bo (64 * j) co)), (3, (.pointer (some ⟨b_3, 0, none⟩)))] a ∧ Hp w wv [(ownR w.heap.size 5 (.slice Bo (64 * j) co) (Lib.byteCells (((pkL S ch fr).take j).flatten))), (ownR w.heap.size 5 (.slice (some ⟨bs, 0, none⟩) S.length c_36) (Lib.byteCells S)), bx b_3 28 (ul u u.A u.c) true, bx b_1 23 [(.int .i64 rn), (.int .i64 rd)] true] [] ∧ (j ≤ N) ∧ (ln = S.length - 59 * j) ∧ (ln ≠ 0 → AA = some ⟨bs, 59 * j, none⟩) ∧ (ln ≤ cl)) (N - 0) ?_ ?_
  ·exact ⟨0, some ⟨bs, 0, none⟩, S.length, c_36, none, 0, (by omega), H.keep (by kernel_rfl), HP, by omega, rfl, (fun _ => rfl), hcsl⟩
  rintro mm a w_38 ⟨j, AA, ln, cl, Bo, co, hmeas, H, HP, hj, hln, hAA, hcl⟩
  refine wp_seq (wp_seq (w_region ?_))
  refine H.v 42 (.slice AA ln cl) fun a H => ?_
  refine H.v 43 (.int .i64 ((ln : Nat) : Int)) fun a H => ?_
  refine H.v 44 (.bool (decide (((ln : Nat) : Int) > 0))) fun a H => ?_
  refine wpList_nil (then_normal ?_)
  refine w_if H rfl (fun g44 => ?_) (fun g44 => ?_)
  ·have g44p := of_decide_eq_true g44
   refine wp_skip (then_normal (wp_seq (wp_block (wp_seq ?_))))
   have hAS := hAA (by omega)
   subst hAS
   obtain ⟨m, hm⟩ : ∃ m, min 59 ln = m := ⟨_, rfl⟩
   have hm1 : m = min 59 (S.length - 59 * j) := by omega
   have hP0 : (((pkL S ch fr).take j).flatten).length = 64 * j := pk_take_len hNe hj
   refine w_region ?_
   refine H.v 47 (.slice (some ⟨bs, 59 * j, none⟩) ln cl) fun a H => ?_
   refine H.v 48 (.int .i64 ((ln : Nat) : Int)) fun a H => ?_
   refine H.valE 49 (.int .i64 (if (59 : Int) < ((ln : Nat) : Int) then 59 else ((ln : Nat) : Int))) (.int .i64 ((m : Nat) : Int)) (by kernel_rfl) (by kernel_rfl) ((congrArg (Value.int .i64) (by split <;> omega))) fun a H => ?_
   refine H.v 11 (.int .i64 ((m : Nat) : Int)) fun a H => ?_
   refine wpList_nil (then_normal (wp_seq (w_region ?_)))
   refine H.v 12 (.int .i64 0) fun a H => ?_
   refine wpList_nil (then_normal ?_)
   refine w_cut (fun a wv => ∃ (f0 : Nat), Sl 94 [(12, (.int .i64 ((f0 : Nat) : Int))), (11, (.int .i64 ((m : Nat) : Int))), (10, (.int .i64 ((j : Nat) : Int))), (7, (.slice (some ⟨bs, 59 * j, none⟩) ln cl)), (9, (.slice Bo (64 * j) co)), (3, (.pointer (some ⟨b_3, 0, none⟩)))] a ∧ Hp w wv [(ownR w.heap.size 5 (.slice Bo (64 * j) co) (Lib.byteCells (((pkL S ch fr).take j).flatten))), (ownR w.heap.size 5 (.slice (some ⟨bs, 0, none⟩) S.length c_36) (Lib.byteCells S)), bx b_3 28 (ul u u.A u.c) true, bx b_1 23 [(.int .i64 rn), (.int .i64 rd)] true] [] ∧ ((f0 = 0 ∧ j ≠ 0) ∨ (f0 = 1 ∧ j = 0))) ?_ ?_
   ·
    refine wp_seq (w_region ?_)
    refine H.v 50 (.int .i64 ((j : Nat) : Int)) fun a H => ?_
    refine H.v 51 (.bool (((j : Nat) : Int) == 0)) fun a H => ?_
    refine wpList_nil (then_normal ?_)
    refine w_if H rfl (fun g51 => ?_) (fun g51 => ?_)
    ·have g51p := eq_of_beq g51
     refine w_region ?_
     refine H.v 12 (.int .i64 1) fun a H => ?_
     refine wpList_nil (then_normal ?_)
     exact ⟨1, H.keep (by kernel_rfl), HP, (by omega)⟩
    ·have g51p := ne_of_beq_false g51
     refine wp_skip (then_normal ?_)
     exact ⟨0, H.keep (by kernel_rfl), HP, (by omega)⟩
   ·
    rintro a w_39 ⟨f0, H, HP, hf0⟩
    refine w_cut (fun a wv => ∃ (fl : Nat), Sl 94 [(12, (.int .i64 ((fl : Nat) : Int))), (11, (.int .i64 ((m : Nat) : Int))), (10, (.int .i64 ((j : Nat) : Int))), (7, (.slice (some ⟨bs, 59 * j, none⟩) ln cl)), (9, (.slice Bo (64 * j) co)), (3, (.pointer (some ⟨b_3, 0, none⟩)))] a ∧ Hp w wv [(ownR w.heap.size 5 (.slice Bo (64 * j) co) (Lib.byteCells (((pkL S ch fr).take j).flatten))), (ownR w.heap.size 5 (.slice (some ⟨bs, 0, none⟩) S.length c_36) (Lib.byteCells S)), bx b_3 28 (ul u u.A u.c) true, bx b_1 23 [(.int .i64 rn), (.int .i64 rd)] true] [] ∧ (fl = flagsP N j) ∧ (fl < 256)) ?_ ?_
    ·
     refine wp_seq (w_region ?_)
     refine H.v 52 (.int .i64 ((m : Nat) : Int)) fun a H => ?_
     refine H.v 53 (.slice (some ⟨bs, 59 * j, none⟩) ln cl) fun a H => ?_
     refine H.v 54 (.int .i64 ((ln : Nat) : Int)) fun a H => ?_
     refine H.v 55 (.bool (((m : Nat) : Int) == ((ln : Nat) : Int))) fun a H => ?_
     refine wpList_nil (then_normal ?_)
     refine w_if H rfl (fun g55 => ?_) (fun g55 => ?_)
     ·have g55p := eq_of_beq g55
      refine w_region ?_
      refine H.v 56 (.int .i64 ((f0 : Nat) : Int)) fun a H => ?_
      refine H.valE 57 (.int .i64 (IntKind.i64.wrap (((f0 : Nat) : Int) + 2))) (.int .i64 ((f0 + 2 : Nat) : Int)) (by kernel_rfl) (by kernel_rfl) ((by rw [wrap_ini64 _ (by omega)]; first | done | exact congrArg (Value.int .i64) (by omega))) fun a H => ?_
      refine H.v 12 (.int .i64 ((f0 + 2 : Nat) : Int)) fun a H => ?_
      refine wpList_nil (then_normal ?_)
      exact ⟨f0 + 2, H.keep (by kernel_rfl), HP, (by unfold flagsP; split <;> split <;> omega), (by omega)⟩
     ·have g55p := ne_of_beq_false g55
      refine wp_skip (then_normal ?_)
      exact ⟨f0, H.keep (by kernel_rfl), HP, (by unfold flagsP; split <;> split <;> omega), (by omega)⟩
    ·
     rintro a w_40 ⟨fl, H, HP, hfl, hflb⟩
     refine wp_seq (w_region ?_)
     refine H.v 58 (.slice Bo (64 * j) co) fun a H => ?_
     refine H.v 59 (.pointer (some ⟨b_3, 0, none⟩)) fun a H => ?_
     refine H.u 60 (.int .i64 u.channel) (ex_load1 (by kernel_rfl) (by kernel_rfl) (HP.cell 2 rfl 0 rfl)) fun a H => ?_
     refine H.valE 61 (.int .u8 (IntKind.u8.wrap u.channel)) (.int .u8 ((ch : Nat) : Int)) (by kernel_rfl) (by kernel_rfl) ((by rw [wrap_inu8 _ (by omega)]; first | done | exact congrArg (Value.int .u8) (by omega))) fun a H => ?_
     refine H.v 62 (.pointer (some ⟨b_3, 1, none⟩)) fun a H => ?_
     refine H.u 63 (.int .i64 u.frame) (ex_load1 (by kernel_rfl) (by kernel_rfl) (HP.cell 2 rfl 1 rfl)) fun a H => ?_
     refine H.valE 64 (.int .i64 (u.frame.tmod 16)) (.int .i64 ((fr % 16 : Nat) : Int)) (by kernel_rfl) (by kernel_rfl) ((by rw [tmod_nn _ _ (by omega)]; first | done | exact congrArg (Value.int .i64) (by omega))) fun a H => ?_
     refine H.valE 65 (.int .i64 (IntKind.i64.wrap (((fr % 16 : Nat) : Int) * 16))) (.int .i64 ((fr % 16 * 16 : Nat) : Int)) (by kernel_rfl) (by kernel_rfl) ((by rw [wrap_ini64 _ (by omega)]; first | done | exact congrArg (Value.int .i64) (by omega))) fun a H => ?_
     refine H.v 66 (.int .i64 ((j : Nat) : Int)) fun a H => ?_
     refine H.valE 67 (.int .i64 (((j : Nat) : Int).tmod 16)) (.int .i64 ((j % 16 : Nat) : Int)) (by kernel_rfl) (by kernel_rfl) ((by rw [tmod_nn _ _ (by omega)]; first | done | exact congrArg (Value.int .i64) (by omega))) fun a H => ?_
     refine H.valE 68 (.int .i64 (IntKind.i64.wrap (((fr % 16 * 16 : Nat) : Int) + ((j % 16 : Nat) : Int)))) (.int .i64 ((16 * (fr % 16) + j % 16 : Nat) : Int)) (by kernel_rfl) (by kernel_rfl) ((by rw [wrap_ini64 _ (by omega)]; first | done | exact congrArg (Value.int .i64) (by omega))) fun a H => ?_
     refine H.valE 69 (.int .u8 (IntKind.u8.wrap ((16 * (fr % 16) + j % 16 : Nat) : Int))) (.int .u8 ((16 * (fr % 16) + j % 16 : Nat) : Int)) (by kernel_rfl) (by kernel_rfl) ((by rw [wrap_inu8 _ (by omega)]; first | done | exact congrArg (Value.int .u8) (by omega))) fun a H => ?_
     refine H.v 70 (.int .i64 ((fl : Nat) : Int)) fun a H => ?_
     refine H.valE 71 (.int .u8 (IntKind.u8.wrap ((fl : Nat) : Int))) (.int .u8 ((fl : Nat) : Int)) (by kernel_rfl) (by kernel_rfl) ((by rw [wrap_inu8 _ (by omega)]; first | done | exact congrArg (Value.int .u8) (by omega))) fun a H => ?_
     refine H.v 72 (.int .i64 ((m : Nat) : Int)) fun a H => ?_
     refine H.valE 73 (.int .u8 (IntKind.u8.wrap ((m : Nat) : Int))) (.int .u8 ((m : Nat) : Int)) (by kernel_rfl) (by kernel_rfl) ((by rw [wrap_inu8 _ (by omega)]; first | done | exact congrArg (Value.int .u8) (by omega))) fun a H => ?_
     refine H.alloc HP 74 (fun b => (.slice (some ⟨b, 0, none⟩) 5 5)) 5 [(.int .u8 71), (.int .u8 ((ch : Nat) : Int)), (.int .u8 ((16 * (fr % 16) + j % 16 : Nat) : Int)), (.int .u8 ((fl : Nat) : Int)), (.int .u8 ((m : Nat) : Int))] (by kernel_rfl) (fun w => by kernel_rfl) fun b_41 w_42 a H HP => ?_
     refine H.appR HP 75 1 (v := (.slice Bo (64 * j) co)) (xs := (Lib.byteCells (((pkL S ch fr).take j).flatten))) 5 (z := (.int .u8 0)) (bytes := 1) (some ⟨b_41, 0, none⟩) (5) (5) ([(.int .u8 71), (.int .u8 ((ch : Nat) : Int)), (.int .u8 ((16 * (fr % 16) + j % 16 : Nat) : Int)), (.int .u8 ((fl : Nat) : Int)), (.int .u8 ((m : Nat) : Int))]) (by kernel_rfl) (by kernel_rfl) (by kernel_rfl) (by kernel_rfl) (by kernel_rfl) rfl (by kernel_rfl) (fun h => by cases h) (Rd.of_box (HP.at_ 0 rfl) rfl) (by kernel_rfl) (by rw [byteCells_len, hP0]; unfold maxLen; omega) (by rw [byteCells_len, hP0]; omega) fun B_43 c_44 w_45 a H HP => ?_
     have HP : Hp w w_45 [bx b_41 5 [(.int .u8 71), (.int .u8 ((ch : Nat) : Int)), (.int .u8 ((16 * (fr % 16) + j % 16 : Nat) : Int)), (.int .u8 ((fl : Nat) : Int)), (.int .u8 ((m : Nat) : Int))] true, (ownR w.heap.size 5 (.slice B_43 ((Lib.byteCells (((pkL S ch fr).take j).flatten)).length + 5) c_44) (Lib.byteCells (((pkL S ch fr).take j).flatten) ++ [(.int .u8 71), (.int .u8 ((ch : Nat) : Int)), (.int .u8 ((16 * (fr % 16) + j % 16 : Nat) : Int)), (.int .u8 ((fl : Nat) : Int)), (.int .u8 ((m : Nat) : Int))])), (ownR w.heap.size 5 (.slice (some ⟨bs, 0, none⟩) S.length c_36) (Lib.byteCells S)), bx b_3 28 (ul u u.A u.c) true, bx b_1 23 [(.int .i64 rn), (.int .i64 rd)] true] [] := HP
     have hxs : Lib.byteCells (((pkL S ch fr).take j).flatten) ++ [(.int .u8 71), (.int .u8 ((ch : Nat) : Int)), (.int .u8 ((16 * (fr % 16) + j % 16 : Nat) : Int)), (.int .u8 ((fl : Nat) : Int)), (.int .u8 ((m : Nat) : Int))] = Lib.byteCells (((pkL S ch fr).take j).flatten ++ [71, UInt8.ofNat ch, UInt8.ofNat (16 * (fr % 16) + j % 16), UInt8.ofNat fl, UInt8.ofNat m]) := (by rw [byteCells_append, bytes5 (by omega) (by omega) (by omega) (by omega)])
     have hvv : ((.slice B_43 ((Lib.byteCells (((pkL S ch fr).take j).flatten)).length + 5) c_44) : Value) = (.slice B_43 (64 * j + 5) c_44) := by rw [show (Lib.byteCells (((pkL S ch fr).take j).flatten)).length + 5 = 64 * j + 5 from (by rw [byteCells_len, hP0])]
     rw [hxs, hvv] at HP
     have HP : Hp w w_45 [bx b_41 5 [(.int .u8 71), (.int .u8 ((ch : Nat) : Int)), (.int .u8 ((16 * (fr % 16) + j % 16 : Nat) : Int)), (.int .u8 ((fl : Nat) : Int)), (.int .u8 ((m : Nat) : Int))] true, (ownR w.heap.size 5 (.slice B_43 (64 * j + 5) c_44) (Lib.byteCells (((pkL S ch fr).take j).flatten ++ [71, UInt8.ofNat ch, UInt8.ofNat (16 * (fr % 16) + j % 16), UInt8.ofNat fl, UInt8.ofNat m]))), (ownR w.heap.size 5 (.slice (some ⟨bs, 0, none⟩) S.length c_36) (Lib.byteCells S)), bx b_3 28 (ul u u.A u.c) true, bx b_1 23 [(.int .i64 rn), (.int .i64 rd)] true] [] := HP
     have H := H.as 75 (.slice B_43 (64 * j + 5) c_44) rfl hvv
     clear hxs hvv
     refine H.v 9 (.slice B_43 (64 * j + 5) c_44) fun a H => ?_
     refine wpList_nil ?_
     have H := H.keep (L' := [(9, (.slice B_43 (64 * j + 5) c_44)), (12, (.int .i64 ((fl : Nat) : Int))), (11, (.int .i64 ((m : Nat) : Int))), (10, (.int .i64 ((j : Nat) : Int))), (7, (.slice (some ⟨bs, 59 * j, none⟩) ln cl)), (3, (.pointer (some ⟨b_3, 0, none⟩)))]) (by kernel_rfl)
     have HP := HP.sub [1, 2, 3, 4] [(ownR w.heap.size 5 (.slice B_43 (64 * j + 5) c_44) (Lib.byteCells (((pkL S ch fr).take j).flatten ++ [71, UInt8.ofNat ch, UInt8.ofNat (16 * (fr % 16) + j % 16), UInt8.ofNat fl, UInt8.ofNat m]))), (ownR w.heap.size 5 (.slice (some ⟨bs, 0, none⟩) S.length c_36) (Lib.byteCells S)), bx b_3 28 (ul u u.A u.c) true, bx b_1 23 [(.int .i64 rn), (.int .i64 rd)] true] (by kernel_rfl) (by kernel_rfl)
     have hP1 : (((pkL S ch fr).take j).flatten ++ [71, UInt8.ofNat ch, UInt8.ofNat (16 * (fr % 16) + j % 16), UInt8.ofNat fl, UInt8.ofNat m]).length = 64 * j + 5 := by rw [List.length_append, hP0]; rfl
     refine then_normal (wp_seq (w_region ?_))
     refine H.v 76 (.slice B_43 (64 * j + 5) c_44) fun a H => ?_
     refine H.v 77 (.slice (some ⟨bs, 59 * j, none⟩) ln cl) fun a H => ?_
     refine H.v 78 (.int .i64 ((m : Nat) : Int)) fun a H => ?_
     refine H.u 79 (.slice (some ⟨bs, 59 * j, none⟩) m cl) (ex_sliceH (A := some ⟨bs, 59 * j, none⟩) (len := ln) (cap := cl) (k := .i64) (n := ((m : Nat) : Int)) (m := m) (sz := 1) (by kernel_rfl) (by kernel_rfl) (by kernel_rfl) (by kernel_rfl) (by omega) (by omega)) fun a H => ?_
     refine H.appR HP 80 0 (v := (.slice B_43 (64 * j + 5) c_44)) (xs := (Lib.byteCells (((pkL S ch fr).take j).flatten ++ [71, UInt8.ofNat ch, UInt8.ofNat (16 * (fr % 16) + j % 16), UInt8.ofNat fl, UInt8.ofNat m]))) 5 (z := (.int .u8 0)) (bytes := 1) (some ⟨bs, 59 * j, none⟩) (m) (cl) (Lib.byteCells ((S.drop (59 * j)).take m)) (by kernel_rfl) (by kernel_rfl) (by kernel_rfl) (by kernel_rfl) (by kernel_rfl) rfl (by kernel_rfl) (fun h => by cases h) (stream_sub (ownR_rd (HP.held 1 rfl)) (by omega)) (bytes_onec _) (by rw [byteCells_len, hP1]; unfold maxLen; omega) (by rw [byteCells_len, hP1]; omega) fun B_46 c_47 w_48 a H HP => ?_
     have HP : Hp w w_48 [(ownR w.heap.size 5 (.slice B_46 ((Lib.byteCells (((pkL S ch fr).take j).flatten ++ [71, UInt8.ofNat ch, UInt8.ofNat (16 * (fr % 16) + j % 16), UInt8.ofNat fl, UInt8.ofNat m])).length + m) c_47) (Lib.byteCells (((pkL S ch fr).take j).flatten ++ [71, UInt8.ofNat ch, UInt8.ofNat (16 * (fr % 16) + j % 16), UInt8.ofNat fl, UInt8.ofNat m]) ++ Lib.byteCells ((S.drop (59 * j)).take m))), (ownR w.heap.size 5 (.slice (some ⟨bs, 0, none⟩) S.length c_36) (Lib.byteCells S)), bx b_3 28 (ul u u.A u.c) true, bx b_1 23 [(.int .i64 rn), (.int .i64 rd)] true] [] := HP
     have hxs : Lib.byteCells (((pkL S ch fr).take j).flatten ++ [71, UInt8.ofNat ch, UInt8.ofNat (16 * (fr % 16) + j % 16), UInt8.ofNat fl, UInt8.ofNat m]) ++ Lib.byteCells ((S.drop (59 * j)).take m) = Lib.byteCells (((pkL S ch fr).take j).flatten ++ [71, UInt8.ofNat ch, UInt8.ofNat (16 * (fr % 16) + j % 16), UInt8.ofNat fl, UInt8.ofNat m] ++ (S.drop (59 * j)).take m) := (by rw [← byteCells_append])
     have hvv : ((.slice B_46 ((Lib.byteCells (((pkL S ch fr).take j).flatten ++ [71, UInt8.ofNat ch, UInt8.ofNat (16 * (fr % 16) + j % 16), UInt8.ofNat fl, UInt8.ofNat m])).length + m) c_47) : Value) = (.slice B_46 (64 * j + 5 + m) c_47) := by rw [show (Lib.byteCells (((pkL S ch fr).take j).flatten ++ [71, UInt8.ofNat ch, UInt8.ofNat (16 * (fr % 16) + j % 16), UInt8.ofNat fl, UInt8.ofNat m])).length + m = 64 * j + 5 + m from (by rw [byteCells_len, hP1])]
     rw [hxs, hvv] at HP
     have HP : Hp w w_48 [(ownR w.heap.size 5 (.slice B_46 (64 * j + 5 + m) c_47) (Lib.byteCells (((pkL S ch fr).take j).flatten ++ [71, UInt8.ofNat ch, UInt8.ofNat (16 * (fr % 16) + j % 16), UInt8.ofNat fl, UInt8.ofNat m] ++ (S.drop (59 * j)).take m))), (ownR w.heap.size 5 (.slice (some ⟨bs, 0, none⟩) S.length c_36) (Lib.byteCells S)), bx b_3 28 (ul u u.A u.c) true, bx b_1 23 [(.int .i64 rn), (.int .i64 rd)] true] [] := HP
     have H := H.as 80 (.slice B_46 (64 * j + 5 + m) c_47) rfl hvv
     clear hxs hvv
     refine H.v 9 (.slice B_46 (64 * j + 5 + m) c_47) fun a H => ?_
     refine wpList_nil (then_normal (wp_seq (wp_seq (w_region ?_))))
     refine H.v 81 (.int .i64 ((m : Nat) : Int)) fun a H => ?_
     refine H.v 13 (.int .i64 ((m : Nat) : Int)) fun a H => ?_
     refine wpList_nil (then_normal (wp_block ?_))
     have hP2 : (((pkL S ch fr).take j).flatten ++ [71, UInt8.ofNat ch, UInt8.ofNat (16 * (fr % 16) + j % 16), UInt8.ofNat fl, UInt8.ofNat m] ++ (S.drop (59 * j)).take m).length = 64 * j + 5 + m := by rw [List.length_append, hP1, List.length_take, List.length_drop]; omega
     refine w_loop (fun mm a wv => ∃ (q : Nat), ∃ (Bp : Option Addr), ∃ (cp : Nat), 59 - q = mm ∧ Sl 94 [(13, (.int .i64 ((q : Nat) : Int))), (9, (.slice Bp (64 * j + 5 + q) cp)), (11, (.int .i64 ((m : Nat) : Int))), (10, (.int .i64 ((j : Nat) : Int))), (7, (.slice (some ⟨bs, 59 * j, none⟩) ln cl)), (3, (.pointer (some ⟨b_3, 0, none⟩)))] a ∧ Hp w wv [(ownR w.heap.size 5 (.slice Bp (64 * j + 5 + q) cp) (Lib.byteCells (((pkL S ch fr).take j).flatten ++ [71, UInt8.ofNat ch, UInt8.ofNat (16 * (fr % 16) + j % 16), UInt8.ofNat fl, UInt8.ofNat m] ++ (S.drop (59 * j)).take m ++ List.replicate (q - m) 255))), (ownR w.heap.size 5 (.slice (some ⟨bs, 0, none⟩) S.length c_36) (Lib.byteCells S)), bx b_3 28 (ul u u.A u.c) true, bx b_1 23 [(.int .i64 rn), (.int .i64 rd)] true] [] ∧ (m ≤ q ∧ q ≤ 59)) (59 - m) ?_ ?_
     ·exact ⟨m, B_46, c_47, (by omega), H.keep (by kernel_rfl), (by rw [Nat.sub_self, List.replicate_zero, List.append_nil]; exact HP), by omega⟩
     rintro mm a w_49 ⟨q, Bp, cp, hmeas, H, HP, hq⟩
     have hP3 : (((pkL S ch fr).take j).flatten ++ [71, UInt8.ofNat ch, UInt8.ofNat (16 * (fr % 16) + j % 16), UInt8.ofNat fl, UInt8.ofNat m] ++ (S.drop (59 * j)).take m ++ List.replicate (q - m) 255).length = 64 * j + 5 + q := by rw [List.length_append, hP2, List.length_replicate]; omega
     refine wp_seq (wp_seq (w_region ?_))
     refine H.v 82 (.int .i64 ((q : Nat) : Int)) fun a H => ?_
     refine H.v 83 (.bool (decide (((q : Nat) : Int) < 59))) fun a H => ?_
     refine wpList_nil (then_normal ?_)
     refine w_if H rfl (fun g83 => ?_) (fun g83 => ?_)
     ·have g83p := of_decide_eq_true g83
      refine wp_skip (then_normal (wp_seq (wp_block (w_region ?_))))
      refine H.v 86 (.slice Bp (64 * j + 5 + q) cp) fun a H => ?_
      refine H.alloc HP 87 (fun b => (.slice (some ⟨b, 0, none⟩) 1 1)) 5 [(.int .u8 255)] (by kernel_rfl) (fun w => by kernel_rfl) fun b_50 w_51 a H HP => ?_
      refine H.appR HP 88 1 (v := (.slice Bp (64 * j + 5 + q) cp)) (xs := (Lib.byteCells (((pkL S ch fr).take j).flatten ++ [71, UInt8.ofNat ch, UInt8.ofNat (16 * (fr % 16) + j % 16), UInt8.ofNat fl, UInt8.ofNat m] ++ (S.drop (59 * j)).take m ++ List.replicate (q - m) 255))) 5 (z := (.int .u8 0)) (bytes := 1) (some ⟨b_50, 0, none⟩) (1) (1) ([(.int .u8 255)]) (by kernel_rfl) (by kernel_rfl) (by kernel_rfl) (by kernel_rfl) (by kernel_rfl) rfl (by kernel_rfl) (fun h => by cases h) (Rd.of_box (HP.at_ 0 rfl) rfl) (by kernel_rfl) (by rw [byteCells_len, hP3]; unfold maxLen; omega) (by rw [byteCells_len, hP3]; omega) fun B_52 c_53 w_54 a H HP => ?_
      have HP : Hp w w_54 [bx b_50 5 [(.int .u8 255)] true, (ownR w.heap.size 5 (.slice B_52 ((Lib.byteCells (((pkL S ch fr).take j).flatten ++ [71, UInt8.ofNat ch, UInt8.ofNat (16 * (fr % 16) + j % 16), UInt8.ofNat fl, UInt8.ofNat m] ++ (S.drop (59 * j)).take m ++ List.replicate (q - m) 255)).length + 1) c_53) (Lib.byteCells (((pkL S ch fr).take j).flatten ++ [71, UInt8.ofNat ch, UInt8.ofNat (16 * (fr % 16) + j % 16), UInt8.ofNat fl, UInt8.ofNat m] ++ (S.drop (59 * j)).take m ++ List.replicate (q - m) 255) ++ [(.int .u8 255)])), (ownR w.heap.size 5 (.slice (some ⟨bs, 0, none⟩) S.length c_36) (Lib.byteCells S)), bx b_3 28 (ul u u.A u.c) true, bx b_1 23 [(.int .i64 rn), (.int .i64 rd)] true] [] := HP
      have hxs : Lib.byteCells (((pkL S ch fr).take j).flatten ++ [71, UInt8.ofNat ch, UInt8.ofNat (16 * (fr % 16) + j % 16), UInt8.ofNat fl, UInt8.ofNat m] ++ (S.drop (59 * j)).take m ++ List.replicate (q - m) 255) ++ [(.int .u8 255)] = Lib.byteCells (((pkL S ch fr).take j).flatten ++ [71, UInt8.ofNat ch, UInt8.ofNat (16 * (fr % 16) + j % 16), UInt8.ofNat fl, UInt8.ofNat m] ++ (S.drop (59 * j)).take m ++ List.replicate (q + 1 - m) 255) := (by rw [rep_step hq.1, ← List.append_assoc, byteCells_append _ [255]]; rfl)
      have hvv : ((.slice B_52 ((Lib.byteCells (((pkL S ch fr).take j).flatten ++ [71, UInt8.ofNat ch, UInt8.ofNat (16 * (fr % 16) + j % 16), UInt8.ofNat fl, UInt8.ofNat m] ++ (S.drop (59 * j)).take m ++ List.replicate (q - m) 255)).length + 1) c_53) : Value) = (.slice B_52 (64 * j + 5 + (q + 1)) c_53) := by rw [show (Lib.byteCells (((pkL S ch fr).take j).flatten ++ [71, UInt8.ofNat ch, UInt8.ofNat (16 * (fr % 16) + j % 16), UInt8.ofNat fl, UInt8.ofNat m] ++ (S.drop (59 * j)).take m ++ List.replicate (q - m) 255)).length + 1 = 64 * j + 5 + (q + 1) from (by rw [byteCells_len, hP3]; omega)]
      rw [hxs, hvv] at HP
      have HP : Hp w w_54 [bx b_50 5 [(.int .u8 255)] true, (ownR w.heap.size 5 (.slice B_52 (64 * j + 5 + (q + 1)) c_53) (Lib.byteCells (((pkL S ch fr).take j).flatten ++ [71, UInt8.ofNat ch, UInt8.ofNat (16 * (fr % 16) + j % 16), UInt8.ofNat fl, UInt8.ofNat m] ++ (S.drop (59 * j)).take m ++ List.replicate (q + 1 - m) 255))), (ownR w.heap.size 5 (.slice (some ⟨bs, 0, none⟩) S.length c_36) (Lib.byteCells S)), bx b_3 28 (ul u u.A u.c) true, bx b_1 23 [(.int .i64 rn), (.int .i64 rd)] true] [] := HP
      have H := H.as 88 (.slice B_52 (64 * j + 5 + (q + 1)) c_53) rfl hvv
      clear hxs hvv
      refine H.v 9 (.slice B_52 (64 * j + 5 + (q + 1)) c_53) fun a H => ?_
      refine wpList_nil (inb_normal (then_normal (w_region ?_)))
      refine H.v 84 (.int .i64 ((q : Nat) : Int)) fun a H => ?_
      refine H.valE 85 (.int .i64 (IntKind.i64.wrap (((q : Nat) : Int) + 1))) (.int .i64 (((q : Nat) : Int) + 1)) (by kernel_rfl) (by kernel_rfl) ((by rw [wrap_ini64 _ (by omega)])) fun a H => ?_
      refine H.v 13 (.int .i64 (((q : Nat) : Int) + 1)) fun a H => ?_
      refine wpList_nil (then_normal ?_)
      have HP := HP.sub [1, 2, 3, 4] [(ownR w.heap.size 5 (.slice B_52 (64 * j + 5 + (q + 1)) c_53) (Lib.byteCells (((pkL S ch fr).take j).flatten ++ [71, UInt8.ofNat ch, UInt8.ofNat (16 * (fr % 16) + j % 16), UInt8.ofNat fl, UInt8.ofNat m] ++ (S.drop (59 * j)).take m ++ List.replicate (q + 1 - m) 255))), (ownR w.heap.size 5 (.slice (some ⟨bs, 0, none⟩) S.length c_36) (Lib.byteCells S)), bx b_3 28 (ul u u.A u.c) true, bx b_1 23 [(.int .i64 rn), (.int .i64 rd)] true] (by kernel_rfl) (by kernel_rfl)
      have H := H.as 13 (.int .i64 ((q + 1 : Nat) : Int)) rfl rfl
      refine ⟨_, ?_, q + 1, B_52, c_53, rfl, H.keep (by kernel_rfl), HP, by omega⟩
      omega
     ·have g83p := of_decide_eq_false g83
      refine wp_exit (then_exit (then_exit ?_))
      refine w_exit_here ?_
      refine then_normal (w_region ?_)
      refine H.v 89 (.slice (some ⟨bs, 59 * j, none⟩) ln cl) fun a H => ?_
      refine H.v 90 (.int .i64 ((m : Nat) : Int)) fun a H => ?_
      refine H.u 91 (.slice (if cl = m then some ⟨bs, 59 * j, none⟩ else some ⟨bs, 59 * j + m, none⟩) (ln - m) (cl - m)) (ex_sliceLo (b := bs) (off := 59 * j) (len := ln) (cap := cl) (i := m) (lo := ((m : Nat) : Int)) (by kernel_rfl) (by kernel_rfl) (by kernel_rfl) (by kernel_rfl) rfl (by omega) (by omega)) fun a H => ?_
      refine H.v 7 (.slice (if cl = m then some ⟨bs, 59 * j, none⟩ else some ⟨bs, 59 * j + m, none⟩) (ln - m) (cl - m)) fun a H => ?_
      refine wpList_nil (inb_normal (then_normal (w_region ?_)))
      refine H.v 45 (.int .i64 ((j : Nat) : Int)) fun a H => ?_
      refine H.valE 46 (.int .i64 (IntKind.i64.wrap (((j : Nat) : Int) + 1))) (.int .i64 (((j : Nat) : Int) + 1)) (by kernel_rfl) (by kernel_rfl) ((by rw [wrap_ini64 _ (by omega)])) fun a H => ?_
      refine H.v 10 (.int .i64 (((j : Nat) : Int) + 1)) fun a H => ?_
      refine wpList_nil (then_normal ?_)
      have e64 : 64 * j + 5 + 59 = 64 * (j + 1) := by omega
      have hq59 : q = 59 := by omega
      subst hq59
      rw [e64] at H HP
      rw [pk_step hNe (by omega) hm1 hfl] at HP
      have H := H.as 10 (.int .i64 ((j + 1 : Nat) : Int)) rfl rfl
      refine ⟨_, ?_, j + 1, _, ln - m, cl - m, Bp, cp, rfl, H.keep (by kernel_rfl), HP, by omega, by omega, (fun h => slice_adv (m := m) (cl := cl) (L := S.length) (by omega) hm1 (by omega)), by omega⟩
      omega
  ·have g44p := of_decide_eq_false g44
   refine wp_exit (then_exit (then_exit ?_))
   refine w_exit_here ?_
   refine then_normal (wp_seq (w_region ?_))
   refine H.v 92 (.slice Bo (64 * j) co) fun a H => ?_
   refine H.valE 93 (.string (bstr (((pkL S ch fr).take j).flatten))) (.string (bstr ((pktsU rn rd u).flatten))) (by kernel_rfl) (ex_b2sB (l := ((pkL S ch fr).take j).flatten) (e := 5) (m := 64 * j) (c := co) (by kernel_rfl) (by have hh := ownR_rd (HP.held 0 rfl); rw [byteCells_len, pk_take_len hNe hj] at hh; exact hh) (by omega) (by kernel_rfl) (by kernel_rfl) (by kernel_rfl)) ((congrArg (fun x => Value.string (bstr x)) (by rw [show j = N by omega]; exact hpks))) fun a H => ?_
   refine H.v 4 (.string (bstr ((pktsU rn rd u).flatten))) fun a H => ?_
   refine H.v 5 (.int .i64 0) fun a H => ?_
   refine wpList_nil (then_normal (wp_ret ?_))
   refine H.ret2 (fn := Tryd.f17) Tryd.results17 (RV.tmp_ (v := (.string (bstr ((pktsU rn rd u).flatten)))) (by kernel_rfl)) (RV.tmp_ (v := (.int .i64 0)) (by kernel_rfl)) ?_
   exact ⟨by unfold packP; rw [hr, hv]; rfl, (HP.below (by kernel_rfl))⟩
theorem rpack_any (rn rd : Int) (u : Un) (w : World) (hu : IsAlts w u.A u.al.length u.al) (hcap : u.al.length ≤ u.c) (hmax : u.c ≤ maxLen) :
  Calls Tryd.prog 17 #[.agg #[.int .i64 rn, .int .i64 rd], u.val] w fun e w' => e = .returned (packV (packP rn rd u)) ∧ Below w.heap.size w w' := by
 cases hr : rateOk rn rd with
 | false => exact rpack_rate rn rd u w hu hcap hmax hr
 | true =>
  cases hv : validU u with
  | false => exact rpack_val rn rd u w hu hcap hmax hr hv
  | true => exact rpack_ok rn rd u w hu hcap hmax hr hv

end Go.Proofs.YtgdjpaeclicdfaaDoor
