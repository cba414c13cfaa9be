/- Contract of the iterator of transport.packets: it goes over packets. -/
import Derived.Test.YtgdjpaeclicdfaaDoorSymE
import Derived.Test.YtgdjpaeclicdfaaDoorTrF
namespace Go.Proofs.YtgdjpaeclicdfaaDoor
open Go.ChangeShapes Go.WideShapes Go.ChangeAt Go.RowKit Go.Shelf
set_option linter.unusedVariables false
set_option linter.unusedSimpArgs false

/-- A packet. -/
abbrev Pk := {x : List UInt8 // x.length = 64}
def pktN (S : List UInt8) : Nat := (S.length + 58) / 59
/-- Packet j of the stream S, of N packets. -/
def pktAt (S : List UInt8) (ch fr N j : Nat) : List UInt8 := [71, UInt8.ofNat ch, UInt8.ofNat (16 * (fr % 16) + j % 16), UInt8.ofNat (flagsP N j), UInt8.ofNat (min 59 (S.length - 59 * j))] ++ (S.drop (59 * j)).take 59 ++ List.replicate (59 - (S.length - 59 * j)) 255
theorem pktAt_len {S : List UInt8} {ch fr N j : Nat} (h : 59 * j ≤ S.length) : (pktAt S ch fr N j).length = 64 := by
 unfold pktAt
 simp only [List.length_append, List.length_cons, List.length_nil, List.length_take, List.length_drop, List.length_replicate]
 omega
def streamU (rn rd : Int) (u : Un) : List UInt8 := clockP (ticksP rn rd u.frame).toNat ++ bodyP u
def pktsU (rn rd : Int) (u : Un) : List (List UInt8) := (List.range (pktN (streamU rn rd u))).map (pktAt (streamU rn rd u) u.channel.toNat u.frame.toNat (pktN (streamU rn rd u)))
theorem ticks_nat (rn rd fr : Int) : ∃ tk : Nat, ticksP rn rd fr = ((tk : Nat) : Int) ∧ tk < 8589934592 := by
 unfold ticksP
 generalize fr * 90000 * rd / rn = x
 exact ⟨(x % 8589934592).toNat, by omega, by omega⟩
theorem encStr_len (l : List UInt8) : (encStr l).length ≤ 9 + l.length := by
 unfold encStr
 rw [List.length_append]
 have := (encInt_len ((l.length : Nat) : Int)).2
 omega
theorem streamU_len {rn rd : Int} {u : Un} (h : validU u = true) : (streamU rn rd u).length ≤ 720 := by
 obtain ⟨hvf, hvo⟩ := validU_facts h
 have h1 := encOpt_len hvo
 have h2 := encStr_len (encOpt u.os u.of u.al)
 have h3 := encStr_len u.data
 have h4 := encStr_len u.caption
 have h5 := encInts_len [u.channel, u.frame, u.version, u.item, u.index, if u.key = true then 1 else 0]
 have h6 := encInts_len [u.regions, u.gain]
 have h7 := (encInt_len ((sumP (contentP u) : Nat) : Int)).2
 have h8 : (clockP (ticksP rn rd u.frame).toNat).length = 5 := rfl
 unfold streamU bodyP
 rw [List.length_append, List.length_append, h8]
 have h9 : (contentP u).length = (encInts [u.channel, u.frame, u.version, u.item, u.index, if u.key = true then 1 else 0]).length + (encStr u.data).length + (encInts [u.regions, u.gain]).length + (encStr u.caption).length + (encStr (encOpt u.os u.of u.al)).length := by
  unfold contentP
  simp only [List.length_append]
 simp only [List.length_cons, List.length_nil] at h5 h6
 omega
/-- What a round keeps for the iterator: the variable's block. -/
def KpU (b : Nat) (W W' : World) : Prop := W.heap.size ≤ W'.heap.size ∧ W'.heap[b]? = W.heap[b]?
theorem KpU.trans {b : Nat} {A B C : World} (h : KpU b A B) (k : KpU b B C) : KpU b A C := ⟨Nat.le_trans h.1 k.1, k.2.trans h.2⟩
theorem KpU.below {b : Nat} {W W' : World} (h : Below W.heap.size W W') (hb : b < W.heap.size) : KpU b W W' := ⟨h.size, h.block b hb⟩
theorem KpU.box {b : Nat} {W W' : World} {t : TypeId} {vs : Array Value} (h : KpU b W W') (hx : Box W b t vs) : Box W' b t vs := h.2.trans hx
theorem KpU.put {b : Nat} (W : World) (l : Nat) (o o' : Obj) (hl : b ≠ l) : KpU b W (W.putObj l o') := ⟨by simp, World.putObj_heap_other hl⟩
theorem boxCells {w : World} {b : Nat} {t : TypeId} {vs : List Value} (h : Box w b t vs.toArray) : cellsAt w b 0 vs := fun i v hv => by
 rw [Nat.zero_add]
 exact h.cell (by simpa using hv)
theorem pk_cells {c1 c2 c3 n : Nat} {s : List UInt8} (h1 : c1 < 256) (h2 : c2 < 256) (h3 : c3 < 256) (h4 : n < 256) (hs : s.length = n) (hn : n ≤ 59) :
  (Value.int .u8 71 :: .int .u8 ((c1 : Nat) : Int) :: .int .u8 ((c2 : Nat) : Int) :: .int .u8 ((c3 : Nat) : Int) :: .int .u8 ((n : Nat) : Int) :: List.replicate 59 (Value.int .u8 0)).take 5 ++ Lib.byteCells s ++ (Value.int .u8 71 :: .int .u8 ((c1 : Nat) : Int) :: .int .u8 ((c2 : Nat) : Int) :: .int .u8 ((c3 : Nat) : Int) :: .int .u8 ((n : Nat) : Int) :: List.replicate 59 (Value.int .u8 0)).drop (5 + s.length) =
   Lib.byteCells ([71, UInt8.ofNat c1, UInt8.ofNat c2, UInt8.ofNat c3, UInt8.ofNat n] ++ s ++ (List.replicate 0 255 ++ List.replicate (59 - n - 0) 0)) := by
 subst hs
 have e : ∀ k, k < 256 → (UInt8.ofNat k).toNat = k := fun k h => ofNat_toNat h
 rw [show ∀ (a b c d e : Value) (l : List Value), (a :: b :: c :: d :: e :: l).drop (5 + s.length) = l.drop s.length from fun a b c d e l => by rw [Nat.add_comm]; rfl]
 simp only [Lib.byteCells, List.map_append, List.map_cons, List.map_nil, List.map_replicate, e _ h1, e _ h2, e _ h3, e _ h4, List.drop_replicate, List.take_succ_cons, List.take_zero, List.replicate_zero, List.nil_append, Nat.sub_zero]
 rfl
theorem pk_set {s : List UInt8} {a b c d e : UInt8} {n i : Nat} (hs : s.length = n) (hi : i < 59 - n) :
  (Lib.byteCells ([a, b, c, d, e] ++ s ++ (List.replicate i 255 ++ List.replicate (59 - n - i) 0))).set (0 + (5 + n + i) * 1) (.int .u8 255) = Lib.byteCells ([a, b, c, d, e] ++ s ++ (List.replicate (i + 1) 255 ++ List.replicate (59 - n - (i + 1)) 0)) := by
 rw [show 59 - n - i = (59 - n - (i + 1)) + 1 by omega, List.replicate_succ, List.replicate_succ']
 rw [show [a, b, c, d, e] ++ s ++ (List.replicate i 255 ++ (0 :: List.replicate (59 - n - (i + 1)) 0)) = ([a, b, c, d, e] ++ s ++ List.replicate i 255) ++ (0 :: List.replicate (59 - n - (i + 1)) 0) by simp]
 rw [byteCells_append, List.set_append_right _ _ (by rw [byteCells_len]; simp; omega)]
 rw [show 0 + (5 + n + i) * 1 - (Lib.byteCells ([a, b, c, d, e] ++ s ++ List.replicate i 255)).length = 0 by rw [byteCells_len]; simp; omega]
 simp [Lib.byteCells]
theorem drop_next {S s : List UInt8} {j n : Nat} (hs : S.drop (59 * j) = s) (hn : n = s.length ∨ n = 59 ∧ 59 ≤ s.length) (hn3 : n ≤ 59) : s.drop n = S.drop (59 * (j + 1)) := by
 rw [Nat.mul_add, ← List.drop_drop, hs]
 rcases hn with h | ⟨h, _⟩
 ·rw [List.drop_of_length_le (by omega), List.drop_of_length_le (by omega)]
 ·rw [h]
theorem pkt_eq {S s : List UInt8} {ch fr N j n fl : Nat} (hs : S.drop (59 * j) = s) (hsl : s.length = S.length - 59 * j) (hn : n = s.length ∨ n = 59 ∧ 59 ≤ s.length) (hn3 : n ≤ 59) (hfl : fl = flagsP N j) :
  [71, UInt8.ofNat ch, UInt8.ofNat (16 * (fr % 16) + j % 16), UInt8.ofNat fl, UInt8.ofNat n] ++ s.take n ++ (List.replicate (59 - n) 255 ++ List.replicate (59 - n - (59 - n)) 0) = pktAt S ch fr N j := by
 unfold pktAt
 rw [Nat.sub_self, List.replicate_zero, List.append_nil, hs, hfl, ← hsl, show min 59 s.length = n by omega, show 59 - n = 59 - s.length by omega]
 congr 2
 rcases hn with h | ⟨h, _⟩
 ·rw [List.take_of_length_le (by omega), List.take_of_length_le (by omega)]
 ·rw [h]
set_option maxRecDepth 100000 in
set_option maxHeartbeats 4000000 in
theorem packets1_any (m l Br Bu : Nat) (rn rd : Int) (u : Un) (J Jx : List Pk → World → Prop) (w : World) (hL : Laid w) (hrv : rateOk rn rd = true) (hu : IsAlts w u.A u.al.length u.al) (hv : validU u = true)
  (hB1 : Box w Br 23 #[.int .i64 rn, .int .i64 rd]) (hB2 : Box w Bu 28 u.cells) (hJo : OwnFrom w.heap.size J) (h0 : J [] w)
  (hY : ∀ pre x W1, J pre W1 → pre.length < pktN (streamU rn rd u) → YieldAt Fence.wide m Tryd.prog l #[.agg (Lib.byteCells x.1).toArray] W1 fun e W' => ∃ b, e = .returned (.bool b) ∧ (b = true → J (pre ++ [x]) W') ∧ (b = false → Jx (pre ++ [x]) W') ∧ KpU Bu W1 W') :
  Calls Tryd.prog 51 #[.func (.yield l) #[] #[], .pointer (some ⟨Br, 0, none⟩), .pointer (some ⟨Bu, 0, none⟩)] w fun e W' => (∃ v, e = .returned v) ∧ ((∃ xs : List Pk, xs.map (·.1) = pktsU rn rd u ∧ J xs W') ∨ ∃ pre, Jx pre W') := by
 have hvf := (validU_facts hv).1
 have hfr : 0 ≤ u.frame ∧ u.frame ≤ 100000000 := by omega
 obtain ⟨tk, htk, htb⟩ := ticks_nat rn rd u.frame
 obtain ⟨ch, hch⟩ : ∃ ch : Nat, u.channel = ((ch : Nat) : Int) := ⟨u.channel.toNat, by omega⟩
 obtain ⟨fr, hfrn⟩ : ∃ fr : Nat, u.frame = ((fr : Nat) : Int) := ⟨u.frame.toNat, by omega⟩
 have hchb : ch < 40 := by omega
 have hfrb : fr ≤ 100000000 := by omega
 obtain ⟨S, hS⟩ : ∃ S, streamU rn rd u = S := ⟨_, rfl⟩
 have hS0 : clockP tk ++ bodyP u = S := by rw [← hS]; unfold streamU; rw [htk]; rfl
 have hpk : pktsU rn rd u = (List.range (pktN S)).map (pktAt S ch fr (pktN S)) := by unfold pktsU; rw [hS, hch, hfrn]; rfl
 rw [hpk]
 rw [hS] at hY
 obtain ⟨N, hN⟩ : ∃ N, pktN S = N := ⟨_, rfl⟩
 rw [hN] at hY ⊢
 have hNN : S.length ≤ 59 * N ∧ 59 * N < S.length + 59 := by unfold pktN at hN; omega
 have hSl : S.length ≤ 720 := by rw [← hS]; exact streamU_len hv
 have hSl2 : (clockP tk).length + (bodyP u).length ≤ 720 := by have := hSl; rw [← hS0, List.length_append] at this; exact this
 clear hvf hS hN hpk
 have HP := Hp.start w
 refine w_enter 79 [(0, (.func (.yield l) #[] #[])), (1, (.pointer (some ⟨Br, 0, none⟩))), (2, (.pointer (some ⟨Bu, 0, none⟩)))] Tryd.func51 rfl Tryd.ntmps51 (by kernel_rfl) (by kernel_rfl) fun a H => ?_
 refine wp_seq ?_
 refine An.start (fun v => Hp w v [] []) 9 9 HP wide_follows rfl fun w_1 HP => ?_
 refine An.val H (HP) 0 9 (.agg #[(.int .i64 rn), (.int .i64 rd)]) rfl (by kernel_rfl) (by kernel_rfl) (fun _ _ _ h => h) (fun _ hS => ex_loadN (vs := [(.int .i64 rn), (.int .i64 rd)]) (by kernel_rfl) (by kernel_rfl) (by kernel_rfl) rfl (boxCells (hB1.next (hS.below (by kernel_rfl))))) fun a H => ?_
 refine An.p H (.inr HP) 1 10 (.pointer (some ⟨Bu, 1, none⟩)) fun a H => ?_
 refine An.val H (HP) 2 11 (.int .i64 u.frame) rfl (by kernel_rfl) (by kernel_rfl) (fun _ _ _ h => h) (fun _ hS => ex_load1 (by kernel_rfl) (by kernel_rfl) (hS.oldc (by kernel_rfl) (hB2.cell (i := 1) rfl))) fun a H => ?_
 refine An.val H (HP) 5 14 (.agg (ua u u.A u.c)) rfl (by kernel_rfl) (by kernel_rfl) (fun _ _ _ h => h) (fun _ hS => ex_loadN (vs := (ul u u.A u.c)) (by kernel_rfl) (by kernel_rfl) (by kernel_rfl) rfl (boxCells (hB2.next (hS.below (by kernel_rfl))))) fun a H => ?_
 refine An.one 3 (by kernel_rfl) ?_
 refine Op.call H 12 rfl (by kernel_rfl) (Eq.trans (by kernel_rfl : _ = (callFunc 26 #[(.agg #[(.int .i64 rn), (.int .i64 rd)]), (.int .i64 u.frame)]).run Tryd.prog w_1) (Tryd.call26 _ _)) ((by have hh := ticks_any rn rd u.frame w_1 (hL.below (HP.below (by kernel_rfl))) hrv hfr; rw [htk] at hh; exact hh)) ?_
 rintro e w_2 ⟨rfl, hb⟩
 refine ⟨_, rfl, ?_⟩
 intro a H
 have HP := HP.next hb
 refine ⟨.inr (HP), ?_⟩
 refine An.one 4 (by kernel_rfl) ?_
 refine Op.call H 13 rfl (by kernel_rfl) (Eq.trans (by kernel_rfl : _ = (callFunc 52 #[(.int .i64 ((tk : Nat) : Int))]).run Tryd.prog w_2) (Tryd.call52 _ _)) (clock_any tk w_2 (by omega)) ?_
 rintro e w_3 ⟨rfl, hb⟩
 refine ⟨_, rfl, ?_⟩
 intro a H
 have HP := HP.next hb
 refine ⟨.inr (HP), ?_⟩
 refine An.one 6 (by kernel_rfl) ?_
 refine Op.call H 15 rfl (by kernel_rfl) (Eq.trans (by kernel_rfl : _ = (callFunc 53 #[(.agg (ua u u.A u.c))]).run Tryd.prog w_3) (Tryd.call53 _ _)) (body_any u w_3 (hL.below (HP.below (by kernel_rfl))) (hu.below (HP.below (by kernel_rfl))) hv) ?_
 rintro e w_4 ⟨rfl, hb⟩
 refine ⟨_, rfl, ?_⟩
 intro a H
 have HP := HP.next hb
 refine ⟨.inr (HP), ?_⟩
 refine An.pure H (.inr (HP)) 7 16 (.string (bstr ((clockP tk) ++ (bodyP u)))) rfl (by kernel_rfl) (by kernel_rfl) (fun _ _ _ h => h) (fun _ => ex_sadd (by kernel_rfl) (by kernel_rfl) (by omega)) fun a H => ?_
 refine An.p H (.inr HP) 8 4 (.string (bstr ((clockP tk) ++ (bodyP u)))) fun a H => ?_
 refine An.done (by kernel_rfl) ?_
 rw [hS0] at H
 have H := H.keep (L' := [(4, (.string (bstr S))), (0, (.func (.yield l) #[] #[])), (1, (.pointer (some ⟨Br, 0, none⟩))), (2, (.pointer (some ⟨Bu, 0, none⟩)))]) (by kernel_rfl)
 have hbel := (HP.below (by kernel_rfl))
 refine then_normal (wp_seq (w_region ?_))
 refine H.v 5 (.int .i64 0) fun a H => ?_
 refine wpList_nil (then_normal (wp_block ?_))
 refine w_loop (fun mm a wv => ∃ (j : Nat), ∃ (pre : List Pk), N - j = mm ∧ Sl 79 [(5, (.int .i64 ((j : Nat) : Int))), (4, (.string (bstr (S.drop (59 * j))))), (0, (.func (.yield l) #[] #[])), (2, (.pointer (some ⟨Bu, 0, none⟩)))] a ∧ Hp wv wv [] [] ∧ (j ≤ N) ∧ (pre.map (·.1) = (List.range j).map (pktAt S ch fr N)) ∧ (J pre wv) ∧ (KpU Bu w wv)) (N - 0) ?_ ?_
 ·exact ⟨0, [], (by omega), H.keep (by kernel_rfl), Hp.start _, by omega, rfl, OwnFrom.below hJo h0 hbel, KpU.below hbel hB2.lt⟩
 rintro mm a w_5 ⟨j, pre, hmeas, H, HP, hj, hpre, hjs, hkc⟩
 have hpl : pre.length = j := by have := congrArg List.length hpre; simpa using this
 have HU := hkc.box hB2
 have c0 : w_5.cell? ⟨Bu, 0, none⟩ = some (.int .i64 ((ch : Nat) : Int)) := by rw [← hch]; exact HU.cell (i := 0) rfl
 have c1 : w_5.cell? ⟨Bu, 1, none⟩ = some (.int .i64 ((fr : Nat) : Int)) := by rw [← hfrn]; exact HU.cell (i := 1) rfl
 obtain ⟨s, hs⟩ : ∃ s, S.drop (59 * j) = s := ⟨_, rfl⟩
 have hsl : s.length = S.length - 59 * j := by rw [← hs, List.length_drop]
 rw [hs] at H
 refine wp_seq (wp_seq (w_region ?_))
 refine H.v 17 (.string (bstr s)) fun a H => ?_
 refine H.v 18 (.int .i64 ((s.length : Nat) : Int)) fun a H => ?_
 refine H.v 19 (.bool (decide (((s.length : Nat) : Int) > 0))) fun a H => ?_
 refine wpList_nil (then_normal ?_)
 refine w_if H rfl (fun g19 => ?_) (fun g19 => ?_)
 ·have g19p := of_decide_eq_true g19
  refine wp_skip (then_normal (wp_seq (wp_block (wp_seq (w_region ?_)))))
  refine H.v 22 (.string (bstr s)) fun a H => ?_
  refine H.v 23 (.int .i64 ((s.length : Nat) : Int)) fun a H => ?_
  refine H.valE 24 (.int .i64 (if ((s.length : Nat) : Int) < 59 then ((s.length : Nat) : Int) else 59)) (.int .i64 (min 59 ((s.length : Nat) : Int))) (by kernel_rfl) (by kernel_rfl) ((congrArg (Value.int .i64) (min_if _ _))) fun a H => ?_
  refine H.v 6 (.int .i64 (min 59 ((s.length : Nat) : Int))) fun a H => ?_
  refine wpList_nil ?_
  obtain ⟨n, hn1, hn3, hn12⟩ : ∃ n : Nat, min (59 : Int) ((s.length : Nat) : Int) = ((n : Nat) : Int) ∧ n ≤ 59 ∧ (n = s.length ∨ n = 59 ∧ 59 ≤ s.length) := ⟨min 59 s.length, by omega, by omega, by omega⟩
  have H := H.as 6 (.int .i64 ((n : Nat) : Int)) rfl (congrArg (Value.int .i64) (by omega))
  refine then_normal (wp_seq (w_region ?_))
  refine H.alloc HP 7 (fun b => (.pointer (some ⟨b, 0, none⟩))) 64 [(.int .u8 0), (.int .u8 0), (.int .u8 0), (.int .u8 0), (.int .u8 0), (.int .u8 0), (.int .u8 0), (.int .u8 0), (.int .u8 0), (.int .u8 0), (.int .u8 0), (.int .u8 0), (.int .u8 0), (.int .u8 0), (.int .u8 0), (.int .u8 0), (.int .u8 0), (.int .u8 0), (.int .u8 0), (.int .u8 0), (.int .u8 0), (.int .u8 0), (.int .u8 0), (.int .u8 0), (.int .u8 0), (.int .u8 0), (.int .u8 0), (.int .u8 0), (.int .u8 0), (.int .u8 0), (.int .u8 0), (.int .u8 0), (.int .u8 0), (.int .u8 0), (.int .u8 0), (.int .u8 0), (.int .u8 0), (.int .u8 0), (.int .u8 0), (.int .u8 0), (.int .u8 0), (.int .u8 0), (.int .u8 0), (.int .u8 0), (.int .u8 0), (.int .u8 0), (.int .u8 0), (.int .u8 0), (.int .u8 0), (.int .u8 0), (.int .u8 0), (.int .u8 0), (.int .u8 0), (.int .u8 0), (.int .u8 0), (.int .u8 0), (.int .u8 0), (.int .u8 0), (.int .u8 0), (.int .u8 0), (.int .u8 0), (.int .u8 0), (.int .u8 0), (.int .u8 0)] (by kernel_rfl) (fun w => by kernel_rfl) fun b_6 w_7 a H HP => ?_
  refine wpList_nil ?_
  have HP : Hp w_5 w_7 [bx b_6 64 ((.int .u8 0) :: (.int .u8 0) :: (.int .u8 0) :: (.int .u8 0) :: (.int .u8 0) :: List.replicate 59 (.int .u8 0)) true] [] := HP
  refine then_normal (wp_seq (w_region ?_))
  refine H.v 25 (.pointer (some ⟨b_6, 0, none⟩)) fun a H => ?_
  refine H.store HP 0 b_6 0 1 64 _ true (.int .u8 71) [bx b_6 64 ((.int .u8 71) :: (.int .u8 0) :: (.int .u8 0) :: (.int .u8 0) :: (.int .u8 0) :: List.replicate 59 (.int .u8 0)) true] (by kernel_rfl) (by kernel_rfl) (by kernel_rfl) rfl (by kernel_rfl) (by kernel_rfl) (by kernel_rfl) (by kernel_rfl) (by kernel_rfl) fun w_8 a H HP => ?_
  refine wpList_nil (then_normal (wp_seq (w_region ?_)))
  refine H.v 26 (.pointer (some ⟨Bu, 0, none⟩)) fun a H => ?_
  refine H.u 27 (.int .i64 ((ch : Nat) : Int)) (ex_load1 (by kernel_rfl) (by kernel_rfl) (HP.oldc (by kernel_rfl) c0)) fun a H => ?_
  refine H.valE 28 (.int .u8 (IntKind.u8.wrap ((ch : Nat) : Int))) (.int .u8 ((ch : Nat) : Int)) (by kernel_rfl) (by kernel_rfl) ((by rw [wrap_inu8 _ (by omega)])) fun a H => ?_
  refine H.v 29 (.pointer (some ⟨b_6, 1, none⟩)) fun a H => ?_
  refine H.store HP 0 b_6 1 1 64 _ true (.int .u8 ((ch : Nat) : Int)) [bx b_6 64 ((.int .u8 71) :: (.int .u8 ((ch : Nat) : Int)) :: (.int .u8 0) :: (.int .u8 0) :: (.int .u8 0) :: List.replicate 59 (.int .u8 0)) true] (by kernel_rfl) (by kernel_rfl) (by kernel_rfl) rfl (by kernel_rfl) (by kernel_rfl) (by kernel_rfl) (by kernel_rfl) (by kernel_rfl) fun w_9 a H HP => ?_
  refine wpList_nil (then_normal (wp_seq (w_region ?_)))
  refine H.v 30 (.pointer (some ⟨Bu, 1, none⟩)) fun a H => ?_
  refine H.u 31 (.int .i64 ((fr : Nat) : Int)) (ex_load1 (by kernel_rfl) (by kernel_rfl) (HP.oldc (by kernel_rfl) c1)) fun a H => ?_
  refine H.valE 32 (.int .i64 (((fr : Nat) : Int).tmod 16)) (.int .i64 ((fr % 16 : Nat) : Int)) (by kernel_rfl) (by kernel_rfl) ((by rw [tmod_nn _ _ (by omega)]; exact congrArg (Value.int .i64) (by omega))) fun a H => ?_
  refine H.valE 33 (.int .i64 (IntKind.i64.wrap (16 * ((fr % 16 : Nat) : Int)))) (.int .i64 ((16 * (fr % 16) : Nat) : Int)) (by kernel_rfl) (by kernel_rfl) ((by rw [wrap_ini64 _ (by omega)]; exact congrArg (Value.int .i64) (by omega))) fun a H => ?_
  refine H.v 34 (.int .i64 ((j : Nat) : Int)) fun a H => ?_
  refine H.valE 35 (.int .i64 (((j : Nat) : Int).tmod 16)) (.int .i64 ((j % 16 : Nat) : Int)) (by kernel_rfl) (by kernel_rfl) ((by rw [tmod_nn _ _ (by omega)]; exact congrArg (Value.int .i64) (by omega))) fun a H => ?_
  refine H.valE 36 (.int .i64 (IntKind.i64.wrap (((16 * (fr % 16) : Nat) : Int) + ((j % 16 : Nat) : Int)))) (.int .i64 ((16 * (fr % 16) + j % 16 : Nat) : Int)) (by kernel_rfl) (by kernel_rfl) ((by rw [wrap_ini64 _ (by omega)]; exact congrArg (Value.int .i64) (by omega))) fun a H => ?_
  refine H.valE 37 (.int .u8 (IntKind.u8.wrap ((16 * (fr % 16) + j % 16 : Nat) : Int))) (.int .u8 ((16 * (fr % 16) + j % 16 : Nat) : Int)) (by kernel_rfl) (by kernel_rfl) ((by rw [wrap_inu8 _ (by omega)])) fun a H => ?_
  refine H.v 38 (.pointer (some ⟨b_6, 2, none⟩)) fun a H => ?_
  refine H.store HP 0 b_6 2 1 64 _ true (.int .u8 ((16 * (fr % 16) + j % 16 : Nat) : Int)) [bx b_6 64 ((.int .u8 71) :: (.int .u8 ((ch : Nat) : Int)) :: (.int .u8 ((16 * (fr % 16) + j % 16 : Nat) : Int)) :: (.int .u8 0) :: (.int .u8 0) :: List.replicate 59 (.int .u8 0)) true] (by kernel_rfl) (by kernel_rfl) (by kernel_rfl) rfl (by kernel_rfl) (by kernel_rfl) (by kernel_rfl) (by kernel_rfl) (by kernel_rfl) fun w_10 a H HP => ?_
  refine wpList_nil (then_normal ?_)
  refine w_cut (fun a wv => ∃ (f0 : Nat), Sl 79 [(5, (.int .i64 ((j : Nat) : Int))), (4, (.string (bstr s))), (0, (.func (.yield l) #[] #[])), (2, (.pointer (some ⟨Bu, 0, none⟩))), (6, (.int .i64 ((n : Nat) : Int))), (7, (.pointer (some ⟨b_6, 0, none⟩)))] a ∧ Hp w_5 wv [bx b_6 64 ((.int .u8 71) :: (.int .u8 ((ch : Nat) : Int)) :: (.int .u8 ((16 * (fr % 16) + j % 16 : Nat) : Int)) :: (.int .u8 ((f0 : Nat) : Int)) :: (.int .u8 0) :: List.replicate 59 (.int .u8 0)) true] [] ∧ ((f0 = 0 ∧ j ≠ 0) ∨ (f0 = 1 ∧ j = 0))) ?_ ?_
  ·
   refine wp_seq (w_region ?_)
   refine H.v 39 (.int .i64 ((j : Nat) : Int)) fun a H => ?_
   refine H.v 40 (.bool (((j : Nat) : Int) == 0)) fun a H => ?_
   refine wpList_nil (then_normal ?_)
   refine w_if H rfl (fun g40 => ?_) (fun g40 => ?_)
   ·have g40p := eq_of_beq g40
    refine w_region ?_
    refine H.v 41 (.pointer (some ⟨b_6, 3, none⟩)) fun a H => ?_
    refine H.u 42 (.int .u8 0) (ex_load1 (by kernel_rfl) (by kernel_rfl) (HP.cell 0 rfl 3 rfl)) fun a H => ?_
    refine H.v 43 (.int .u8 1) fun a H => ?_
    refine H.v 44 (.pointer (some ⟨b_6, 3, none⟩)) fun a H => ?_
    refine H.store HP 0 b_6 3 1 64 _ true (.int .u8 1) [bx b_6 64 ((.int .u8 71) :: (.int .u8 ((ch : Nat) : Int)) :: (.int .u8 ((16 * (fr % 16) + j % 16 : Nat) : Int)) :: (.int .u8 1) :: (.int .u8 0) :: List.replicate 59 (.int .u8 0)) true] (by kernel_rfl) (by kernel_rfl) (by kernel_rfl) rfl (by kernel_rfl) (by kernel_rfl) (by kernel_rfl) (by kernel_rfl) (by kernel_rfl) fun w_11 a H HP => ?_
    refine wpList_nil (then_normal ?_)
    exact ⟨1, H.keep (by kernel_rfl), HP, (by omega)⟩
   ·have g40p := ne_of_beq_false g40
    refine wp_skip (then_normal ?_)
    exact ⟨0, H.keep (by kernel_rfl), HP, (by omega)⟩
  ·
   rintro a w_12 ⟨f0, H, HP, hf0⟩
   refine w_cut (fun a wv => ∃ (fl : Nat), Sl 79 [(5, (.int .i64 ((j : Nat) : Int))), (4, (.string (bstr s))), (0, (.func (.yield l) #[] #[])), (2, (.pointer (some ⟨Bu, 0, none⟩))), (6, (.int .i64 ((n : Nat) : Int))), (7, (.pointer (some ⟨b_6, 0, none⟩)))] a ∧ Hp w_5 wv [bx b_6 64 ((.int .u8 71) :: (.int .u8 ((ch : Nat) : Int)) :: (.int .u8 ((16 * (fr % 16) + j % 16 : Nat) : Int)) :: (.int .u8 ((fl : Nat) : Int)) :: (.int .u8 0) :: List.replicate 59 (.int .u8 0)) true] [] ∧ (fl = flagsP N j) ∧ (fl < 256)) ?_ ?_
   ·
    refine wp_seq (w_region ?_)
    refine H.v 45 (.int .i64 ((n : Nat) : Int)) fun a H => ?_
    refine H.v 46 (.string (bstr s)) fun a H => ?_
    refine H.v 47 (.int .i64 ((s.length : Nat) : Int)) fun a H => ?_
    refine H.v 48 (.bool (((n : Nat) : Int) == ((s.length : Nat) : Int))) fun a H => ?_
    refine wpList_nil (then_normal ?_)
    refine w_if H rfl (fun g48 => ?_) (fun g48 => ?_)
    ·have g48p := eq_of_beq g48
     refine w_region ?_
     refine H.v 49 (.pointer (some ⟨b_6, 3, none⟩)) fun a H => ?_
     refine H.u 50 (.int .u8 ((f0 : Nat) : Int)) (ex_load1 (by kernel_rfl) (by kernel_rfl) (HP.cell 0 rfl 3 rfl)) fun a H => ?_
     refine H.valE 51 (.int .u8 (bits .or .u8 ((f0 : Nat) : Int) 2)) (.int .u8 ((f0 + 2 : Nat) : Int)) (by kernel_rfl) (by kernel_rfl) ((by rcases hf0 with ⟨rfl, _⟩ | ⟨rfl, _⟩ <;> rfl)) fun a H => ?_
     refine H.v 52 (.pointer (some ⟨b_6, 3, none⟩)) fun a H => ?_
     refine H.store HP 0 b_6 3 1 64 _ true (.int .u8 ((f0 + 2 : Nat) : Int)) [bx b_6 64 ((.int .u8 71) :: (.int .u8 ((ch : Nat) : Int)) :: (.int .u8 ((16 * (fr % 16) + j % 16 : Nat) : Int)) :: (.int .u8 ((f0 + 2 : Nat) : Int)) :: (.int .u8 0) :: List.replicate 59 (.int .u8 0)) true] (by kernel_rfl) (by kernel_rfl) (by kernel_rfl) rfl (by kernel_rfl) (by kernel_rfl) (by kernel_rfl) (by kernel_rfl) (by kernel_rfl) fun w_13 a H HP => ?_
     refine wpList_nil (then_normal ?_)
     exact ⟨f0 + 2, H.keep (by kernel_rfl), HP, (by unfold flagsP; split <;> split <;> omega), (by omega)⟩
    ·have g48p := ne_of_beq_false g48
     refine wp_skip (then_normal ?_)
     exact ⟨f0, H.keep (by kernel_rfl), HP, (by unfold flagsP; split <;> split <;> omega), (by omega)⟩
   ·
    rintro a w_14 ⟨fl, H, HP, hfl, hflb⟩
    refine wp_seq (w_region ?_)
    refine H.v 53 (.int .i64 ((n : Nat) : Int)) fun a H => ?_
    refine H.valE 54 (.int .u8 (IntKind.u8.wrap ((n : Nat) : Int))) (.int .u8 ((n : Nat) : Int)) (by kernel_rfl) (by kernel_rfl) ((by rw [wrap_inu8 _ (by omega)])) fun a H => ?_
    refine H.v 55 (.pointer (some ⟨b_6, 4, none⟩)) fun a H => ?_
    refine H.store HP 0 b_6 4 1 64 _ true (.int .u8 ((n : Nat) : Int)) [bx b_6 64 ((.int .u8 71) :: (.int .u8 ((ch : Nat) : Int)) :: (.int .u8 ((16 * (fr % 16) + j % 16 : Nat) : Int)) :: (.int .u8 ((fl : Nat) : Int)) :: (.int .u8 ((n : Nat) : Int)) :: List.replicate 59 (.int .u8 0)) true] (by kernel_rfl) (by kernel_rfl) (by kernel_rfl) rfl (by kernel_rfl) (by kernel_rfl) (by kernel_rfl) (by kernel_rfl) (by kernel_rfl) fun w_15 a H HP => ?_
    refine wpList_nil (then_normal (wp_seq ?_))
    refine An.start (fun v => Hp w_5 v [bx b_6 64 ((.int .u8 71) :: (.int .u8 ((ch : Nat) : Int)) :: (.int .u8 ((16 * (fr % 16) + j % 16 : Nat) : Int)) :: (.int .u8 ((fl : Nat) : Int)) :: (.int .u8 ((n : Nat) : Int)) :: List.replicate 59 (.int .u8 0)) true] []) 4 5 HP wide_follows rfl fun w_16 HP => ?_
    refine An.p H (.inr HP) 0 56 (.slice (some ⟨b_6, 5, none⟩) 59 59) fun a H => ?_
    refine An.p H (.inr HP) 1 57 (.string (bstr s)) fun a H => ?_
    refine An.p H (.inr HP) 2 58 (.int .i64 ((n : Nat) : Int)) fun a H => ?_
    refine An.pure H (.inr (HP)) 3 59 (.string (bstr (s.take n))) rfl (by kernel_rfl) (by kernel_rfl) (fun _ _ _ h => h) (fun _ => ex_ssliceH (kk := .i64) (l := s) (j := ((n : Nat) : Int)) (b := n) (by kernel_rfl) (by kernel_rfl) (by kernel_rfl) (by omega) (by omega)) fun a H => ?_
    refine An.one 4 (by kernel_rfl) ?_
    refine Op.copyS H HP 0 60 b_6 5 59 59 64 ((.int .u8 71) :: (.int .u8 ((ch : Nat) : Int)) :: (.int .u8 ((16 * (fr % 16) + j % 16 : Nat) : Int)) :: (.int .u8 ((fl : Nat) : Int)) :: (.int .u8 ((n : Nat) : Int)) :: List.replicate 59 (.int .u8 0)) (s.take n) true [bx b_6 64 (((.int .u8 71) :: (.int .u8 ((ch : Nat) : Int)) :: (.int .u8 ((16 * (fr % 16) + j % 16 : Nat) : Int)) :: (.int .u8 ((fl : Nat) : Int)) :: (.int .u8 ((n : Nat) : Int)) :: List.replicate 59 (.int .u8 0)).take 5 ++ Lib.byteCells (s.take n) ++ ((.int .u8 71) :: (.int .u8 ((ch : Nat) : Int)) :: (.int .u8 ((16 * (fr % 16) + j % 16 : Nat) : Int)) :: (.int .u8 ((fl : Nat) : Int)) :: (.int .u8 ((n : Nat) : Int)) :: List.replicate 59 (.int .u8 0)).drop (5 + (s.take n).length)) true] (e := 5) rfl (by kernel_rfl) (by kernel_rfl) (by kernel_rfl) (by kernel_rfl) rfl (by rw [List.length_take]; omega) (by rw [List.length_take]; show 5 + min n s.length ≤ 64; omega) (dT := 46) (sT := 9) (ty := 3) rfl fun w_17 a H HP => ?_
    refine ⟨.inl (by kernel_rfl), ?_⟩
    refine An.done (by kernel_rfl) ?_
    have htn : (s.take n).length = n := by rw [List.length_take]; omega
    have hcs : ((.int .u8 71) :: (.int .u8 ((ch : Nat) : Int)) :: (.int .u8 ((16 * (fr % 16) + j % 16 : Nat) : Int)) :: (.int .u8 ((fl : Nat) : Int)) :: (.int .u8 ((n : Nat) : Int)) :: List.replicate 59 (.int .u8 0)).take 5 ++ Lib.byteCells (s.take n) ++ ((.int .u8 71) :: (.int .u8 ((ch : Nat) : Int)) :: (.int .u8 ((16 * (fr % 16) + j % 16 : Nat) : Int)) :: (.int .u8 ((fl : Nat) : Int)) :: (.int .u8 ((n : Nat) : Int)) :: List.replicate 59 (.int .u8 0)).drop (5 + (s.take n).length) = Lib.byteCells ([71, UInt8.ofNat ch, UInt8.ofNat (16 * (fr % 16) + j % 16), UInt8.ofNat fl, UInt8.ofNat n] ++ s.take n ++ (List.replicate 0 255 ++ List.replicate (59 - n - 0) 0)) := pk_cells (by omega) (by omega) (by omega) (by omega) htn hn3
    rw [hcs] at HP
    refine then_normal (wp_seq (wp_seq (w_region ?_)))
    refine H.v 61 (.int .i64 ((n : Nat) : Int)) fun a H => ?_
    refine H.valE 62 (.int .i64 (IntKind.i64.wrap (59 - ((n : Nat) : Int)))) (.int .i64 ((59 - n : Nat) : Int)) (by kernel_rfl) (by kernel_rfl) ((by rw [wrap_ini64 _ (by omega)]; exact congrArg (Value.int .i64) (by omega))) fun a H => ?_
    refine H.v 63 (.int .i64 0) fun a H => ?_
    refine wpList_nil (then_normal (wp_block ?_))
    refine w_loop (fun mm a wv => ∃ (i : Nat), 59 - n - i = mm ∧ Sl 79 [(63, (.int .i64 ((i : Nat) : Int))), (62, (.int .i64 ((59 - n : Nat) : Int))), (5, (.int .i64 ((j : Nat) : Int))), (4, (.string (bstr s))), (0, (.func (.yield l) #[] #[])), (2, (.pointer (some ⟨Bu, 0, none⟩))), (6, (.int .i64 ((n : Nat) : Int))), (7, (.pointer (some ⟨b_6, 0, none⟩)))] a ∧ Hp w_5 wv [bx b_6 64 (Lib.byteCells ([71, UInt8.ofNat ch, UInt8.ofNat (16 * (fr % 16) + j % 16), UInt8.ofNat fl, UInt8.ofNat n] ++ s.take n ++ (List.replicate i 255 ++ List.replicate (59 - n - i) 0))) true] [] ∧ (i ≤ 59 - n)) (59 - n - 0) ?_ ?_
    ·exact ⟨0, (by omega), H.keep (by kernel_rfl), HP, by omega⟩
    rintro mm a w_18 ⟨i, hmeas, H, HP, hi⟩
    refine wp_seq (w_region ?_)
    refine H.v 64 (.bool (decide (((i : Nat) : Int) < ((59 - n : Nat) : Int)))) fun a H => ?_
    refine wpList_nil (then_normal (wp_seq ?_))
    refine w_if H rfl (fun g64 => ?_) (fun g64 => ?_)
    ·have g64p := of_decide_eq_true g64
     refine wp_skip (then_normal (wp_seq (wp_block (wp_seq (w_region ?_)))))
     refine H.v 65 (.int .i64 ((i : Nat) : Int)) fun a H => ?_
     refine H.v 8 (.int .i64 ((i : Nat) : Int)) fun a H => ?_
     refine wpList_nil (then_normal (w_region ?_))
     refine H.v 66 (.int .i64 ((n : Nat) : Int)) fun a H => ?_
     refine H.valE 67 (.int .i64 (IntKind.i64.wrap (5 + ((n : Nat) : Int)))) (.int .i64 ((5 + n : Nat) : Int)) (by kernel_rfl) (by kernel_rfl) ((by rw [wrap_ini64 _ (by omega)]; exact congrArg (Value.int .i64) (by omega))) fun a H => ?_
     refine H.v 68 (.int .i64 ((i : Nat) : Int)) fun a H => ?_
     refine H.valE 69 (.int .i64 (IntKind.i64.wrap (((5 + n : Nat) : Int) + ((i : Nat) : Int)))) (.int .i64 ((5 + n + i : Nat) : Int)) (by kernel_rfl) (by kernel_rfl) ((by rw [wrap_ini64 _ (by omega)]; exact congrArg (Value.int .i64) (by omega))) fun a H => ?_
     refine H.u 70 (.pointer (some ⟨b_6, 0 + (5 + n + i) * 1, none⟩)) (ex_aindex (b := b_6) (off := 0) (n := 64) (e := 5) (m := 5 + n + i) (k := 1) (ik := .i64) (i := ((5 + n + i : Nat) : Int)) (by kernel_rfl) (by kernel_rfl) rfl (by omega) (by kernel_rfl) (by kernel_rfl)) fun a H => ?_
     refine H.store HP 0 b_6 (0 + (5 + n + i) * 1) 1 64 _ true (.int .u8 255) [bx b_6 64 ((Lib.byteCells ([71, UInt8.ofNat ch, UInt8.ofNat (16 * (fr % 16) + j % 16), UInt8.ofNat fl, UInt8.ofNat n] ++ s.take n ++ (List.replicate i 255 ++ List.replicate (59 - n - i) 0))).set (0 + (5 + n + i) * 1) (.int .u8 255)) true] (by kernel_rfl) (by kernel_rfl) (by kernel_rfl) rfl (by kernel_rfl) (by kernel_rfl) (by kernel_rfl) (Nat.ble_eq_true_of_le (by rw [byteCells_len]; simp only [List.length_append, List.length_replicate, htn]; show 0 + (5 + n + i) * 1 + 1 ≤ 5 + n + (i + (59 - n - i)); omega)) rfl fun w_19 a H HP => ?_
     refine wpList_nil ?_
     rw [pk_set htn (by omega)] at HP
     refine inb_normal (then_normal (w_region ?_))
     refine H.valE 71 (.int .i64 (IntKind.i64.wrap (((i : Nat) : Int) + 1))) (.int .i64 (((i : Nat) : Int) + 1)) (by kernel_rfl) (by kernel_rfl) ((by rw [wrap_ini64 _ (by omega)])) fun a H => ?_
     refine H.v 63 (.int .i64 (((i : Nat) : Int) + 1)) fun a H => ?_
     refine wpList_nil (then_normal ?_)
     have H := H.as 63 (.int .i64 ((i + 1 : Nat) : Int)) rfl rfl
     refine ⟨_, ?_, i + 1, rfl, H.keep (by kernel_rfl), HP, by omega⟩
     omega
    ·have g64p := of_decide_eq_false g64
     refine wp_exit (then_exit (then_exit ?_))
     refine w_exit_here ?_
     refine then_normal (wp_seq (wp_seq ?_))
     have hj2 : 59 * j ≤ S.length := by omega
     have hx : ([71, UInt8.ofNat ch, UInt8.ofNat (16 * (fr % 16) + j % 16), UInt8.ofNat fl, UInt8.ofNat n] ++ s.take n ++ (List.replicate i 255 ++ List.replicate (59 - n - i) 0)) = pktAt S ch fr N j := by rw [show i = 59 - n from by omega]; exact pkt_eq hs hsl hn12 hn3 hfl
     rw [hx] at HP
     refine w_regionI (m + 1) ?_
     refine H.valI 72 (.func (.yield l) #[] #[]) (by kernel_rfl) (by kernel_rfl) fun a H => ?_
     refine H.valI 73 (.agg (Lib.byteCells (pktAt S ch fr N j)).toArray) (by kernel_rfl) (ex_loadN (k := 64) (vs := Lib.byteCells (pktAt S ch fr N j)) (by kernel_rfl) (by kernel_rfl) (by kernel_rfl) (by rw [byteCells_len]; exact pktAt_len hj2) (HP.cells 0 rfl 0 64 (List.take_of_length_le (by rw [List.drop_zero, byteCells_len, pktAt_len hj2]; exact Nat.le_refl _)))) fun a H => ?_
     refine H.callY 74 (l := l) (by kernel_rfl) (by kernel_rfl) (hY pre ⟨pktAt S ch fr N j, pktAt_len hj2⟩ _ (OwnFrom.below hJo hjs (HP.below (by kernel_rfl))) (by omega)) ?_
     rintro e w_20 ⟨bb, rfl, hjt, hjf, hkp⟩
     refine ⟨_, rfl, ?_⟩
     intro a H
     have hkc2 := (hkc.trans (KpU.below (HP.below (by kernel_rfl)) (Nat.lt_of_lt_of_le hB2.lt hkc.1))).trans hkp
     have HP := Hp.start w_20
     refine H.valI 75 (.bool (!bb)) (by kernel_rfl) (by kernel_rfl) fun a H => ?_
     refine wpListIn_nil ?_
     refine then_normal ?_
     refine w_if H rfl (fun g75 => ?_) (fun g75 => ?_)
     ·have g75p := not_is_true g75
      refine wp_ret (then_ret (inb_ret (then_ret (then_ret (inb_ret ?_)))))
      refine H.ret0 (fn := Tryd.f51) Tryd.results51  ?_
      exact ⟨⟨_, rfl⟩, .inr ⟨_, hjf g75p⟩⟩
     ·have g75p := not_is_false g75
      refine wp_skip (then_normal (w_region ?_))
      refine H.v 76 (.string (bstr s)) fun a H => ?_
      refine H.v 77 (.int .i64 ((n : Nat) : Int)) fun a H => ?_
      refine H.u 78 (.string (bstr (s.drop n))) (ex_ssliceL (k := .i64) (l := s) (i := ((n : Nat) : Int)) (a := n) (by kernel_rfl) (by kernel_rfl) (by kernel_rfl) (by omega) (by omega)) fun a H => ?_
      refine H.v 4 (.string (bstr (s.drop n))) fun a H => ?_
      refine wpList_nil (inb_normal (then_normal (w_region ?_)))
      refine H.v 20 (.int .i64 ((j : Nat) : Int)) fun a H => ?_
      refine H.valE 21 (.int .i64 (IntKind.i64.wrap (((j : Nat) : Int) + 1))) (.int .i64 (((j : Nat) : Int) + 1)) (by kernel_rfl) (by kernel_rfl) ((by rw [wrap_ini64 _ (by omega)])) fun a H => ?_
      refine H.v 5 (.int .i64 (((j : Nat) : Int) + 1)) fun a H => ?_
      refine wpList_nil (then_normal ?_)
      have H := H.as 5 (.int .i64 ((j + 1 : Nat) : Int)) rfl rfl
      have H := H.as 4 (.string (bstr (S.drop (59 * (j + 1))))) rfl (congrArg (fun l => Value.string (bstr l)) (drop_next hs hn12 hn3))
      refine ⟨_, ?_, j + 1, pre ++ [⟨pktAt S ch fr N j, pktAt_len hj2⟩], rfl, H.keep (by kernel_rfl), HP, by omega, (by rw [List.map_append, hpre, List.range_succ, List.map_append]; rfl), hjt g75p, hkc2⟩
      omega
 ·have g19p := of_decide_eq_false g19
  refine wp_exit (then_exit (then_exit ?_))
  refine w_exit_here ?_
  refine H.end0 (fn := Tryd.f51) Tryd.results51  ?_
  obtain rfl : j = N := by omega
  exact ⟨⟨_, rfl⟩, .inl ⟨pre, hpre, hjs⟩⟩
end Go.Proofs.YtgdjpaeclicdfaaDoor
