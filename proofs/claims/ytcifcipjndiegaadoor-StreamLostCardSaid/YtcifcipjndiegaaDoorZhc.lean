/- Part 3 of the proofs: StG, StH, SymU, StI, StJ, StK, StL, SymY, StS. -/
import Derived.Test.YtcifcipjndiegaaDoorZhb
namespace Go.Proofs.YtcifcipjndiegaaDoor
open Go.ChangeShapes Go.WideShapes Go.ChangeAt Go.RowKit Go.Shelf
set_option linter.unusedVariables false
set_option linter.unusedSimpArgs false
theorem Laid.keep {w w' : World} (h : Laid w) (hk : ∀ k, k = 0 ∨ k = 1 → w'.heap[k]? = w.heap[k]?) : Laid w' := by
 have e : ∀ (b off : Nat) (v : Value), (b = 0 ∨ b = 1) → w.cell? ⟨b, off, none⟩ = some v → w'.cell? ⟨b, off, none⟩ = some v := fun b off v hb hc => by
  unfold World.cell? at hc ⊢
  rw [show w'.heap[b]? = w.heap[b]? from hk b hb]
  exact hc
 obtain ⟨m, hm⟩ := h.most
 exact ⟨fun i hi => e _ _ _ (.inl rfl) (h.tab i hi), m, e _ _ _ (.inr rfl) hm⟩
theorem Laid.lt {w : World} (h : Laid w) : ∀ k, k = 0 ∨ k = 1 → k < w.heap.size := fun k hk => by
 obtain ⟨m, hm⟩ := h.most
 rcases hk with rfl | rfl
 ·exact World.block_lt_of_cell? w _ (h.tab 0 (by omega))
 ·exact World.block_lt_of_cell? w _ hm
def laidK : FK := ⟨fun k => k = 0 ∨ k = 1, Laid⟩
theorem laidK_ok : laidK.ok := fun _ _ h hk _ => h.keep hk
theorem want_none1 {l : List Cue} {fr : Int} (h : activeP l fr = none) : wantP l fr = none := by unfold wantP; rw [h]
theorem want_none2 {l : List Cue} {fr : Int} {c : Cue} (h : activeP l fr = some c) (h2 : blockP c = none) : wantP l fr = none := by unfold wantP; rw [h]; simp only [h2]
theorem want_some {l : List Cue} {fr : Int} {c : Cue} {b : Str} (h : activeP l fr = some c) (h2 : blockP c = some b) : wantP l fr = some (c, b) := by unfold wantP; rw [h]; simp only [h2]
theorem activeU_any (A : Option Addr) (c : Nat) (l : List Cue) (fr : Int) (w : World) (hr : IsRow 5 cuC w A l) (hl : l.length ≤ maxLen) : Calls Tryd.prog 38 #[.slice A l.length c, .int .i64 fr] w fun e w' => ∃ ac fd, e = .returned (.tuple #[cuV ac, .bool fd]) ∧ Below w.heap.size w w' ∧ (fd = true → activeP l fr = some ac) ∧ (fd = false → activeP l fr = none) :=
 (active_any A c l fr w hr hl).mono fun e w' ⟨h1, h2⟩ => by
  subst h1
  cases h : activeP l fr with
  | none => exact ⟨zeroC, false, rfl, h2, (fun h => by cases h), fun _ => rfl⟩
  | some x => exact ⟨x, true, rfl, h2, fun _ => rfl, fun h => by cases h⟩
theorem blockU_any (x : Cue) (w : World) (hL : Laid w) (hl : x.text.length ≤ 1000000) : Calls Tryd.prog 9 #[cuV x] w fun e w' => ∃ bk er, e = .returned (.tuple #[.string (bstr bk), .int .i64 er]) ∧ Below w.heap.size w w' ∧ (er = 0 → blockP x = some bk) ∧ (er ≠ 0 → blockP x = none) :=
 (block_any x w hL hl).mono fun e w' ⟨h1, h2⟩ => by
  subst h1
  cases h : blockP x with
  | none => exact ⟨[], 160, rfl, h2, (fun h => by cases h), fun _ => rfl⟩
  | some b => exact ⟨b, 0, rfl, h2, fun _ => rfl, fun h => absurd rfl h⟩
def sndFp (p2 p3 p5 p6 p7 p8 : Nat) (k : Nat) : Prop := k = p8 ∨ k = p7 ∨ k = p6 ∨ k = p5 ∨ k = p3 ∨ k = p2
def sndR (p2 p3 p5 p6 p7 p8 : Nat) (A : Option Addr) (n c : Nat) (s : Snd) : HB := HB.of (sndFp p2 p3 p5 p6 p7 p8)
 (fun w => [p2, p3, p5, p6, p7, p8].Nodup ∧ Box w p2 36 #[.slice A n c] ∧ Box w p3 67 #[.int .i64 ((s.sees : Nat) : Int)] ∧ Box w p5 23 (cuC s.cue) ∧ Box w p6 23 (cuC s.sending) ∧ Box w p7 9 #[.string (bstr s.block)] ∧ Box w p8 3 #[.int .i64 ((s.sent : Nat) : Int)]) true
def SndPost (p2 p3 p5 p6 p7 p8 : Nat) (A : Option Addr) (n c : Nat) (l : List Cue) (fr : Int) (s : Snd) (w : World) (e : Ending) (w' : World) : Prop :=
 e = .returned (.string (bstr (sndStep l fr s).1)) ∧ (sndR p2 p3 p5 p6 p7 p8 A n c (sndStep l fr s).2).F w' ∧ Agree w w' (sndFp p2 p3 p5 p6 p7 p8)
theorem snd_end {p2 p3 p5 p6 p7 p8 : Nat} {A : Option Addr} {n c : Nat} {l : List Cue} {fr : Int} {s s' : Snd} {w w' : World} {v : Str} (he : sndStep l fr s = (v, s')) (hnd : [p2, p3, p5, p6, p7, p8].Nodup) (ha : Agree w w' (sndFp p2 p3 p5 p6 p7 p8))
  (h2 : Box w' p2 36 #[.slice A n c]) (h3 : Box w' p3 67 #[.int .i64 ((s'.sees : Nat) : Int)]) (h5 : Box w' p5 23 (cuC s'.cue)) (h6 : Box w' p6 23 (cuC s'.sending)) (h7 : Box w' p7 9 #[.string (bstr s'.block)]) (h8 : Box w' p8 3 #[.int .i64 ((s'.sent : Nat) : Int)]) :
  SndPost p2 p3 p5 p6 p7 p8 A n c l fr s w (.returned (.string (bstr v))) w' := by
 unfold SndPost
 rw [he]
 exact ⟨rfl, ⟨hnd, h2, h3, h5, h6, h7, h8⟩, ha⟩
theorem snd_start {p2 p3 p5 p6 p7 p8 : Nat} {A : Option Addr} {n c : Nat} {s : Snd} {w : World} (h : (sndR p2 p3 p5 p6 p7 p8 A n c s).F w) :
  Hp w w [bx p8 3 [.int .i64 ((s.sent : Nat) : Int)] false, bx p7 9 [.string (bstr s.block)] false, bx p6 23 (cuL s.sending) false, bx p5 23 (cuL s.cue) false, bx p3 67 [.int .i64 ((s.sees : Nat) : Int)] false, bx p2 36 [.slice A n c] false] [] := by
 obtain ⟨hnd, h2, h3, h5, h6, h7, h8⟩ := h
 simp only [List.nodup_cons, List.mem_cons, List.not_mem_nil, or_false, not_or, not_false_eq_true, List.nodup_nil, and_true] at hnd
 obtain ⟨⟨a1, a2, a3, a4, a5⟩, ⟨b1, b2, b3, b4⟩, ⟨c1, c2, c3⟩, ⟨d1, d2⟩, e1⟩ := hnd
 refine ((((((Hp.start w).own1 h2 (fun x hx => by cases hx)).own1 h3 fun x hx => ?_).own1 h5 fun x hx => ?_).own1 h6 fun x hx => ?_).own1 h7 fun x hx => ?_).own1 h8 fun x hx => ?_ <;>
  simp only [List.mem_cons, List.not_mem_nil, or_false] at hx
 ·subst hx; exact fun e => a1 (show p3 = p2 from e).symm
 ·rcases hx with rfl | rfl
  ·exact fun e => b1 (show p5 = p3 from e).symm
  ·exact fun e => a2 (show p5 = p2 from e).symm
 ·rcases hx with rfl | rfl | rfl
  ·exact fun e => c1 (show p6 = p5 from e).symm
  ·exact fun e => b2 (show p6 = p3 from e).symm
  ·exact fun e => a3 (show p6 = p2 from e).symm
 ·rcases hx with rfl | rfl | rfl | rfl
  ·exact fun e => d1 (show p7 = p6 from e).symm
  ·exact fun e => c2 (show p7 = p5 from e).symm
  ·exact fun e => b3 (show p7 = p3 from e).symm
  ·exact fun e => a4 (show p7 = p2 from e).symm
 ·rcases hx with rfl | rfl | rfl | rfl | rfl
  ·exact fun e => e1 (show p8 = p7 from e).symm
  ·exact fun e => d2 (show p8 = p6 from e).symm
  ·exact fun e => c3 (show p8 = p5 from e).symm
  ·exact fun e => b4 (show p8 = p3 from e).symm
  ·exact fun e => a5 (show p8 = p2 from e).symm
theorem snd_off {p2 p3 p5 p6 p7 p8 : Nat} {t2 t3 t5 t6 t7 t8 : Nat} {v2 v3 v5 v6 v7 v8 : List Value} {N : Nat} {A : Option Addr} {k : Nat} (hn : ∀ k, sndFp p2 p3 p5 p6 p7 p8 k → k ≠ 0 ∧ k ≠ 1 ∧ ¬ rowFp N A k) (hk : k ≠ 0 → k ≠ 1 → ¬ rowFp N A k → False) :
  ∀ x ∈ [bx p8 t8 v8 false, bx p7 t7 v7 false, bx p6 t6 v6 false, bx p5 t5 v5 false, bx p3 t3 v3 false, bx p2 t2 v2 false], ¬ x.fp k := fun x hx hxk => by
 have : sndFp p2 p3 p5 p6 p7 p8 k := by
  simp only [List.mem_cons, List.not_mem_nil, or_false] at hx
  unfold sndFp
  rcases hx with rfl | rfl | rfl | rfl | rfl | rfl <;> simp only [bx] at hxk <;> simp [hxk]
 obtain ⟨h1, h2, h3⟩ := hn k this
 exact hk h1 h2 h3
theorem copy2 {b : Str} {m : Nat} (h : m < b.length) : ([.int .u8 0, .int .u8 0] : List Value).take 0 ++ Lib.byteCells ((b.drop m).take 2) ++ ([.int .u8 0, .int .u8 0] : List Value).drop (0 + min (b.drop m).length 2) = [.int .u8 (((b.getD m 0).toNat : Nat) : Int), .int .u8 (((b.getD (m + 1) 0).toNat : Nat) : Int)] := by
 rw [dropS_get h]
 by_cases h2 : m + 1 < b.length
 ·rw [dropS_get h2]
  simp [Lib.byteCells]
 ·rw [List.drop_of_length_le (by omega)]
  simp [Lib.byteCells, List.getD_eq_getElem?_getD, List.getElem?_eq_none (show b.length ≤ m + 1 by omega)]
set_option maxRecDepth 100000 in
set_option maxHeartbeats 4000000 in
theorem sender1_any (p2 p3 p5 p6 p7 p8 : Nat) (A : Option Addr) (c : Nat) (l : List Cue) (fr : Int) (s : Snd) (w : World) (h : (sndR p2 p3 p5 p6 p7 p8 A l.length c s).F w) (hL : Laid w) (hr : IsRow 5 cuC w A l) (hlm : l.length ≤ maxLen) (hok : s.ok) (htx : ∀ x, activeP l fr = some x → x.text.length ≤ 1000000)
  (hn : ∀ k, sndFp p2 p3 p5 p6 p7 p8 k → k ≠ 0 ∧ k ≠ 1 ∧ ¬ rowFp l.length A k) :
  Calls Tryd.prog 47 #[.int .i64 fr, .pointer (some ⟨p2, 0, none⟩), .pointer (some ⟨p7, 0, none⟩), .pointer (some ⟨p3, 0, none⟩), .pointer (some ⟨p5, 0, none⟩), .pointer (some ⟨p6, 0, none⟩), .pointer (some ⟨p8, 0, none⟩)] w (SndPost p2 p3 p5 p6 p7 p8 A l.length c l fr s w) := by
 have hnd := h.1
 have HP0 := snd_start h
 have HP := (HP0.keepF laidK hL laidK_ok (fun k hk => ⟨hL.lt k hk, snd_off hn fun h1 h2 h3 => by rcases hk with rfl | rfl; exact h1 rfl; exact h2 rfl⟩)).keepF (rowF 5 cuC A l) hr (rowF_ok _ _ _ _) fun k hk => ⟨hr.lt k hk, snd_off hn fun h1 h2 h3 => h3 hk⟩
 refine w_enter 76 [(0, (ii fr)), (1, (pt p2 0)), (2, (pt p7 0)), (3, (pt p3 0)), (4, (pt p5 0)), (5, (pt p6 0)), (6, (pt p8 0))] Tryd.func47 rfl Tryd.ntmps47 (by kernel_rfl) (by kernel_rfl) fun a H => ?_
 refine wp_seq (w_region ?_)
 refine H.ge HP [(8, (.string (bstr ([]))))] [] fun a H => ?_
 refine then_normal (wp_seq (w_region ?_))
 refine H.go HP 2 [(18, (.slice A l.length c)), (19, (ii fr))] [5] fun a H => ?_
 refine H.call 20 (by kernel_rfl) (Eq.trans (by kernel_rfl : _ = (callFunc 38 #[(.slice A l.length c), (ii fr)]).run Tryd.prog w) (Tryd.call38 _ _)) (activeU_any A c l fr w (HP.fact 0 rfl) hlm) ?_
 rintro e w_1 ⟨ac, fd, rfl, hba, hfy, hfn⟩
 refine ⟨_, rfl, ?_⟩
 intro a H
 have HP := HP.next hba
 refine H.go HP 3 [(21, (.agg #[(ii ac.id), (ii ac.from_), (ii ac.to_), (ii ac.pri), (.string (bstr ac.text))])), (22, (.bool fd))] [] fun a H => ?_
 refine H.alloc HP 9 (fun b => (pt b 0)) 23 [(ii 0), (ii 0), (ii 0), (ii 0), (.string (bstr ([])))] (by kernel_rfl) (fun w => by kernel_rfl) fun b_2 w_3 a H HP => ?_
 refine H.sh HP 0 0 (.agg #[(ii ac.id), (ii ac.from_), (ii ac.to_), (ii ac.pri), (.string (bstr ac.text))]) rfl fun w_4 a H HP => ?_
 refine H.ge HP [(10, (.bool fd))] [] fun a H => ?_
 refine then_normal (wp_seq (w_region ?_))
 refine H.ge HP [(11, (.string (bstr ([]))))] [] fun a H => ?_
 refine then_normal (wp_seq (wp_seq (w_region ?_)))
 refine H.ge HP [(23, (.bool fd))] [] fun a H => ?_
 refine then_normal ?_
 refine w_if H rfl (fun g23 => ?_) (fun g23 => ?_)
 ·have g23p := g23
  refine wp_seq (w_region ?_)
  refine H.go HP 1 [(25, (.agg #[(ii ac.id), (ii ac.from_), (ii ac.to_), (ii ac.pri), (.string (bstr ac.text))]))] [0] fun a H => ?_
  refine H.call 26 (by kernel_rfl) (Eq.trans (by kernel_rfl : _ = (callFunc 9 #[(.agg #[(ii ac.id), (ii ac.from_), (ii ac.to_), (ii ac.pri), (.string (bstr ac.text))])]).run Tryd.prog w_4) (Tryd.call9 _ _)) (blockU_any ac w_4 (HP.fact 1 rfl) (htx ac (hfy g23p))) ?_
  rintro e w_5 ⟨bk, er, rfl, hbb, hby, hbn⟩
  refine ⟨_, rfl, ?_⟩
  intro a H
  have HP := HP.next hbb
  refine H.ge HP [(12, (.string (bstr bk))), (13, (ii er))] [] fun a H => ?_
  refine then_normal (w_region ?_)
  refine H.ge HP [(11, (.string (bstr bk))), (10, (.bool (er == 0)))] [] fun a H => ?_
  refine then_normal (wp_seq (wp_seq (w_region ?_)))
  refine H.ge HP [(33, (.bool (!(er == 0))))] [] fun a H => ?_
  refine then_normal ?_
  refine w_if H rfl (fun g33 => ?_) (fun g33 => ?_)
  ·have g33p := not_is_true g33
   refine wp_seq ?_
   have hw : wantP l fr = none := want_none2 (hfy g23p) (hbn (by simpa using g33p))
   refine w_region ?_
   refine H.sh HP 2 0 (.string (bstr ([]))) rfl fun w_6 a H HP => ?_
   refine wpList_nil (then_normal (wp_seq (wp_seq (w_region ?_))))
   refine H.ge HP [(35, (.bool ((s.sees : Int) == 1)))] [5] fun a H => ?_
   refine then_normal ?_
   refine w_if H rfl (fun g35 => ?_) (fun g35 => ?_)
   ·have g35p := eq_of_beq g35
    refine wp_seq (w_region ?_)
    refine H.call 36 (by kernel_rfl) (Eq.trans (by kernel_rfl : _ = (callFunc 33 #[(ii 0), (ii 0), (.int .u8 0), (.int .u8 0)]).run Tryd.prog w_6) (Tryd.call33 _ _)) (code_any 0 0 0 0 w_6 (by omega) (by omega)) ?_
    rintro e w_7 ⟨rfl, hbc⟩
    refine ⟨_, rfl, ?_⟩
    intro a H
    have HP := HP.next hbc
    refine H.ge HP [(8, (.string (bstr ([UInt8.ofNat (64 * 0 + 0), 0, 0]))))] [] fun a H => ?_
    refine then_normal (wp_ret (then_ret (then_ret ?_)))
    refine H.ret1 (fn := Tryd.f47) Tryd.results47 (RV.tmp_ (v := (.string (bstr ([UInt8.ofNat (64 * 0 + 0), 0, 0])))) (by kernel_rfl)) ?_
    have HP : Hp w w_7 [bx b_2 23 [(ii ac.id), (ii ac.from_), (ii ac.to_), (ii ac.pri), (.string (bstr ac.text))] true, bx p8 3 [(ii s.sent)] false, bx p7 9 [(.string (bstr ([])))] false, bx p6 23 [(ii s.sending.id), (ii s.sending.from_), (ii s.sending.to_), (ii s.sending.pri), (.string (bstr s.sending.text))] false, bx p5 23 [(ii s.cue.id), (ii s.cue.from_), (ii s.cue.to_), (ii s.cue.pri), (.string (bstr s.cue.text))] false, bx p3 67 [(ii s.sees)] false, bx p2 36 [(.slice A l.length c)] false] [rowF 5 cuC A l, laidK] := HP
    refine snd_end (v := [UInt8.ofNat (64 * 0 + 0), 0, 0]) (s' := ⟨s.sees, s.cue, s.sending, [], s.sent⟩) (by rw [sndStep, hw]; simp only; rw [if_pos (by omega)]; rfl) hnd (HP.agreeF _ fun x hx => ?_) (HP.at_ 6 rfl) (HP.at_ 5 rfl) (HP.at_ 4 rfl) (HP.at_ 3 rfl) (HP.at_ 2 rfl) (HP.at_ 1 rfl)
    simp only [List.mem_cons, List.not_mem_nil, or_false] at hx
    rcases hx with rfl | rfl | rfl | rfl | rfl | rfl | rfl <;> simp [bx, sndFp]
   ·have g35p := ne_of_beq_false g35
    refine wp_skip (then_normal (wp_seq (w_region ?_)))
    refine H.sh HP 5 0 (ii 1) rfl fun w_8 a H HP => ?_
    refine wpList_nil (then_normal (wp_seq (w_region ?_)))
    refine H.call 37 (by kernel_rfl) (Eq.trans (by kernel_rfl : _ = (callFunc 33 #[(ii 1), (ii 0), (.int .u8 0), (.int .u8 0)]).run Tryd.prog w_8) (Tryd.call33 _ _)) (code_any 1 0 0 0 w_8 (by omega) (by omega)) ?_
    rintro e w_9 ⟨rfl, hbc⟩
    refine ⟨_, rfl, ?_⟩
    intro a H
    have HP := HP.next hbc
    refine H.ge HP [(8, (.string (bstr ([UInt8.ofNat (64 * 1 + 0), 0, 0]))))] [] fun a H => ?_
    refine then_normal (wp_ret (then_ret ?_))
    refine H.ret1 (fn := Tryd.f47) Tryd.results47 (RV.tmp_ (v := (.string (bstr ([UInt8.ofNat (64 * 1 + 0), 0, 0])))) (by kernel_rfl)) ?_
    have HP : Hp w w_9 [bx b_2 23 [(ii ac.id), (ii ac.from_), (ii ac.to_), (ii ac.pri), (.string (bstr ac.text))] true, bx p8 3 [(ii s.sent)] false, bx p7 9 [(.string (bstr ([])))] false, bx p6 23 [(ii s.sending.id), (ii s.sending.from_), (ii s.sending.to_), (ii s.sending.pri), (.string (bstr s.sending.text))] false, bx p5 23 [(ii s.cue.id), (ii s.cue.from_), (ii s.cue.to_), (ii s.cue.pri), (.string (bstr s.cue.text))] false, bx p3 67 [(ii 1)] false, bx p2 36 [(.slice A l.length c)] false] [rowF 5 cuC A l, laidK] := HP
    refine snd_end (v := [UInt8.ofNat (64 * 1 + 0), 0, 0]) (s' := ⟨1, s.cue, s.sending, [], s.sent⟩) (by rw [sndStep, hw]; simp only; rw [if_neg (by omega)]; rfl) hnd (HP.agreeF _ fun x hx => ?_) (HP.at_ 6 rfl) (HP.at_ 5 rfl) (HP.at_ 4 rfl) (HP.at_ 3 rfl) (HP.at_ 2 rfl) (HP.at_ 1 rfl)
    simp only [List.mem_cons, List.not_mem_nil, or_false] at hx
    rcases hx with rfl | rfl | rfl | rfl | rfl | rfl | rfl <;> simp [bx, sndFp]
  ·have g33p := not_is_false g33
   refine wp_skip (then_normal (wp_seq (wp_seq ?_)))
   have her : er = 0 := by simpa using g33p
   have hbk := hby her
   have hw : wantP l fr = some (ac, bk) := want_some (hfy g23p) hbk
   have hbkl := blockP_len hbk
   refine w_region ?_
   refine H.go HP 3 [(40, (.bool ((s.sees : Int) == 2)))] [5] fun a H => ?_
   refine H.split 40 rfl (fun g40 H => ?_) (fun g40 H => ?_)
   ·have g40p := eq_of_beq g40
    refine H.go HP 2 [(41, (.agg #[(ii s.cue.id), (ii s.cue.from_), (ii s.cue.to_), (ii s.cue.pri), (.string (bstr s.cue.text))])), (42, (.agg #[(ii ac.id), (ii ac.from_), (ii ac.to_), (ii ac.pri), (.string (bstr ac.text))]))] [4, 0] fun a H => ?_
    refine H.u 43 (.bool (decide (s.cue = ac))) (ex_eqC (a := s.cue) (b := ac) (by kernel_rfl) (by kernel_rfl)) fun a H => ?_
    refine H.ge HP [(44, (.bool (decide (s.cue = ac))))] [] fun a H => ?_
    refine then_normal ?_
    refine w_if H rfl (fun g44 => ?_) (fun g44 => ?_)
    ·have g44p := g44
     refine wp_seq (w_region ?_)
     refine H.sh HP 2 0 (.string (bstr ([]))) rfl fun w_10 a H HP => ?_
     refine wpList_nil (then_normal (wp_seq (w_region ?_)))
     refine H.call 45 (by kernel_rfl) (Eq.trans (by kernel_rfl : _ = (callFunc 33 #[(ii 0), (ii 0), (.int .u8 0), (.int .u8 0)]).run Tryd.prog w_10) (Tryd.call33 _ _)) (code_any 0 0 0 0 w_10 (by omega) (by omega)) ?_
     rintro e w_11 ⟨rfl, hbc⟩
     refine ⟨_, rfl, ?_⟩
     intro a H
     have HP := HP.next hbc
     refine H.ge HP [(8, (.string (bstr ([UInt8.ofNat (64 * 0 + 0), 0, 0]))))] [] fun a H => ?_
     refine then_normal (wp_ret (then_ret ?_))
     refine H.ret1 (fn := Tryd.f47) Tryd.results47 (RV.tmp_ (v := (.string (bstr ([UInt8.ofNat (64 * 0 + 0), 0, 0])))) (by kernel_rfl)) ?_
     have HP : Hp w w_11 [bx b_2 23 [(ii ac.id), (ii ac.from_), (ii ac.to_), (ii ac.pri), (.string (bstr ac.text))] true, bx p8 3 [(ii s.sent)] false, bx p7 9 [(.string (bstr ([])))] false, bx p6 23 [(ii s.sending.id), (ii s.sending.from_), (ii s.sending.to_), (ii s.sending.pri), (.string (bstr s.sending.text))] false, bx p5 23 [(ii s.cue.id), (ii s.cue.from_), (ii s.cue.to_), (ii s.cue.pri), (.string (bstr s.cue.text))] false, bx p3 67 [(ii s.sees)] false, bx p2 36 [(.slice A l.length c)] false] [rowF 5 cuC A l, laidK] := HP
     refine snd_end (v := [UInt8.ofNat (64 * 0 + 0), 0, 0]) (s' := ⟨s.sees, s.cue, s.sending, [], s.sent⟩) (by rw [sndStep, hw]; simp only; rw [if_pos ⟨by omega, of_decide_eq_true g44⟩]; rfl) hnd (HP.agreeF _ fun x hx => ?_) (HP.at_ 6 rfl) (HP.at_ 5 rfl) (HP.at_ 4 rfl) (HP.at_ 3 rfl) (HP.at_ 2 rfl) (HP.at_ 1 rfl)
     simp only [List.mem_cons, List.not_mem_nil, or_false] at hx
     rcases hx with rfl | rfl | rfl | rfl | rfl | rfl | rfl <;> simp [bx, sndFp]
    ·have g44p := g44
     refine wp_skip (then_normal (wp_seq ?_))
     have hns : ¬ (s.sees = 2 ∧ s.cue = ac) := by intro hh; first | (have := hh.1; omega) | (have := hh.2; simp_all)
     refine w_region ?_
     refine H.ge HP [(14, (ii 3))] [] fun a H => ?_
     refine then_normal ?_
     refine w_cut (fun a wv => ∃ (bb : Str), ∃ (m : Nat), ∃ (kk : Nat), Sl 76 [(9, (pt b_2 0)), (14, (ii kk)), (1, (pt p2 0)), (2, (pt p7 0)), (3, (pt p3 0)), (4, (pt p5 0)), (5, (pt p6 0)), (6, (pt p8 0))] a ∧ Hp w wv [bx b_2 23 [(ii ac.id), (ii ac.from_), (ii ac.to_), (ii ac.pri), (.string (bstr ac.text))] true, bx p8 3 [(ii m)] false, bx p7 9 [(.string (bstr bb))] false, bx p6 23 [(ii ac.id), (ii ac.from_), (ii ac.to_), (ii ac.pri), (.string (bstr ac.text))] false, bx p5 23 [(ii s.cue.id), (ii s.cue.from_), (ii s.cue.to_), (ii s.cue.pri), (.string (bstr s.cue.text))] false, bx p3 67 [(ii s.sees)] false, bx p2 36 [(.slice A l.length c)] false] [rowF 5 cuC A l, laidK] ∧ (m % 2 = 0) ∧ (sndStep l fr s = sndPart ac (64 * kk) ⟨s.sees, s.cue, ac, bb, m⟩) ∧ (m < bb.length) ∧ (bb.length ≤ 96) ∧ (kk = 2 ∨ kk = 3)) ?_ ?_
     ·
      refine wp_seq (w_region ?_)
      refine H.go HP 1 [(46, (.string (bstr s.block)))] [2] fun a H => ?_
      refine H.valE 47 (.bool ((bstr s.block).toList == (bstr ([])).toList)) (.bool (s.block == ([]))) (by kernel_rfl) (by kernel_rfl) ((congrArg Value.bool (bstr_eq _ _))) fun a H => ?_
      refine H.go HP 1 [(48, (.bool (s.block == ([]))))] [] fun a H => ?_
      refine H.split 48 rfl (fun g48 H => ?_) (fun g48 H => ?_)
      ·have g48p := eq_of_beq g48
       refine H.ge HP [(52, (.bool true))] [] fun a H => ?_
       refine then_normal ?_
       refine w_ift H rfl ?_
       have HP := HP.front 0 rfl [bx b_2 23 [(ii ac.id), (ii ac.from_), (ii ac.to_), (ii ac.pri), (.string (bstr ac.text))] true, bx p8 3 [(ii s.sent)] false, bx p7 9 [(.string (bstr s.block))] false, bx p6 23 [(ii s.sending.id), (ii s.sending.from_), (ii s.sending.to_), (ii s.sending.pri), (.string (bstr s.sending.text))] false, bx p5 23 [(ii s.cue.id), (ii s.cue.from_), (ii s.cue.to_), (ii s.cue.pri), (.string (bstr s.cue.text))] false, bx p3 67 [(ii s.sees)] false, bx p2 36 [(.slice A l.length c)] false] (by kernel_rfl)
       refine An.start (fun v => Hp w v [bx p8 3 [(ii s.sent)] false, bx p7 9 [(.string (bstr s.block))] false, bx p6 23 [(ii s.sending.id), (ii s.sending.from_), (ii s.sending.to_), (ii s.sending.pri), (.string (bstr s.sending.text))] false, bx p5 23 [(ii s.cue.id), (ii s.cue.from_), (ii s.cue.to_), (ii s.cue.pri), (.string (bstr s.cue.text))] false, bx p3 67 [(ii s.sees)] false, bx p2 36 [(.slice A l.length c)] false] [rowF 5 cuC A l, laidK]) 3 6 HP wide_follows rfl fun w_12 HP => ?_
       refine An.go H (.inr ((HP.tail rfl))) 4 [0, 2] [(53, (.string (bstr bk))), (14, (ii 2))] [] fun a H => ?_
       refine An.two 1 3 (by kernel_rfl) ?_ ?_
       ·refine Op.val H 54 (.agg #[(ii ac.id), (ii ac.from_), (ii ac.to_), (ii ac.pri), (.string (bstr ac.text))]) rfl (by kernel_rfl) (ex_loadN (vs := [(ii ac.id), (ii ac.from_), (ii ac.to_), (ii ac.pri), (.string (bstr ac.text))]) (by kernel_rfl) (by kernel_rfl) (by kernel_rfl) rfl (HP.cells 0 rfl 0 5 (by kernel_rfl))) fun a H => ?_
        refine ⟨.inr ((HP.tail rfl)), ?_⟩
        refine An.one 3 (by kernel_rfl) ?_
        refine Op.sh H HP 2 0 (.string (bstr bk)) rfl rfl fun w_13 a H HP => ?_
        refine ⟨.inl (by kernel_rfl), ?_⟩
        refine An.one 4 (by kernel_rfl) ?_
        refine Op.sh H HP 1 0 (ii 0) rfl rfl fun w_14 a H HP => ?_
        refine ⟨.inl (by kernel_rfl), ?_⟩
        refine An.one 5 (by kernel_rfl) ?_
        refine Op.sh H HP 3 0 (.agg #[(ii ac.id), (ii ac.from_), (ii ac.to_), (ii ac.pri), (.string (bstr ac.text))]) rfl rfl fun w_15 a H HP => ?_
        refine ⟨.inl (by kernel_rfl), ?_⟩
        refine An.done (by kernel_rfl) ?_
        refine then_normal ?_
        exact ⟨bk, 0, 2, H.keep (by kernel_rfl), HP, (by omega), (by rw [sndStep, hw]; simp only; rw [if_neg hns, if_pos (.inl g48p)]), (by omega), (by omega), (by omega)⟩
       ·refine Op.sh H HP 2 0 (.string (bstr bk)) rfl rfl fun w_16 a H HP => ?_
        refine ⟨.inl (by kernel_rfl), ?_⟩
        refine An.two 1 4 (by kernel_rfl) ?_ ?_
        ·refine Op.val H 54 (.agg #[(ii ac.id), (ii ac.from_), (ii ac.to_), (ii ac.pri), (.string (bstr ac.text))]) rfl (by kernel_rfl) (ex_loadN (vs := [(ii ac.id), (ii ac.from_), (ii ac.to_), (ii ac.pri), (.string (bstr ac.text))]) (by kernel_rfl) (by kernel_rfl) (by kernel_rfl) rfl (HP.cells 0 rfl 0 5 (by kernel_rfl))) fun a H => ?_
         refine ⟨.inl (by kernel_rfl), ?_⟩
         refine An.one 4 (by kernel_rfl) ?_
         refine Op.sh H HP 1 0 (ii 0) rfl rfl fun w_17 a H HP => ?_
         refine ⟨.inl (by kernel_rfl), ?_⟩
         refine An.one 5 (by kernel_rfl) ?_
         refine Op.sh H HP 3 0 (.agg #[(ii ac.id), (ii ac.from_), (ii ac.to_), (ii ac.pri), (.string (bstr ac.text))]) rfl rfl fun w_18 a H HP => ?_
         refine ⟨.inl (by kernel_rfl), ?_⟩
         refine An.done (by kernel_rfl) ?_
         refine then_normal ?_
         exact ⟨bk, 0, 2, H.keep (by kernel_rfl), HP, (by omega), (by rw [sndStep, hw]; simp only; rw [if_neg hns, if_pos (.inl g48p)]), (by omega), (by omega), (by omega)⟩
        ·refine Op.sh H HP 1 0 (ii 0) rfl rfl fun w_19 a H HP => ?_
         refine ⟨.inl (by kernel_rfl), ?_⟩
         refine An.one 1 (by kernel_rfl) ?_
         refine Op.val H 54 (.agg #[(ii ac.id), (ii ac.from_), (ii ac.to_), (ii ac.pri), (.string (bstr ac.text))]) rfl (by kernel_rfl) (ex_loadN (vs := [(ii ac.id), (ii ac.from_), (ii ac.to_), (ii ac.pri), (.string (bstr ac.text))]) (by kernel_rfl) (by kernel_rfl) (by kernel_rfl) rfl (HP.cells 0 rfl 0 5 (by kernel_rfl))) fun a H => ?_
         refine ⟨.inl (by kernel_rfl), ?_⟩
         refine An.one 5 (by kernel_rfl) ?_
         refine Op.sh H HP 3 0 (.agg #[(ii ac.id), (ii ac.from_), (ii ac.to_), (ii ac.pri), (.string (bstr ac.text))]) rfl rfl fun w_20 a H HP => ?_
         refine ⟨.inl (by kernel_rfl), ?_⟩
         refine An.done (by kernel_rfl) ?_
         refine then_normal ?_
         exact ⟨bk, 0, 2, H.keep (by kernel_rfl), HP, (by omega), (by rw [sndStep, hw]; simp only; rw [if_neg hns, if_pos (.inl g48p)]), (by omega), (by omega), (by omega)⟩
      ·have g48p := ne_of_beq_false g48
       refine H.go HP 2 [(49, (.agg #[(ii s.sending.id), (ii s.sending.from_), (ii s.sending.to_), (ii s.sending.pri), (.string (bstr s.sending.text))])), (50, (.agg #[(ii ac.id), (ii ac.from_), (ii ac.to_), (ii ac.pri), (.string (bstr ac.text))]))] [3, 0] fun a H => ?_
       refine H.u 51 (.bool (!decide (s.sending = ac))) (ex_neC (a := s.sending) (b := ac) (by kernel_rfl) (by kernel_rfl)) fun a H => ?_
       refine H.ge HP [(52, (.bool (!decide (s.sending = ac))))] [] fun a H => ?_
       refine then_normal ?_
       refine w_if H rfl (fun g52 => ?_) (fun g52 => ?_)
       ·have g52p := not_is_true g52
        have HP := HP.front 0 rfl [bx b_2 23 [(ii ac.id), (ii ac.from_), (ii ac.to_), (ii ac.pri), (.string (bstr ac.text))] true, bx p8 3 [(ii s.sent)] false, bx p7 9 [(.string (bstr s.block))] false, bx p6 23 [(ii s.sending.id), (ii s.sending.from_), (ii s.sending.to_), (ii s.sending.pri), (.string (bstr s.sending.text))] false, bx p5 23 [(ii s.cue.id), (ii s.cue.from_), (ii s.cue.to_), (ii s.cue.pri), (.string (bstr s.cue.text))] false, bx p3 67 [(ii s.sees)] false, bx p2 36 [(.slice A l.length c)] false] (by kernel_rfl)
        refine An.start (fun v => Hp w v [bx p8 3 [(ii s.sent)] false, bx p7 9 [(.string (bstr s.block))] false, bx p6 23 [(ii s.sending.id), (ii s.sending.from_), (ii s.sending.to_), (ii s.sending.pri), (.string (bstr s.sending.text))] false, bx p5 23 [(ii s.cue.id), (ii s.cue.from_), (ii s.cue.to_), (ii s.cue.pri), (.string (bstr s.cue.text))] false, bx p3 67 [(ii s.sees)] false, bx p2 36 [(.slice A l.length c)] false] [rowF 5 cuC A l, laidK]) 3 6 HP wide_follows rfl fun w_21 HP => ?_
        refine An.go H (.inr ((HP.tail rfl))) 4 [0, 2] [(53, (.string (bstr bk))), (14, (ii 2))] [] fun a H => ?_
        refine An.two 1 3 (by kernel_rfl) ?_ ?_
        ·refine Op.val H 54 (.agg #[(ii ac.id), (ii ac.from_), (ii ac.to_), (ii ac.pri), (.string (bstr ac.text))]) rfl (by kernel_rfl) (ex_loadN (vs := [(ii ac.id), (ii ac.from_), (ii ac.to_), (ii ac.pri), (.string (bstr ac.text))]) (by kernel_rfl) (by kernel_rfl) (by kernel_rfl) rfl (HP.cells 0 rfl 0 5 (by kernel_rfl))) fun a H => ?_
         refine ⟨.inr ((HP.tail rfl)), ?_⟩
         refine An.one 3 (by kernel_rfl) ?_
         refine Op.sh H HP 2 0 (.string (bstr bk)) rfl rfl fun w_22 a H HP => ?_
         refine ⟨.inl (by kernel_rfl), ?_⟩
         refine An.one 4 (by kernel_rfl) ?_
         refine Op.sh H HP 1 0 (ii 0) rfl rfl fun w_23 a H HP => ?_
         refine ⟨.inl (by kernel_rfl), ?_⟩
         refine An.one 5 (by kernel_rfl) ?_
         refine Op.sh H HP 3 0 (.agg #[(ii ac.id), (ii ac.from_), (ii ac.to_), (ii ac.pri), (.string (bstr ac.text))]) rfl rfl fun w_24 a H HP => ?_
         refine ⟨.inl (by kernel_rfl), ?_⟩
         refine An.done (by kernel_rfl) ?_
         refine then_normal ?_
         exact ⟨bk, 0, 2, H.keep (by kernel_rfl), HP, (by omega), (by rw [sndStep, hw]; simp only; rw [if_neg hns, if_pos (.inr (of_decide_eq_false g52p))]), (by omega), (by omega), (by omega)⟩
        ·refine Op.sh H HP 2 0 (.string (bstr bk)) rfl rfl fun w_25 a H HP => ?_
         refine ⟨.inl (by kernel_rfl), ?_⟩
         refine An.two 1 4 (by kernel_rfl) ?_ ?_
         ·refine Op.val H 54 (.agg #[(ii ac.id), (ii ac.from_), (ii ac.to_), (ii ac.pri), (.string (bstr ac.text))]) rfl (by kernel_rfl) (ex_loadN (vs := [(ii ac.id), (ii ac.from_), (ii ac.to_), (ii ac.pri), (.string (bstr ac.text))]) (by kernel_rfl) (by kernel_rfl) (by kernel_rfl) rfl (HP.cells 0 rfl 0 5 (by kernel_rfl))) fun a H => ?_
          refine ⟨.inl (by kernel_rfl), ?_⟩
          refine An.one 4 (by kernel_rfl) ?_
          refine Op.sh H HP 1 0 (ii 0) rfl rfl fun w_26 a H HP => ?_
          refine ⟨.inl (by kernel_rfl), ?_⟩
          refine An.one 5 (by kernel_rfl) ?_
          refine Op.sh H HP 3 0 (.agg #[(ii ac.id), (ii ac.from_), (ii ac.to_), (ii ac.pri), (.string (bstr ac.text))]) rfl rfl fun w_27 a H HP => ?_
          refine ⟨.inl (by kernel_rfl), ?_⟩
          refine An.done (by kernel_rfl) ?_
          refine then_normal ?_
          exact ⟨bk, 0, 2, H.keep (by kernel_rfl), HP, (by omega), (by rw [sndStep, hw]; simp only; rw [if_neg hns, if_pos (.inr (of_decide_eq_false g52p))]), (by omega), (by omega), (by omega)⟩
         ·refine Op.sh H HP 1 0 (ii 0) rfl rfl fun w_28 a H HP => ?_
          refine ⟨.inl (by kernel_rfl), ?_⟩
          refine An.one 1 (by kernel_rfl) ?_
          refine Op.val H 54 (.agg #[(ii ac.id), (ii ac.from_), (ii ac.to_), (ii ac.pri), (.string (bstr ac.text))]) rfl (by kernel_rfl) (ex_loadN (vs := [(ii ac.id), (ii ac.from_), (ii ac.to_), (ii ac.pri), (.string (bstr ac.text))]) (by kernel_rfl) (by kernel_rfl) (by kernel_rfl) rfl (HP.cells 0 rfl 0 5 (by kernel_rfl))) fun a H => ?_
          refine ⟨.inl (by kernel_rfl), ?_⟩
          refine An.one 5 (by kernel_rfl) ?_
          refine Op.sh H HP 3 0 (.agg #[(ii ac.id), (ii ac.from_), (ii ac.to_), (ii ac.pri), (.string (bstr ac.text))]) rfl rfl fun w_29 a H HP => ?_
          refine ⟨.inl (by kernel_rfl), ?_⟩
          refine An.done (by kernel_rfl) ?_
          refine then_normal ?_
          exact ⟨bk, 0, 2, H.keep (by kernel_rfl), HP, (by omega), (by rw [sndStep, hw]; simp only; rw [if_neg hns, if_pos (.inr (of_decide_eq_false g52p))]), (by omega), (by omega), (by omega)⟩
       ·have g52p := not_is_false g52
        refine wp_skip (then_normal ?_)
        have hse : s.sending = ac := of_decide_eq_true g52p
        have hok2 := hok g48p
        exact ⟨s.block, s.sent, 3, H.keep (by kernel_rfl), (by have hh := HP; rw [hse] at hh; exact hh), (by omega), (by rw [sndStep, hw]; simp only; rw [if_neg hns, if_neg (fun h => h.elim g48p fun h => h hse), ← hse]), (by omega), (by omega), (by omega)⟩
     ·
      rintro a w_30 ⟨bb, m, kk, H, HP, hm2, hstep, hml, hbl, hkk⟩
      refine wp_seq (w_region ?_)
      refine H.go HP 1 [(55, (ii m))] [1] fun a H => ?_
      refine H.valE 56 (ii (IntKind.i64.wrap ((m : Int).tdiv 2))) (ii ((m / 2 : Nat) : Int)) (by kernel_rfl) (by kernel_rfl) ((by rw [tdiv_nn _ _ (by omega), wrap_ini64 _ (by omega)]; exact congrArg (Value.int .i64) (by omega))) fun a H => ?_
      refine H.ge HP [(15, (ii ((m / 2 : Nat) : Int)))] [] fun a H => ?_
      refine then_normal (wp_seq (w_region ?_))
      refine H.alloc HP 16 (fun b => (pt b 0)) 94 [(.int .u8 0), (.int .u8 0)] (by kernel_rfl) (fun w => by kernel_rfl) fun b_31 w_32 a H HP => ?_
      refine wpList_nil (then_normal (wp_seq ?_))
      have HP := HP.front 0 rfl [bx b_31 94 [(.int .u8 0), (.int .u8 0)] true, bx b_2 23 [(ii ac.id), (ii ac.from_), (ii ac.to_), (ii ac.pri), (.string (bstr ac.text))] true, bx p8 3 [(ii m)] false, bx p7 9 [(.string (bstr bb))] false, bx p6 23 [(ii ac.id), (ii ac.from_), (ii ac.to_), (ii ac.pri), (.string (bstr ac.text))] false, bx p5 23 [(ii s.cue.id), (ii s.cue.from_), (ii s.cue.to_), (ii s.cue.pri), (.string (bstr s.cue.text))] false, bx p3 67 [(ii s.sees)] false, bx p2 36 [(.slice A l.length c)] false] (by kernel_rfl)
      refine An.start (fun v => Hp w v [bx b_2 23 [(ii ac.id), (ii ac.from_), (ii ac.to_), (ii ac.pri), (.string (bstr ac.text))] true, bx p8 3 [(ii m)] false, bx p7 9 [(.string (bstr bb))] false, bx p6 23 [(ii ac.id), (ii ac.from_), (ii ac.to_), (ii ac.pri), (.string (bstr ac.text))] false, bx p5 23 [(ii s.cue.id), (ii s.cue.from_), (ii s.cue.to_), (ii s.cue.pri), (.string (bstr s.cue.text))] false, bx p3 67 [(ii s.sees)] false, bx p2 36 [(.slice A l.length c)] false] [rowF 5 cuC A l, laidK]) 5 5 HP wide_follows rfl fun w_33 HP => ?_
      refine An.p H (.inr ((HP.tail rfl))) 0 57 (.slice (some ⟨b_31, 0, none⟩) 2 2) fun a H => ?_
      refine An.go H (.inr ((HP.tail rfl))) 2 [1, 2] [(58, (.string (bstr bb))), (59, (ii m))] [2, 1] fun a H => ?_
      refine An.pure H (.inr ((HP.tail rfl))) 3 60 (.string (bstr (bb.drop m))) rfl (by kernel_rfl) (by kernel_rfl) (fun _ _ _ h => h) (fun _ => ex_ssliceL (k := .i64) (l := bb) (i := (m : Int)) (a := m) (by kernel_rfl) (by kernel_rfl) (by kernel_rfl) (by omega) (by omega)) fun a H => ?_
      refine An.one 4 (by kernel_rfl) ?_
      have hcp := copy2 (b := bb) (m := m) hml
      refine Op.copyG H HP 0 61 b_31 0 2 2 94 [(.int .u8 0), (.int .u8 0)] (bb.drop m) true _ (dT := 58) (sT := 9) (ty := 3) (e := 5) rfl (by kernel_rfl) (by kernel_rfl) (by kernel_rfl) (by kernel_rfl) rfl (by simp; omega) rfl fun w_34 a H HP => ?_
      rw [hcp] at HP
      have HP : Hp w w_34 [bx b_31 94 [(.int .u8 (((bb.getD m 0).toNat : Nat) : Int)), (.int .u8 (((bb.getD (m + 1) 0).toNat : Nat) : Int))] true, bx b_2 23 [(ii ac.id), (ii ac.from_), (ii ac.to_), (ii ac.pri), (.string (bstr ac.text))] true, bx p8 3 [(ii m)] false, bx p7 9 [(.string (bstr bb))] false, bx p6 23 [(ii ac.id), (ii ac.from_), (ii ac.to_), (ii ac.pri), (.string (bstr ac.text))] false, bx p5 23 [(ii s.cue.id), (ii s.cue.from_), (ii s.cue.to_), (ii s.cue.pri), (.string (bstr s.cue.text))] false, bx p3 67 [(ii s.sees)] false, bx p2 36 [(.slice A l.length c)] false] [rowF 5 cuC A l, laidK] := HP
      refine ⟨.inr ((HP.tail rfl)), ?_⟩
      refine An.done (by kernel_rfl) ?_
      refine then_normal (wp_seq (w_region ?_))
      refine H.go HP 1 [(62, (ii m))] [2] fun a H => ?_
      refine H.valE 63 (ii (IntKind.i64.wrap ((m : Int) + 2))) (ii ((m + 2 : Nat) : Int)) (by kernel_rfl) (by kernel_rfl) ((by rw [wrap_ini64 _ (by omega)]; exact congrArg (Value.int .i64) (by omega))) fun a H => ?_
      refine H.sh HP 2 0 (ii ((m + 2 : Nat) : Int)) rfl fun w_35 a H HP => ?_
      refine wpList_nil (then_normal (wp_seq (wp_seq (w_region ?_))))
      refine H.ge HP [(67, (.bool (decide (((m + 2 : Nat) : Int) ≥ (bb.length : Int)))))] [2, 3] fun a H => ?_
      refine then_normal ?_
      refine w_if H rfl (fun g67 => ?_) (fun g67 => ?_)
      ·have g67p := of_decide_eq_true g67
       have HP := HP.front 1 rfl [bx b_2 23 [(ii ac.id), (ii ac.from_), (ii ac.to_), (ii ac.pri), (.string (bstr ac.text))] true, bx b_31 94 [(.int .u8 (((bb.getD m 0).toNat : Nat) : Int)), (.int .u8 (((bb.getD (m + 1) 0).toNat : Nat) : Int))] true, bx p8 3 [(ii ((m + 2 : Nat) : Int))] false, bx p7 9 [(.string (bstr bb))] false, bx p6 23 [(ii ac.id), (ii ac.from_), (ii ac.to_), (ii ac.pri), (.string (bstr ac.text))] false, bx p5 23 [(ii s.cue.id), (ii s.cue.from_), (ii s.cue.to_), (ii s.cue.pri), (.string (bstr s.cue.text))] false, bx p3 67 [(ii s.sees)] false, bx p2 36 [(.slice A l.length c)] false] (by kernel_rfl)
       refine An.start (fun v => Hp w v [bx b_31 94 [(.int .u8 (((bb.getD m 0).toNat : Nat) : Int)), (.int .u8 (((bb.getD (m + 1) 0).toNat : Nat) : Int))] true, bx p8 3 [(ii ((m + 2 : Nat) : Int))] false, bx p7 9 [(.string (bstr bb))] false, bx p6 23 [(ii ac.id), (ii ac.from_), (ii ac.to_), (ii ac.pri), (.string (bstr ac.text))] false, bx p5 23 [(ii s.cue.id), (ii s.cue.from_), (ii s.cue.to_), (ii s.cue.pri), (.string (bstr s.cue.text))] false, bx p3 67 [(ii s.sees)] false, bx p2 36 [(.slice A l.length c)] false] [rowF 5 cuC A l, laidK]) 1 4 HP wide_follows rfl fun w_36 HP => ?_
       refine An.two 0 1 (by kernel_rfl) ?_ ?_
       ·refine Op.val H 68 (.agg #[(ii ac.id), (ii ac.from_), (ii ac.to_), (ii ac.pri), (.string (bstr ac.text))]) rfl (by kernel_rfl) (ex_loadN (vs := [(ii ac.id), (ii ac.from_), (ii ac.to_), (ii ac.pri), (.string (bstr ac.text))]) (by kernel_rfl) (by kernel_rfl) (by kernel_rfl) rfl (HP.cells 0 rfl 0 5 (by kernel_rfl))) fun a H => ?_
        refine ⟨.inr ((HP.tail rfl)), ?_⟩
        refine An.one 1 (by kernel_rfl) ?_
        refine Op.sh H HP 6 0 (ii 2) rfl rfl fun w_37 a H HP => ?_
        refine ⟨.inl (by kernel_rfl), ?_⟩
        refine An.one 2 (by kernel_rfl) ?_
        refine Op.sh H HP 5 0 (.agg #[(ii ac.id), (ii ac.from_), (ii ac.to_), (ii ac.pri), (.string (bstr ac.text))]) rfl rfl fun w_38 a H HP => ?_
        refine ⟨.inl (by kernel_rfl), ?_⟩
        refine An.one 3 (by kernel_rfl) ?_
        refine Op.sh H HP 3 0 (.string (bstr ([]))) rfl rfl fun w_39 a H HP => ?_
        refine ⟨.inl (by kernel_rfl), ?_⟩
        refine An.done (by kernel_rfl) ?_
        refine then_normal (wp_seq (w_region ?_))
        refine H.go HP 2 [(69, (ii kk)), (70, (ii ((m / 2 : Nat) : Int)))] [] fun a H => ?_
        refine H.v 71 (pt b_31 0) fun a H => ?_
        refine H.go HP 1 [(72, (.int .u8 (((bb.getD m 0).toNat : Nat) : Int)))] [1] fun a H => ?_
        refine H.v 73 (pt b_31 1) fun a H => ?_
        refine H.go HP 1 [(74, (.int .u8 (((bb.getD (m + 1) 0).toNat : Nat) : Int)))] [1] fun a H => ?_
        refine H.call 75 (by kernel_rfl) (Eq.trans (by kernel_rfl : _ = (callFunc 33 #[(ii kk), (ii ((m / 2 : Nat) : Int)), (.int .u8 (((bb.getD m 0).toNat : Nat) : Int)), (.int .u8 (((bb.getD (m + 1) 0).toNat : Nat) : Int))]).run Tryd.prog w_39) (Tryd.call33 _ _)) (code_any kk (m / 2) (bb.getD m 0) (bb.getD (m + 1) 0) w_39 (by omega) (by omega)) ?_
        rintro e w_40 ⟨rfl, hbc⟩
        refine ⟨_, rfl, ?_⟩
        intro a H
        have HP := HP.next hbc
        refine H.ge HP [(8, (.string (bstr ([UInt8.ofNat (64 * kk + m / 2), bb.getD m 0, bb.getD (m + 1) 0]))))] [] fun a H => ?_
        refine then_normal (wp_ret ?_)
        refine H.ret1 (fn := Tryd.f47) Tryd.results47 (RV.tmp_ (v := (.string (bstr ([UInt8.ofNat (64 * kk + m / 2), bb.getD m 0, bb.getD (m + 1) 0])))) (by kernel_rfl)) ?_
        have HP : Hp w w_40 [bx b_2 23 [(ii ac.id), (ii ac.from_), (ii ac.to_), (ii ac.pri), (.string (bstr ac.text))] true, bx b_31 94 [(.int .u8 (((bb.getD m 0).toNat : Nat) : Int)), (.int .u8 (((bb.getD (m + 1) 0).toNat : Nat) : Int))] true, bx p8 3 [(ii ((m + 2 : Nat) : Int))] false, bx p7 9 [(.string (bstr ([])))] false, bx p6 23 [(ii ac.id), (ii ac.from_), (ii ac.to_), (ii ac.pri), (.string (bstr ac.text))] false, bx p5 23 [(ii ac.id), (ii ac.from_), (ii ac.to_), (ii ac.pri), (.string (bstr ac.text))] false, bx p3 67 [(ii 2)] false, bx p2 36 [(.slice A l.length c)] false] [rowF 5 cuC A l, laidK] := HP
        refine snd_end (v := [UInt8.ofNat (64 * kk + m / 2), bb.getD m 0, bb.getD (m + 1) 0]) (s' := ⟨2, ac, ac, [], m + 2⟩) (by rw [hstep, sndPart, if_pos (by show bb.length ≤ m + 2; omega)]) hnd (HP.agreeF _ fun x hx => ?_) (HP.at_ 7 rfl) (HP.at_ 6 rfl) (HP.at_ 5 rfl) (HP.at_ 4 rfl) (HP.at_ 3 rfl) (HP.at_ 2 rfl)
        simp only [List.mem_cons, List.not_mem_nil, or_false] at hx
        rcases hx with rfl | rfl | rfl | rfl | rfl | rfl | rfl | rfl <;> simp [bx, sndFp]
       ·refine Op.sh H HP 6 0 (ii 2) rfl rfl fun w_41 a H HP => ?_
        refine ⟨.inl (by kernel_rfl), ?_⟩
        refine An.one 0 (by kernel_rfl) ?_
        refine Op.val H 68 (.agg #[(ii ac.id), (ii ac.from_), (ii ac.to_), (ii ac.pri), (.string (bstr ac.text))]) rfl (by kernel_rfl) (ex_loadN (vs := [(ii ac.id), (ii ac.from_), (ii ac.to_), (ii ac.pri), (.string (bstr ac.text))]) (by kernel_rfl) (by kernel_rfl) (by kernel_rfl) rfl (HP.cells 0 rfl 0 5 (by kernel_rfl))) fun a H => ?_
        refine ⟨.inl (by kernel_rfl), ?_⟩
        refine An.one 2 (by kernel_rfl) ?_
        refine Op.sh H HP 5 0 (.agg #[(ii ac.id), (ii ac.from_), (ii ac.to_), (ii ac.pri), (.string (bstr ac.text))]) rfl rfl fun w_42 a H HP => ?_
        refine ⟨.inl (by kernel_rfl), ?_⟩
        refine An.one 3 (by kernel_rfl) ?_
        refine Op.sh H HP 3 0 (.string (bstr ([]))) rfl rfl fun w_43 a H HP => ?_
        refine ⟨.inl (by kernel_rfl), ?_⟩
        refine An.done (by kernel_rfl) ?_
        refine then_normal (wp_seq (w_region ?_))
        refine H.go HP 2 [(69, (ii kk)), (70, (ii ((m / 2 : Nat) : Int)))] [] fun a H => ?_
        refine H.v 71 (pt b_31 0) fun a H => ?_
        refine H.go HP 1 [(72, (.int .u8 (((bb.getD m 0).toNat : Nat) : Int)))] [1] fun a H => ?_
        refine H.v 73 (pt b_31 1) fun a H => ?_
        refine H.go HP 1 [(74, (.int .u8 (((bb.getD (m + 1) 0).toNat : Nat) : Int)))] [1] fun a H => ?_
        refine H.call 75 (by kernel_rfl) (Eq.trans (by kernel_rfl : _ = (callFunc 33 #[(ii kk), (ii ((m / 2 : Nat) : Int)), (.int .u8 (((bb.getD m 0).toNat : Nat) : Int)), (.int .u8 (((bb.getD (m + 1) 0).toNat : Nat) : Int))]).run Tryd.prog w_43) (Tryd.call33 _ _)) (code_any kk (m / 2) (bb.getD m 0) (bb.getD (m + 1) 0) w_43 (by omega) (by omega)) ?_
        rintro e w_44 ⟨rfl, hbc⟩
        refine ⟨_, rfl, ?_⟩
        intro a H
        have HP := HP.next hbc
        refine H.ge HP [(8, (.string (bstr ([UInt8.ofNat (64 * kk + m / 2), bb.getD m 0, bb.getD (m + 1) 0]))))] [] fun a H => ?_
        refine then_normal (wp_ret ?_)
        refine H.ret1 (fn := Tryd.f47) Tryd.results47 (RV.tmp_ (v := (.string (bstr ([UInt8.ofNat (64 * kk + m / 2), bb.getD m 0, bb.getD (m + 1) 0])))) (by kernel_rfl)) ?_
        have HP : Hp w w_44 [bx b_2 23 [(ii ac.id), (ii ac.from_), (ii ac.to_), (ii ac.pri), (.string (bstr ac.text))] true, bx b_31 94 [(.int .u8 (((bb.getD m 0).toNat : Nat) : Int)), (.int .u8 (((bb.getD (m + 1) 0).toNat : Nat) : Int))] true, bx p8 3 [(ii ((m + 2 : Nat) : Int))] false, bx p7 9 [(.string (bstr ([])))] false, bx p6 23 [(ii ac.id), (ii ac.from_), (ii ac.to_), (ii ac.pri), (.string (bstr ac.text))] false, bx p5 23 [(ii ac.id), (ii ac.from_), (ii ac.to_), (ii ac.pri), (.string (bstr ac.text))] false, bx p3 67 [(ii 2)] false, bx p2 36 [(.slice A l.length c)] false] [rowF 5 cuC A l, laidK] := HP
        refine snd_end (v := [UInt8.ofNat (64 * kk + m / 2), bb.getD m 0, bb.getD (m + 1) 0]) (s' := ⟨2, ac, ac, [], m + 2⟩) (by rw [hstep, sndPart, if_pos (by show bb.length ≤ m + 2; omega)]) hnd (HP.agreeF _ fun x hx => ?_) (HP.at_ 7 rfl) (HP.at_ 6 rfl) (HP.at_ 5 rfl) (HP.at_ 4 rfl) (HP.at_ 3 rfl) (HP.at_ 2 rfl)
        simp only [List.mem_cons, List.not_mem_nil, or_false] at hx
        rcases hx with rfl | rfl | rfl | rfl | rfl | rfl | rfl | rfl <;> simp [bx, sndFp]
      ·have g67p := of_decide_eq_false g67
       refine wp_skip (then_normal (wp_seq (w_region ?_)))
       refine H.go HP 2 [(69, (ii kk)), (70, (ii ((m / 2 : Nat) : Int)))] [] fun a H => ?_
       refine H.v 71 (pt b_31 0) fun a H => ?_
       refine H.go HP 1 [(72, (.int .u8 (((bb.getD m 0).toNat : Nat) : Int)))] [0] fun a H => ?_
       refine H.v 73 (pt b_31 1) fun a H => ?_
       refine H.go HP 1 [(74, (.int .u8 (((bb.getD (m + 1) 0).toNat : Nat) : Int)))] [0] fun a H => ?_
       refine H.call 75 (by kernel_rfl) (Eq.trans (by kernel_rfl : _ = (callFunc 33 #[(ii kk), (ii ((m / 2 : Nat) : Int)), (.int .u8 (((bb.getD m 0).toNat : Nat) : Int)), (.int .u8 (((bb.getD (m + 1) 0).toNat : Nat) : Int))]).run Tryd.prog w_35) (Tryd.call33 _ _)) (code_any kk (m / 2) (bb.getD m 0) (bb.getD (m + 1) 0) w_35 (by omega) (by omega)) ?_
       rintro e w_45 ⟨rfl, hbc⟩
       refine ⟨_, rfl, ?_⟩
       intro a H
       have HP := HP.next hbc
       refine H.ge HP [(8, (.string (bstr ([UInt8.ofNat (64 * kk + m / 2), bb.getD m 0, bb.getD (m + 1) 0]))))] [] fun a H => ?_
       refine then_normal (wp_ret ?_)
       refine H.ret1 (fn := Tryd.f47) Tryd.results47 (RV.tmp_ (v := (.string (bstr ([UInt8.ofNat (64 * kk + m / 2), bb.getD m 0, bb.getD (m + 1) 0])))) (by kernel_rfl)) ?_
       have HP : Hp w w_45 [bx b_31 94 [(.int .u8 (((bb.getD m 0).toNat : Nat) : Int)), (.int .u8 (((bb.getD (m + 1) 0).toNat : Nat) : Int))] true, bx b_2 23 [(ii ac.id), (ii ac.from_), (ii ac.to_), (ii ac.pri), (.string (bstr ac.text))] true, bx p8 3 [(ii ((m + 2 : Nat) : Int))] false, bx p7 9 [(.string (bstr bb))] false, bx p6 23 [(ii ac.id), (ii ac.from_), (ii ac.to_), (ii ac.pri), (.string (bstr ac.text))] false, bx p5 23 [(ii s.cue.id), (ii s.cue.from_), (ii s.cue.to_), (ii s.cue.pri), (.string (bstr s.cue.text))] false, bx p3 67 [(ii s.sees)] false, bx p2 36 [(.slice A l.length c)] false] [rowF 5 cuC A l, laidK] := HP
       refine snd_end (v := [UInt8.ofNat (64 * kk + m / 2), bb.getD m 0, bb.getD (m + 1) 0]) (s' := ⟨s.sees, s.cue, ac, bb, m + 2⟩) (by rw [hstep, sndPart, if_neg (by show ¬ bb.length ≤ m + 2; omega)]) hnd (HP.agreeF _ fun x hx => ?_) (HP.at_ 7 rfl) (HP.at_ 6 rfl) (HP.at_ 5 rfl) (HP.at_ 4 rfl) (HP.at_ 3 rfl) (HP.at_ 2 rfl)
       simp only [List.mem_cons, List.not_mem_nil, or_false] at hx
       rcases hx with rfl | rfl | rfl | rfl | rfl | rfl | rfl | rfl <;> simp [bx, sndFp]
   ·have g40p := ne_of_beq_false g40
    refine H.ge HP [(44, (.bool false))] [] fun a H => ?_
    refine then_normal ?_
    refine w_iff H rfl ?_
    refine wp_skip (then_normal (wp_seq ?_))
    have hns : ¬ (s.sees = 2 ∧ s.cue = ac) := by intro hh; first | (have := hh.1; omega) | (have := hh.2; simp_all)
    refine w_region ?_
    refine H.ge HP [(14, (ii 3))] [] fun a H => ?_
    refine then_normal ?_
    refine w_cut (fun a wv => ∃ (bb : Str), ∃ (m : Nat), ∃ (kk : Nat), Sl 76 [(9, (pt b_2 0)), (14, (ii kk)), (1, (pt p2 0)), (2, (pt p7 0)), (3, (pt p3 0)), (4, (pt p5 0)), (5, (pt p6 0)), (6, (pt p8 0))] a ∧ Hp w wv [bx b_2 23 [(ii ac.id), (ii ac.from_), (ii ac.to_), (ii ac.pri), (.string (bstr ac.text))] true, bx p8 3 [(ii m)] false, bx p7 9 [(.string (bstr bb))] false, bx p6 23 [(ii ac.id), (ii ac.from_), (ii ac.to_), (ii ac.pri), (.string (bstr ac.text))] false, bx p5 23 [(ii s.cue.id), (ii s.cue.from_), (ii s.cue.to_), (ii s.cue.pri), (.string (bstr s.cue.text))] false, bx p3 67 [(ii s.sees)] false, bx p2 36 [(.slice A l.length c)] false] [rowF 5 cuC A l, laidK] ∧ (m % 2 = 0) ∧ (sndStep l fr s = sndPart ac (64 * kk) ⟨s.sees, s.cue, ac, bb, m⟩) ∧ (m < bb.length) ∧ (bb.length ≤ 96) ∧ (kk = 2 ∨ kk = 3)) ?_ ?_
    ·
     refine wp_seq (w_region ?_)
     refine H.go HP 1 [(46, (.string (bstr s.block)))] [2] fun a H => ?_
     refine H.valE 47 (.bool ((bstr s.block).toList == (bstr ([])).toList)) (.bool (s.block == ([]))) (by kernel_rfl) (by kernel_rfl) ((congrArg Value.bool (bstr_eq _ _))) fun a H => ?_
     refine H.go HP 1 [(48, (.bool (s.block == ([]))))] [] fun a H => ?_
     refine H.split 48 rfl (fun g48 H => ?_) (fun g48 H => ?_)
     ·have g48p := eq_of_beq g48
      refine H.ge HP [(52, (.bool true))] [] fun a H => ?_
      refine then_normal ?_
      refine w_ift H rfl ?_
      have HP := HP.front 0 rfl [bx b_2 23 [(ii ac.id), (ii ac.from_), (ii ac.to_), (ii ac.pri), (.string (bstr ac.text))] true, bx p8 3 [(ii s.sent)] false, bx p7 9 [(.string (bstr s.block))] false, bx p6 23 [(ii s.sending.id), (ii s.sending.from_), (ii s.sending.to_), (ii s.sending.pri), (.string (bstr s.sending.text))] false, bx p5 23 [(ii s.cue.id), (ii s.cue.from_), (ii s.cue.to_), (ii s.cue.pri), (.string (bstr s.cue.text))] false, bx p3 67 [(ii s.sees)] false, bx p2 36 [(.slice A l.length c)] false] (by kernel_rfl)
      refine An.start (fun v => Hp w v [bx p8 3 [(ii s.sent)] false, bx p7 9 [(.string (bstr s.block))] false, bx p6 23 [(ii s.sending.id), (ii s.sending.from_), (ii s.sending.to_), (ii s.sending.pri), (.string (bstr s.sending.text))] false, bx p5 23 [(ii s.cue.id), (ii s.cue.from_), (ii s.cue.to_), (ii s.cue.pri), (.string (bstr s.cue.text))] false, bx p3 67 [(ii s.sees)] false, bx p2 36 [(.slice A l.length c)] false] [rowF 5 cuC A l, laidK]) 3 6 HP wide_follows rfl fun w_46 HP => ?_
      refine An.go H (.inr ((HP.tail rfl))) 4 [0, 2] [(53, (.string (bstr bk))), (14, (ii 2))] [] fun a H => ?_
      refine An.two 1 3 (by kernel_rfl) ?_ ?_
      ·refine Op.val H 54 (.agg #[(ii ac.id), (ii ac.from_), (ii ac.to_), (ii ac.pri), (.string (bstr ac.text))]) rfl (by kernel_rfl) (ex_loadN (vs := [(ii ac.id), (ii ac.from_), (ii ac.to_), (ii ac.pri), (.string (bstr ac.text))]) (by kernel_rfl) (by kernel_rfl) (by kernel_rfl) rfl (HP.cells 0 rfl 0 5 (by kernel_rfl))) fun a H => ?_
       refine ⟨.inr ((HP.tail rfl)), ?_⟩
       refine An.one 3 (by kernel_rfl) ?_
       refine Op.sh H HP 2 0 (.string (bstr bk)) rfl rfl fun w_47 a H HP => ?_
       refine ⟨.inl (by kernel_rfl), ?_⟩
       refine An.one 4 (by kernel_rfl) ?_
       refine Op.sh H HP 1 0 (ii 0) rfl rfl fun w_48 a H HP => ?_
       refine ⟨.inl (by kernel_rfl), ?_⟩
       refine An.one 5 (by kernel_rfl) ?_
       refine Op.sh H HP 3 0 (.agg #[(ii ac.id), (ii ac.from_), (ii ac.to_), (ii ac.pri), (.string (bstr ac.text))]) rfl rfl fun w_49 a H HP => ?_
       refine ⟨.inl (by kernel_rfl), ?_⟩
       refine An.done (by kernel_rfl) ?_
       refine then_normal ?_
       exact ⟨bk, 0, 2, H.keep (by kernel_rfl), HP, (by omega), (by rw [sndStep, hw]; simp only; rw [if_neg hns, if_pos (.inl g48p)]), (by omega), (by omega), (by omega)⟩
      ·refine Op.sh H HP 2 0 (.string (bstr bk)) rfl rfl fun w_50 a H HP => ?_
       refine ⟨.inl (by kernel_rfl), ?_⟩
       refine An.two 1 4 (by kernel_rfl) ?_ ?_
       ·refine Op.val H 54 (.agg #[(ii ac.id), (ii ac.from_), (ii ac.to_), (ii ac.pri), (.string (bstr ac.text))]) rfl (by kernel_rfl) (ex_loadN (vs := [(ii ac.id), (ii ac.from_), (ii ac.to_), (ii ac.pri), (.string (bstr ac.text))]) (by kernel_rfl) (by kernel_rfl) (by kernel_rfl) rfl (HP.cells 0 rfl 0 5 (by kernel_rfl))) fun a H => ?_
        refine ⟨.inl (by kernel_rfl), ?_⟩
        refine An.one 4 (by kernel_rfl) ?_
        refine Op.sh H HP 1 0 (ii 0) rfl rfl fun w_51 a H HP => ?_
        refine ⟨.inl (by kernel_rfl), ?_⟩
        refine An.one 5 (by kernel_rfl) ?_
        refine Op.sh H HP 3 0 (.agg #[(ii ac.id), (ii ac.from_), (ii ac.to_), (ii ac.pri), (.string (bstr ac.text))]) rfl rfl fun w_52 a H HP => ?_
        refine ⟨.inl (by kernel_rfl), ?_⟩
        refine An.done (by kernel_rfl) ?_
        refine then_normal ?_
        exact ⟨bk, 0, 2, H.keep (by kernel_rfl), HP, (by omega), (by rw [sndStep, hw]; simp only; rw [if_neg hns, if_pos (.inl g48p)]), (by omega), (by omega), (by omega)⟩
       ·refine Op.sh H HP 1 0 (ii 0) rfl rfl fun w_53 a H HP => ?_
        refine ⟨.inl (by kernel_rfl), ?_⟩
        refine An.one 1 (by kernel_rfl) ?_
        refine Op.val H 54 (.agg #[(ii ac.id), (ii ac.from_), (ii ac.to_), (ii ac.pri), (.string (bstr ac.text))]) rfl (by kernel_rfl) (ex_loadN (vs := [(ii ac.id), (ii ac.from_), (ii ac.to_), (ii ac.pri), (.string (bstr ac.text))]) (by kernel_rfl) (by kernel_rfl) (by kernel_rfl) rfl (HP.cells 0 rfl 0 5 (by kernel_rfl))) fun a H => ?_
        refine ⟨.inl (by kernel_rfl), ?_⟩
        refine An.one 5 (by kernel_rfl) ?_
        refine Op.sh H HP 3 0 (.agg #[(ii ac.id), (ii ac.from_), (ii ac.to_), (ii ac.pri), (.string (bstr ac.text))]) rfl rfl fun w_54 a H HP => ?_
        refine ⟨.inl (by kernel_rfl), ?_⟩
        refine An.done (by kernel_rfl) ?_
        refine then_normal ?_
        exact ⟨bk, 0, 2, H.keep (by kernel_rfl), HP, (by omega), (by rw [sndStep, hw]; simp only; rw [if_neg hns, if_pos (.inl g48p)]), (by omega), (by omega), (by omega)⟩
     ·have g48p := ne_of_beq_false g48
      refine H.go HP 2 [(49, (.agg #[(ii s.sending.id), (ii s.sending.from_), (ii s.sending.to_), (ii s.sending.pri), (.string (bstr s.sending.text))])), (50, (.agg #[(ii ac.id), (ii ac.from_), (ii ac.to_), (ii ac.pri), (.string (bstr ac.text))]))] [3, 0] fun a H => ?_
      refine H.u 51 (.bool (!decide (s.sending = ac))) (ex_neC (a := s.sending) (b := ac) (by kernel_rfl) (by kernel_rfl)) fun a H => ?_
      refine H.ge HP [(52, (.bool (!decide (s.sending = ac))))] [] fun a H => ?_
      refine then_normal ?_
      refine w_if H rfl (fun g52 => ?_) (fun g52 => ?_)
      ·have g52p := not_is_true g52
       have HP := HP.front 0 rfl [bx b_2 23 [(ii ac.id), (ii ac.from_), (ii ac.to_), (ii ac.pri), (.string (bstr ac.text))] true, bx p8 3 [(ii s.sent)] false, bx p7 9 [(.string (bstr s.block))] false, bx p6 23 [(ii s.sending.id), (ii s.sending.from_), (ii s.sending.to_), (ii s.sending.pri), (.string (bstr s.sending.text))] false, bx p5 23 [(ii s.cue.id), (ii s.cue.from_), (ii s.cue.to_), (ii s.cue.pri), (.string (bstr s.cue.text))] false, bx p3 67 [(ii s.sees)] false, bx p2 36 [(.slice A l.length c)] false] (by kernel_rfl)
       refine An.start (fun v => Hp w v [bx p8 3 [(ii s.sent)] false, bx p7 9 [(.string (bstr s.block))] false, bx p6 23 [(ii s.sending.id), (ii s.sending.from_), (ii s.sending.to_), (ii s.sending.pri), (.string (bstr s.sending.text))] false, bx p5 23 [(ii s.cue.id), (ii s.cue.from_), (ii s.cue.to_), (ii s.cue.pri), (.string (bstr s.cue.text))] false, bx p3 67 [(ii s.sees)] false, bx p2 36 [(.slice A l.length c)] false] [rowF 5 cuC A l, laidK]) 3 6 HP wide_follows rfl fun w_55 HP => ?_
       refine An.go H (.inr ((HP.tail rfl))) 4 [0, 2] [(53, (.string (bstr bk))), (14, (ii 2))] [] fun a H => ?_
       refine An.two 1 3 (by kernel_rfl) ?_ ?_
       ·refine Op.val H 54 (.agg #[(ii ac.id), (ii ac.from_), (ii ac.to_), (ii ac.pri), (.string (bstr ac.text))]) rfl (by kernel_rfl) (ex_loadN (vs := [(ii ac.id), (ii ac.from_), (ii ac.to_), (ii ac.pri), (.string (bstr ac.text))]) (by kernel_rfl) (by kernel_rfl) (by kernel_rfl) rfl (HP.cells 0 rfl 0 5 (by kernel_rfl))) fun a H => ?_
        refine ⟨.inr ((HP.tail rfl)), ?_⟩
        refine An.one 3 (by kernel_rfl) ?_
        refine Op.sh H HP 2 0 (.string (bstr bk)) rfl rfl fun w_56 a H HP => ?_
        refine ⟨.inl (by kernel_rfl), ?_⟩
        refine An.one 4 (by kernel_rfl) ?_
        refine Op.sh H HP 1 0 (ii 0) rfl rfl fun w_57 a H HP => ?_
        refine ⟨.inl (by kernel_rfl), ?_⟩
        refine An.one 5 (by kernel_rfl) ?_
        refine Op.sh H HP 3 0 (.agg #[(ii ac.id), (ii ac.from_), (ii ac.to_), (ii ac.pri), (.string (bstr ac.text))]) rfl rfl fun w_58 a H HP => ?_
        refine ⟨.inl (by kernel_rfl), ?_⟩
        refine An.done (by kernel_rfl) ?_
        refine then_normal ?_
        exact ⟨bk, 0, 2, H.keep (by kernel_rfl), HP, (by omega), (by rw [sndStep, hw]; simp only; rw [if_neg hns, if_pos (.inr (of_decide_eq_false g52p))]), (by omega), (by omega), (by omega)⟩
       ·refine Op.sh H HP 2 0 (.string (bstr bk)) rfl rfl fun w_59 a H HP => ?_
        refine ⟨.inl (by kernel_rfl), ?_⟩
        refine An.two 1 4 (by kernel_rfl) ?_ ?_
        ·refine Op.val H 54 (.agg #[(ii ac.id), (ii ac.from_), (ii ac.to_), (ii ac.pri), (.string (bstr ac.text))]) rfl (by kernel_rfl) (ex_loadN (vs := [(ii ac.id), (ii ac.from_), (ii ac.to_), (ii ac.pri), (.string (bstr ac.text))]) (by kernel_rfl) (by kernel_rfl) (by kernel_rfl) rfl (HP.cells 0 rfl 0 5 (by kernel_rfl))) fun a H => ?_
         refine ⟨.inl (by kernel_rfl), ?_⟩
         refine An.one 4 (by kernel_rfl) ?_
         refine Op.sh H HP 1 0 (ii 0) rfl rfl fun w_60 a H HP => ?_
         refine ⟨.inl (by kernel_rfl), ?_⟩
         refine An.one 5 (by kernel_rfl) ?_
         refine Op.sh H HP 3 0 (.agg #[(ii ac.id), (ii ac.from_), (ii ac.to_), (ii ac.pri), (.string (bstr ac.text))]) rfl rfl fun w_61 a H HP => ?_
         refine ⟨.inl (by kernel_rfl), ?_⟩
         refine An.done (by kernel_rfl) ?_
         refine then_normal ?_
         exact ⟨bk, 0, 2, H.keep (by kernel_rfl), HP, (by omega), (by rw [sndStep, hw]; simp only; rw [if_neg hns, if_pos (.inr (of_decide_eq_false g52p))]), (by omega), (by omega), (by omega)⟩
        ·refine Op.sh H HP 1 0 (ii 0) rfl rfl fun w_62 a H HP => ?_
         refine ⟨.inl (by kernel_rfl), ?_⟩
         refine An.one 1 (by kernel_rfl) ?_
         refine Op.val H 54 (.agg #[(ii ac.id), (ii ac.from_), (ii ac.to_), (ii ac.pri), (.string (bstr ac.text))]) rfl (by kernel_rfl) (ex_loadN (vs := [(ii ac.id), (ii ac.from_), (ii ac.to_), (ii ac.pri), (.string (bstr ac.text))]) (by kernel_rfl) (by kernel_rfl) (by kernel_rfl) rfl (HP.cells 0 rfl 0 5 (by kernel_rfl))) fun a H => ?_
         refine ⟨.inl (by kernel_rfl), ?_⟩
         refine An.one 5 (by kernel_rfl) ?_
         refine Op.sh H HP 3 0 (.agg #[(ii ac.id), (ii ac.from_), (ii ac.to_), (ii ac.pri), (.string (bstr ac.text))]) rfl rfl fun w_63 a H HP => ?_
         refine ⟨.inl (by kernel_rfl), ?_⟩
         refine An.done (by kernel_rfl) ?_
         refine then_normal ?_
         exact ⟨bk, 0, 2, H.keep (by kernel_rfl), HP, (by omega), (by rw [sndStep, hw]; simp only; rw [if_neg hns, if_pos (.inr (of_decide_eq_false g52p))]), (by omega), (by omega), (by omega)⟩
      ·have g52p := not_is_false g52
       refine wp_skip (then_normal ?_)
       have hse : s.sending = ac := of_decide_eq_true g52p
       have hok2 := hok g48p
       exact ⟨s.block, s.sent, 3, H.keep (by kernel_rfl), (by have hh := HP; rw [hse] at hh; exact hh), (by omega), (by rw [sndStep, hw]; simp only; rw [if_neg hns, if_neg (fun h => h.elim g48p fun h => h hse), ← hse]), (by omega), (by omega), (by omega)⟩
    ·
     rintro a w_64 ⟨bb, m, kk, H, HP, hm2, hstep, hml, hbl, hkk⟩
     refine wp_seq (w_region ?_)
     refine H.go HP 1 [(55, (ii m))] [1] fun a H => ?_
     refine H.valE 56 (ii (IntKind.i64.wrap ((m : Int).tdiv 2))) (ii ((m / 2 : Nat) : Int)) (by kernel_rfl) (by kernel_rfl) ((by rw [tdiv_nn _ _ (by omega), wrap_ini64 _ (by omega)]; exact congrArg (Value.int .i64) (by omega))) fun a H => ?_
     refine H.ge HP [(15, (ii ((m / 2 : Nat) : Int)))] [] fun a H => ?_
     refine then_normal (wp_seq (w_region ?_))
     refine H.alloc HP 16 (fun b => (pt b 0)) 94 [(.int .u8 0), (.int .u8 0)] (by kernel_rfl) (fun w => by kernel_rfl) fun b_65 w_66 a H HP => ?_
     refine wpList_nil (then_normal (wp_seq ?_))
     have HP := HP.front 0 rfl [bx b_65 94 [(.int .u8 0), (.int .u8 0)] true, bx b_2 23 [(ii ac.id), (ii ac.from_), (ii ac.to_), (ii ac.pri), (.string (bstr ac.text))] true, bx p8 3 [(ii m)] false, bx p7 9 [(.string (bstr bb))] false, bx p6 23 [(ii ac.id), (ii ac.from_), (ii ac.to_), (ii ac.pri), (.string (bstr ac.text))] false, bx p5 23 [(ii s.cue.id), (ii s.cue.from_), (ii s.cue.to_), (ii s.cue.pri), (.string (bstr s.cue.text))] false, bx p3 67 [(ii s.sees)] false, bx p2 36 [(.slice A l.length c)] false] (by kernel_rfl)
     refine An.start (fun v => Hp w v [bx b_2 23 [(ii ac.id), (ii ac.from_), (ii ac.to_), (ii ac.pri), (.string (bstr ac.text))] true, bx p8 3 [(ii m)] false, bx p7 9 [(.string (bstr bb))] false, bx p6 23 [(ii ac.id), (ii ac.from_), (ii ac.to_), (ii ac.pri), (.string (bstr ac.text))] false, bx p5 23 [(ii s.cue.id), (ii s.cue.from_), (ii s.cue.to_), (ii s.cue.pri), (.string (bstr s.cue.text))] false, bx p3 67 [(ii s.sees)] false, bx p2 36 [(.slice A l.length c)] false] [rowF 5 cuC A l, laidK]) 5 5 HP wide_follows rfl fun w_67 HP => ?_
     refine An.p H (.inr ((HP.tail rfl))) 0 57 (.slice (some ⟨b_65, 0, none⟩) 2 2) fun a H => ?_
     refine An.go H (.inr ((HP.tail rfl))) 2 [1, 2] [(58, (.string (bstr bb))), (59, (ii m))] [2, 1] fun a H => ?_
     refine An.pure H (.inr ((HP.tail rfl))) 3 60 (.string (bstr (bb.drop m))) rfl (by kernel_rfl) (by kernel_rfl) (fun _ _ _ h => h) (fun _ => ex_ssliceL (k := .i64) (l := bb) (i := (m : Int)) (a := m) (by kernel_rfl) (by kernel_rfl) (by kernel_rfl) (by omega) (by omega)) fun a H => ?_
     refine An.one 4 (by kernel_rfl) ?_
     have hcp := copy2 (b := bb) (m := m) hml
     refine Op.copyG H HP 0 61 b_65 0 2 2 94 [(.int .u8 0), (.int .u8 0)] (bb.drop m) true _ (dT := 58) (sT := 9) (ty := 3) (e := 5) rfl (by kernel_rfl) (by kernel_rfl) (by kernel_rfl) (by kernel_rfl) rfl (by simp; omega) rfl fun w_68 a H HP => ?_
     rw [hcp] at HP
     have HP : Hp w w_68 [bx b_65 94 [(.int .u8 (((bb.getD m 0).toNat : Nat) : Int)), (.int .u8 (((bb.getD (m + 1) 0).toNat : Nat) : Int))] true, bx b_2 23 [(ii ac.id), (ii ac.from_), (ii ac.to_), (ii ac.pri), (.string (bstr ac.text))] true, bx p8 3 [(ii m)] false, bx p7 9 [(.string (bstr bb))] false, bx p6 23 [(ii ac.id), (ii ac.from_), (ii ac.to_), (ii ac.pri), (.string (bstr ac.text))] false, bx p5 23 [(ii s.cue.id), (ii s.cue.from_), (ii s.cue.to_), (ii s.cue.pri), (.string (bstr s.cue.text))] false, bx p3 67 [(ii s.sees)] false, bx p2 36 [(.slice A l.length c)] false] [rowF 5 cuC A l, laidK] := HP
     refine ⟨.inr ((HP.tail rfl)), ?_⟩
     refine An.done (by kernel_rfl) ?_
     refine then_normal (wp_seq (w_region ?_))
     refine H.go HP 1 [(62, (ii m))] [2] fun a H => ?_
     refine H.valE 63 (ii (IntKind.i64.wrap ((m : Int) + 2))) (ii ((m + 2 : Nat) : Int)) (by kernel_rfl) (by kernel_rfl) ((by rw [wrap_ini64 _ (by omega)]; exact congrArg (Value.int .i64) (by omega))) fun a H => ?_
     refine H.sh HP 2 0 (ii ((m + 2 : Nat) : Int)) rfl fun w_69 a H HP => ?_
     refine wpList_nil (then_normal (wp_seq (wp_seq (w_region ?_))))
     refine H.ge HP [(67, (.bool (decide (((m + 2 : Nat) : Int) ≥ (bb.length : Int)))))] [2, 3] fun a H => ?_
     refine then_normal ?_
     refine w_if H rfl (fun g67 => ?_) (fun g67 => ?_)
     ·have g67p := of_decide_eq_true g67
      have HP := HP.front 1 rfl [bx b_2 23 [(ii ac.id), (ii ac.from_), (ii ac.to_), (ii ac.pri), (.string (bstr ac.text))] true, bx b_65 94 [(.int .u8 (((bb.getD m 0).toNat : Nat) : Int)), (.int .u8 (((bb.getD (m + 1) 0).toNat : Nat) : Int))] true, bx p8 3 [(ii ((m + 2 : Nat) : Int))] false, bx p7 9 [(.string (bstr bb))] false, bx p6 23 [(ii ac.id), (ii ac.from_), (ii ac.to_), (ii ac.pri), (.string (bstr ac.text))] false, bx p5 23 [(ii s.cue.id), (ii s.cue.from_), (ii s.cue.to_), (ii s.cue.pri), (.string (bstr s.cue.text))] false, bx p3 67 [(ii s.sees)] false, bx p2 36 [(.slice A l.length c)] false] (by kernel_rfl)
      refine An.start (fun v => Hp w v [bx b_65 94 [(.int .u8 (((bb.getD m 0).toNat : Nat) : Int)), (.int .u8 (((bb.getD (m + 1) 0).toNat : Nat) : Int))] true, bx p8 3 [(ii ((m + 2 : Nat) : Int))] false, bx p7 9 [(.string (bstr bb))] false, bx p6 23 [(ii ac.id), (ii ac.from_), (ii ac.to_), (ii ac.pri), (.string (bstr ac.text))] false, bx p5 23 [(ii s.cue.id), (ii s.cue.from_), (ii s.cue.to_), (ii s.cue.pri), (.string (bstr s.cue.text))] false, bx p3 67 [(ii s.sees)] false, bx p2 36 [(.slice A l.length c)] false] [rowF 5 cuC A l, laidK]) 1 4 HP wide_follows rfl fun w_70 HP => ?_
      refine An.two 0 1 (by kernel_rfl) ?_ ?_
      ·refine Op.val H 68 (.agg #[(ii ac.id), (ii ac.from_), (ii ac.to_), (ii ac.pri), (.string (bstr ac.text))]) rfl (by kernel_rfl) (ex_loadN (vs := [(ii ac.id), (ii ac.from_), (ii ac.to_), (ii ac.pri), (.string (bstr ac.text))]) (by kernel_rfl) (by kernel_rfl) (by kernel_rfl) rfl (HP.cells 0 rfl 0 5 (by kernel_rfl))) fun a H => ?_
       refine ⟨.inr ((HP.tail rfl)), ?_⟩
       refine An.one 1 (by kernel_rfl) ?_
       refine Op.sh H HP 6 0 (ii 2) rfl rfl fun w_71 a H HP => ?_
       refine ⟨.inl (by kernel_rfl), ?_⟩
       refine An.one 2 (by kernel_rfl) ?_
       refine Op.sh H HP 5 0 (.agg #[(ii ac.id), (ii ac.from_), (ii ac.to_), (ii ac.pri), (.string (bstr ac.text))]) rfl rfl fun w_72 a H HP => ?_
       refine ⟨.inl (by kernel_rfl), ?_⟩
       refine An.one 3 (by kernel_rfl) ?_
       refine Op.sh H HP 3 0 (.string (bstr ([]))) rfl rfl fun w_73 a H HP => ?_
       refine ⟨.inl (by kernel_rfl), ?_⟩
       refine An.done (by kernel_rfl) ?_
       refine then_normal (wp_seq (w_region ?_))
       refine H.go HP 2 [(69, (ii kk)), (70, (ii ((m / 2 : Nat) : Int)))] [] fun a H => ?_
       refine H.v 71 (pt b_65 0) fun a H => ?_
       refine H.go HP 1 [(72, (.int .u8 (((bb.getD m 0).toNat : Nat) : Int)))] [1] fun a H => ?_
       refine H.v 73 (pt b_65 1) fun a H => ?_
       refine H.go HP 1 [(74, (.int .u8 (((bb.getD (m + 1) 0).toNat : Nat) : Int)))] [1] fun a H => ?_
       refine H.call 75 (by kernel_rfl) (Eq.trans (by kernel_rfl : _ = (callFunc 33 #[(ii kk), (ii ((m / 2 : Nat) : Int)), (.int .u8 (((bb.getD m 0).toNat : Nat) : Int)), (.int .u8 (((bb.getD (m + 1) 0).toNat : Nat) : Int))]).run Tryd.prog w_73) (Tryd.call33 _ _)) (code_any kk (m / 2) (bb.getD m 0) (bb.getD (m + 1) 0) w_73 (by omega) (by omega)) ?_
       rintro e w_74 ⟨rfl, hbc⟩
       refine ⟨_, rfl, ?_⟩
       intro a H
       have HP := HP.next hbc
       refine H.ge HP [(8, (.string (bstr ([UInt8.ofNat (64 * kk + m / 2), bb.getD m 0, bb.getD (m + 1) 0]))))] [] fun a H => ?_
       refine then_normal (wp_ret ?_)
       refine H.ret1 (fn := Tryd.f47) Tryd.results47 (RV.tmp_ (v := (.string (bstr ([UInt8.ofNat (64 * kk + m / 2), bb.getD m 0, bb.getD (m + 1) 0])))) (by kernel_rfl)) ?_
       have HP : Hp w w_74 [bx b_2 23 [(ii ac.id), (ii ac.from_), (ii ac.to_), (ii ac.pri), (.string (bstr ac.text))] true, bx b_65 94 [(.int .u8 (((bb.getD m 0).toNat : Nat) : Int)), (.int .u8 (((bb.getD (m + 1) 0).toNat : Nat) : Int))] true, bx p8 3 [(ii ((m + 2 : Nat) : Int))] false, bx p7 9 [(.string (bstr ([])))] false, bx p6 23 [(ii ac.id), (ii ac.from_), (ii ac.to_), (ii ac.pri), (.string (bstr ac.text))] false, bx p5 23 [(ii ac.id), (ii ac.from_), (ii ac.to_), (ii ac.pri), (.string (bstr ac.text))] false, bx p3 67 [(ii 2)] false, bx p2 36 [(.slice A l.length c)] false] [rowF 5 cuC A l, laidK] := HP
       refine snd_end (v := [UInt8.ofNat (64 * kk + m / 2), bb.getD m 0, bb.getD (m + 1) 0]) (s' := ⟨2, ac, ac, [], m + 2⟩) (by rw [hstep, sndPart, if_pos (by show bb.length ≤ m + 2; omega)]) hnd (HP.agreeF _ fun x hx => ?_) (HP.at_ 7 rfl) (HP.at_ 6 rfl) (HP.at_ 5 rfl) (HP.at_ 4 rfl) (HP.at_ 3 rfl) (HP.at_ 2 rfl)
       simp only [List.mem_cons, List.not_mem_nil, or_false] at hx
       rcases hx with rfl | rfl | rfl | rfl | rfl | rfl | rfl | rfl <;> simp [bx, sndFp]
      ·refine Op.sh H HP 6 0 (ii 2) rfl rfl fun w_75 a H HP => ?_
       refine ⟨.inl (by kernel_rfl), ?_⟩
       refine An.one 0 (by kernel_rfl) ?_
       refine Op.val H 68 (.agg #[(ii ac.id), (ii ac.from_), (ii ac.to_), (ii ac.pri), (.string (bstr ac.text))]) rfl (by kernel_rfl) (ex_loadN (vs := [(ii ac.id), (ii ac.from_), (ii ac.to_), (ii ac.pri), (.string (bstr ac.text))]) (by kernel_rfl) (by kernel_rfl) (by kernel_rfl) rfl (HP.cells 0 rfl 0 5 (by kernel_rfl))) fun a H => ?_
       refine ⟨.inl (by kernel_rfl), ?_⟩
       refine An.one 2 (by kernel_rfl) ?_
       refine Op.sh H HP 5 0 (.agg #[(ii ac.id), (ii ac.from_), (ii ac.to_), (ii ac.pri), (.string (bstr ac.text))]) rfl rfl fun w_76 a H HP => ?_
       refine ⟨.inl (by kernel_rfl), ?_⟩
       refine An.one 3 (by kernel_rfl) ?_
       refine Op.sh H HP 3 0 (.string (bstr ([]))) rfl rfl fun w_77 a H HP => ?_
       refine ⟨.inl (by kernel_rfl), ?_⟩
       refine An.done (by kernel_rfl) ?_
       refine then_normal (wp_seq (w_region ?_))
       refine H.go HP 2 [(69, (ii kk)), (70, (ii ((m / 2 : Nat) : Int)))] [] fun a H => ?_
       refine H.v 71 (pt b_65 0) fun a H => ?_
       refine H.go HP 1 [(72, (.int .u8 (((bb.getD m 0).toNat : Nat) : Int)))] [1] fun a H => ?_
       refine H.v 73 (pt b_65 1) fun a H => ?_
       refine H.go HP 1 [(74, (.int .u8 (((bb.getD (m + 1) 0).toNat : Nat) : Int)))] [1] fun a H => ?_
       refine H.call 75 (by kernel_rfl) (Eq.trans (by kernel_rfl : _ = (callFunc 33 #[(ii kk), (ii ((m / 2 : Nat) : Int)), (.int .u8 (((bb.getD m 0).toNat : Nat) : Int)), (.int .u8 (((bb.getD (m + 1) 0).toNat : Nat) : Int))]).run Tryd.prog w_77) (Tryd.call33 _ _)) (code_any kk (m / 2) (bb.getD m 0) (bb.getD (m + 1) 0) w_77 (by omega) (by omega)) ?_
       rintro e w_78 ⟨rfl, hbc⟩
       refine ⟨_, rfl, ?_⟩
       intro a H
       have HP := HP.next hbc
       refine H.ge HP [(8, (.string (bstr ([UInt8.ofNat (64 * kk + m / 2), bb.getD m 0, bb.getD (m + 1) 0]))))] [] fun a H => ?_
       refine then_normal (wp_ret ?_)
       refine H.ret1 (fn := Tryd.f47) Tryd.results47 (RV.tmp_ (v := (.string (bstr ([UInt8.ofNat (64 * kk + m / 2), bb.getD m 0, bb.getD (m + 1) 0])))) (by kernel_rfl)) ?_
       have HP : Hp w w_78 [bx b_2 23 [(ii ac.id), (ii ac.from_), (ii ac.to_), (ii ac.pri), (.string (bstr ac.text))] true, bx b_65 94 [(.int .u8 (((bb.getD m 0).toNat : Nat) : Int)), (.int .u8 (((bb.getD (m + 1) 0).toNat : Nat) : Int))] true, bx p8 3 [(ii ((m + 2 : Nat) : Int))] false, bx p7 9 [(.string (bstr ([])))] false, bx p6 23 [(ii ac.id), (ii ac.from_), (ii ac.to_), (ii ac.pri), (.string (bstr ac.text))] false, bx p5 23 [(ii ac.id), (ii ac.from_), (ii ac.to_), (ii ac.pri), (.string (bstr ac.text))] false, bx p3 67 [(ii 2)] false, bx p2 36 [(.slice A l.length c)] false] [rowF 5 cuC A l, laidK] := HP
       refine snd_end (v := [UInt8.ofNat (64 * kk + m / 2), bb.getD m 0, bb.getD (m + 1) 0]) (s' := ⟨2, ac, ac, [], m + 2⟩) (by rw [hstep, sndPart, if_pos (by show bb.length ≤ m + 2; omega)]) hnd (HP.agreeF _ fun x hx => ?_) (HP.at_ 7 rfl) (HP.at_ 6 rfl) (HP.at_ 5 rfl) (HP.at_ 4 rfl) (HP.at_ 3 rfl) (HP.at_ 2 rfl)
       simp only [List.mem_cons, List.not_mem_nil, or_false] at hx
       rcases hx with rfl | rfl | rfl | rfl | rfl | rfl | rfl | rfl <;> simp [bx, sndFp]
     ·have g67p := of_decide_eq_false g67
      refine wp_skip (then_normal (wp_seq (w_region ?_)))
      refine H.go HP 2 [(69, (ii kk)), (70, (ii ((m / 2 : Nat) : Int)))] [] fun a H => ?_
      refine H.v 71 (pt b_65 0) fun a H => ?_
      refine H.go HP 1 [(72, (.int .u8 (((bb.getD m 0).toNat : Nat) : Int)))] [0] fun a H => ?_
      refine H.v 73 (pt b_65 1) fun a H => ?_
      refine H.go HP 1 [(74, (.int .u8 (((bb.getD (m + 1) 0).toNat : Nat) : Int)))] [0] fun a H => ?_
      refine H.call 75 (by kernel_rfl) (Eq.trans (by kernel_rfl : _ = (callFunc 33 #[(ii kk), (ii ((m / 2 : Nat) : Int)), (.int .u8 (((bb.getD m 0).toNat : Nat) : Int)), (.int .u8 (((bb.getD (m + 1) 0).toNat : Nat) : Int))]).run Tryd.prog w_69) (Tryd.call33 _ _)) (code_any kk (m / 2) (bb.getD m 0) (bb.getD (m + 1) 0) w_69 (by omega) (by omega)) ?_
      rintro e w_79 ⟨rfl, hbc⟩
      refine ⟨_, rfl, ?_⟩
      intro a H
      have HP := HP.next hbc
      refine H.ge HP [(8, (.string (bstr ([UInt8.ofNat (64 * kk + m / 2), bb.getD m 0, bb.getD (m + 1) 0]))))] [] fun a H => ?_
      refine then_normal (wp_ret ?_)
      refine H.ret1 (fn := Tryd.f47) Tryd.results47 (RV.tmp_ (v := (.string (bstr ([UInt8.ofNat (64 * kk + m / 2), bb.getD m 0, bb.getD (m + 1) 0])))) (by kernel_rfl)) ?_
      have HP : Hp w w_79 [bx b_65 94 [(.int .u8 (((bb.getD m 0).toNat : Nat) : Int)), (.int .u8 (((bb.getD (m + 1) 0).toNat : Nat) : Int))] true, bx b_2 23 [(ii ac.id), (ii ac.from_), (ii ac.to_), (ii ac.pri), (.string (bstr ac.text))] true, bx p8 3 [(ii ((m + 2 : Nat) : Int))] false, bx p7 9 [(.string (bstr bb))] false, bx p6 23 [(ii ac.id), (ii ac.from_), (ii ac.to_), (ii ac.pri), (.string (bstr ac.text))] false, bx p5 23 [(ii s.cue.id), (ii s.cue.from_), (ii s.cue.to_), (ii s.cue.pri), (.string (bstr s.cue.text))] false, bx p3 67 [(ii s.sees)] false, bx p2 36 [(.slice A l.length c)] false] [rowF 5 cuC A l, laidK] := HP
      refine snd_end (v := [UInt8.ofNat (64 * kk + m / 2), bb.getD m 0, bb.getD (m + 1) 0]) (s' := ⟨s.sees, s.cue, ac, bb, m + 2⟩) (by rw [hstep, sndPart, if_neg (by show ¬ bb.length ≤ m + 2; omega)]) hnd (HP.agreeF _ fun x hx => ?_) (HP.at_ 7 rfl) (HP.at_ 6 rfl) (HP.at_ 5 rfl) (HP.at_ 4 rfl) (HP.at_ 3 rfl) (HP.at_ 2 rfl)
      simp only [List.mem_cons, List.not_mem_nil, or_false] at hx
      rcases hx with rfl | rfl | rfl | rfl | rfl | rfl | rfl | rfl <;> simp [bx, sndFp]
 ·have g23p := g23
  refine wp_skip (then_normal (wp_seq (wp_seq ?_)))
  have H := H.as 10 (.bool false) rfl (congrArg Value.bool g23)
  have hw : wantP l fr = none := want_none1 (hfn g23p)
  refine w_region ?_
  refine H.ge HP [(33, (.bool true))] [] fun a H => ?_
  refine then_normal ?_
  refine w_ift H rfl ?_
  refine wp_seq (w_region ?_)
  refine H.sh HP 2 0 (.string (bstr ([]))) rfl fun w_80 a H HP => ?_
  refine wpList_nil (then_normal (wp_seq (wp_seq (w_region ?_))))
  refine H.ge HP [(35, (.bool ((s.sees : Int) == 1)))] [5] fun a H => ?_
  refine then_normal ?_
  refine w_if H rfl (fun g35 => ?_) (fun g35 => ?_)
  ·have g35p := eq_of_beq g35
   refine wp_seq (w_region ?_)
   refine H.call 36 (by kernel_rfl) (Eq.trans (by kernel_rfl : _ = (callFunc 33 #[(ii 0), (ii 0), (.int .u8 0), (.int .u8 0)]).run Tryd.prog w_80) (Tryd.call33 _ _)) (code_any 0 0 0 0 w_80 (by omega) (by omega)) ?_
   rintro e w_81 ⟨rfl, hbc⟩
   refine ⟨_, rfl, ?_⟩
   intro a H
   have HP := HP.next hbc
   refine H.ge HP [(8, (.string (bstr ([UInt8.ofNat (64 * 0 + 0), 0, 0]))))] [] fun a H => ?_
   refine then_normal (wp_ret (then_ret (then_ret ?_)))
   refine H.ret1 (fn := Tryd.f47) Tryd.results47 (RV.tmp_ (v := (.string (bstr ([UInt8.ofNat (64 * 0 + 0), 0, 0])))) (by kernel_rfl)) ?_
   have HP : Hp w w_81 [bx b_2 23 [(ii ac.id), (ii ac.from_), (ii ac.to_), (ii ac.pri), (.string (bstr ac.text))] true, bx p8 3 [(ii s.sent)] false, bx p7 9 [(.string (bstr ([])))] false, bx p6 23 [(ii s.sending.id), (ii s.sending.from_), (ii s.sending.to_), (ii s.sending.pri), (.string (bstr s.sending.text))] false, bx p5 23 [(ii s.cue.id), (ii s.cue.from_), (ii s.cue.to_), (ii s.cue.pri), (.string (bstr s.cue.text))] false, bx p3 67 [(ii s.sees)] false, bx p2 36 [(.slice A l.length c)] false] [rowF 5 cuC A l, laidK] := HP
   refine snd_end (v := [UInt8.ofNat (64 * 0 + 0), 0, 0]) (s' := ⟨s.sees, s.cue, s.sending, [], s.sent⟩) (by rw [sndStep, hw]; simp only; rw [if_pos (by omega)]; rfl) hnd (HP.agreeF _ fun x hx => ?_) (HP.at_ 6 rfl) (HP.at_ 5 rfl) (HP.at_ 4 rfl) (HP.at_ 3 rfl) (HP.at_ 2 rfl) (HP.at_ 1 rfl)
   simp only [List.mem_cons, List.not_mem_nil, or_false] at hx
   rcases hx with rfl | rfl | rfl | rfl | rfl | rfl | rfl <;> simp [bx, sndFp]
  ·have g35p := ne_of_beq_false g35
   refine wp_skip (then_normal (wp_seq (w_region ?_)))
   refine H.sh HP 5 0 (ii 1) rfl fun w_82 a H HP => ?_
   refine wpList_nil (then_normal (wp_seq (w_region ?_)))
   refine H.call 37 (by kernel_rfl) (Eq.trans (by kernel_rfl : _ = (callFunc 33 #[(ii 1), (ii 0), (.int .u8 0), (.int .u8 0)]).run Tryd.prog w_82) (Tryd.call33 _ _)) (code_any 1 0 0 0 w_82 (by omega) (by omega)) ?_
   rintro e w_83 ⟨rfl, hbc⟩
   refine ⟨_, rfl, ?_⟩
   intro a H
   have HP := HP.next hbc
   refine H.ge HP [(8, (.string (bstr ([UInt8.ofNat (64 * 1 + 0), 0, 0]))))] [] fun a H => ?_
   refine then_normal (wp_ret (then_ret ?_))
   refine H.ret1 (fn := Tryd.f47) Tryd.results47 (RV.tmp_ (v := (.string (bstr ([UInt8.ofNat (64 * 1 + 0), 0, 0])))) (by kernel_rfl)) ?_
   have HP : Hp w w_83 [bx b_2 23 [(ii ac.id), (ii ac.from_), (ii ac.to_), (ii ac.pri), (.string (bstr ac.text))] true, bx p8 3 [(ii s.sent)] false, bx p7 9 [(.string (bstr ([])))] false, bx p6 23 [(ii s.sending.id), (ii s.sending.from_), (ii s.sending.to_), (ii s.sending.pri), (.string (bstr s.sending.text))] false, bx p5 23 [(ii s.cue.id), (ii s.cue.from_), (ii s.cue.to_), (ii s.cue.pri), (.string (bstr s.cue.text))] false, bx p3 67 [(ii 1)] false, bx p2 36 [(.slice A l.length c)] false] [rowF 5 cuC A l, laidK] := HP
   refine snd_end (v := [UInt8.ofNat (64 * 1 + 0), 0, 0]) (s' := ⟨1, s.cue, s.sending, [], s.sent⟩) (by rw [sndStep, hw]; simp only; rw [if_neg (by omega)]; rfl) hnd (HP.agreeF _ fun x hx => ?_) (HP.at_ 6 rfl) (HP.at_ 5 rfl) (HP.at_ 4 rfl) (HP.at_ 3 rfl) (HP.at_ 2 rfl) (HP.at_ 1 rfl)
   simp only [List.mem_cons, List.not_mem_nil, or_false] at hx
   rcases hx with rfl | rfl | rfl | rfl | rfl | rfl | rfl <;> simp [bx, sndFp]
theorem snd_ok (p2 p3 p5 p6 p7 p8 : Nat) (A : Option Addr) (n c : Nat) (s : Snd) : (sndR p2 p3 p5 p6 p7 p8 A n c s).ok := fun w1 w2 ⟨hn, h2, h3, h5, h6, h7, h8⟩ hk _ => by
 have k2 := hk p2 (by show sndFp _ _ _ _ _ _ _; unfold sndFp; simp)
 have k3 := hk p3 (by show sndFp _ _ _ _ _ _ _; unfold sndFp; simp)
 have k5 := hk p5 (by show sndFp _ _ _ _ _ _ _; unfold sndFp; simp)
 have k6 := hk p6 (by show sndFp _ _ _ _ _ _ _; unfold sndFp; simp)
 have k7 := hk p7 (by show sndFp _ _ _ _ _ _ _; unfold sndFp; simp)
 have k8 := hk p8 (by show sndFp _ _ _ _ _ _ _; unfold sndFp; simp)
 exact ⟨hn, k2.trans h2, k3.trans h3, k5.trans h5, k6.trans h6, k7.trans h7, k8.trans h8⟩
theorem snd_lt {p2 p3 p5 p6 p7 p8 : Nat} {A : Option Addr} {n c : Nat} {s : Snd} {w : World} (h : (sndR p2 p3 p5 p6 p7 p8 A n c s).F w) {k : Nat} (hk : sndFp p2 p3 p5 p6 p7 p8 k) : k < w.heap.size := by
 obtain ⟨hn, h2, h3, h5, h6, h7, h8⟩ := h
 rcases hk with rfl | rfl | rfl | rfl | rfl | rfl
 ·exact h8.lt
 ·exact h7.lt
 ·exact h6.lt
 ·exact h5.lt
 ·exact h3.lt
 ·exact h2.lt
theorem snd_new {w0 w : World} {L : List HB} {K : List FK} {p2 p3 p5 p6 p7 p8 : Nat} {A : Option Addr} {n c : Nat} {s : Snd} (H : Hp w0 w L K) {i2 i3 i5 i6 i7 i8 : Nat} (hn : [i2, i3, i5, i6, i7, i8].Nodup)
  (h2 : L[i2]? = some (bx p2 36 [.slice A n c] true)) (h3 : L[i3]? = some (bx p3 67 [.int .i64 ((s.sees : Nat) : Int)] true)) (h5 : L[i5]? = some (bx p5 23 (cuL s.cue) true)) (h6 : L[i6]? = some (bx p6 23 (cuL s.sending) true)) (h7 : L[i7]? = some (bx p7 9 [.string (bstr s.block)] true)) (h8 : L[i8]? = some (bx p8 3 [.int .i64 ((s.sent : Nat) : Int)] true)) :
  (sndR p2 p3 p5 p6 p7 p8 A n c s).F w := by
 refine ⟨?_, H.at_ i2 h2, H.at_ i3 h3, H.at_ i5 h5, H.at_ i6 h6, H.at_ i7 h7, H.at_ i8 h8⟩
 simp only [List.nodup_cons, List.mem_cons, List.not_mem_nil, or_false, not_or, not_false_eq_true, List.nodup_nil, and_true] at hn ⊢
 obtain ⟨⟨a1, a2, a3, a4, a5⟩, ⟨b1, b2, b3, b4⟩, ⟨c1, c2, c3⟩, ⟨d1, d2⟩, e1⟩ := hn
 exact ⟨⟨H.ne _ _ h2 h3 a1, H.ne _ _ h2 h5 a2, H.ne _ _ h2 h6 a3, H.ne _ _ h2 h7 a4, H.ne _ _ h2 h8 a5⟩, ⟨H.ne _ _ h3 h5 b1, H.ne _ _ h3 h6 b2, H.ne _ _ h3 h7 b3, H.ne _ _ h3 h8 b4⟩, ⟨H.ne _ _ h5 h6 c1, H.ne _ _ h5 h7 c2, H.ne _ _ h5 h8 c3⟩, ⟨H.ne _ _ h6 h7 d1, H.ne _ _ h6 h8 d2⟩, H.ne _ _ h7 h8 e1⟩
theorem snd_fresh {w0 w : World} {L : List HB} {K : List FK} {p2 p3 p5 p6 p7 p8 : Nat} {u2 u3 u5 u6 u7 u8 : Nat} {v2 v3 v5 v6 v7 v8 : List Value} (H : Hp w0 w L K) {i2 i3 i5 i6 i7 i8 : Nat}
  (h2 : L[i2]? = some (bx p2 u2 v2 true)) (h3 : L[i3]? = some (bx p3 u3 v3 true)) (h5 : L[i5]? = some (bx p5 u5 v5 true)) (h6 : L[i6]? = some (bx p6 u6 v6 true)) (h7 : L[i7]? = some (bx p7 u7 v7 true)) (h8 : L[i8]? = some (bx p8 u8 v8 true)) {k : Nat} (hk : sndFp p2 p3 p5 p6 p7 p8 k) : w0.heap.size ≤ k := by
 have key : ∀ (i p t : Nat) (v : List Value), L[i]? = some (bx p t v true) → w0.heap.size ≤ p := fun i p t v h => H.fresh _ (List.mem_of_getElem? h) rfl p rfl
 rcases hk with rfl | rfl | rfl | rfl | rfl | rfl
 ·exact key _ _ _ _ h8
 ·exact key _ _ _ _ h7
 ·exact key _ _ _ _ h6
 ·exact key _ _ _ _ h5
 ·exact key _ _ _ _ h3
 ·exact key _ _ _ _ h2
theorem snd_apart {w0 w : World} {L : List HB} {K : List FK} {p2 p3 p5 p6 p7 p8 : Nat} {A : Option Addr} {n c : Nat} {s : Snd} {l : List Cue} (H : Hp w0 w L K) (i : Nat) (hi : L[i]? = some (sndR p2 p3 p5 p6 p7 p8 A n c s)) (j : Nat) (hj : K[j]? = some laidK) (m : Nat) (hm : K[m]? = some (rowF 5 cuC A l)) :
  ∀ k, sndFp p2 p3 p5 p6 p7 p8 k → k ≠ 0 ∧ k ≠ 1 ∧ ¬ rowFp l.length A k := fun k hk => by
 have h1 := (H.kept _ (List.mem_of_getElem? hj)).2.2
 have h2 := (H.kept _ (List.mem_of_getElem? hm)).2.2
 exact ⟨fun e => (h1 k (.inl e)).2 _ (List.mem_of_getElem? hi) hk, fun e => (h1 k (.inr e)).2 _ (List.mem_of_getElem? hi) hk, fun e => (h2 k e).2 _ (List.mem_of_getElem? hi) hk⟩
theorem active_mem {l : List Cue} {f : Int} {x : Cue} (h : activeP l f = some x) : x ∈ l := by
 have key : ∀ (l : List Cue) (b : Option Cue), (∀ y, b = some y → y = x ∨ True) → l.foldl (actS f) b = some x → x ∈ l ∨ b = some x := by
  intro l
  induction l with
  | nil => intro b _ h; exact .inr h
  | cons y l ih =>
   intro b hb h
   rcases ih _ (fun _ _ => .inr trivial) h with h | h
   ·exact .inl (List.mem_cons_of_mem _ h)
   ·unfold actS at h
    split at h
    ·split at h
     ·cases h; exact .inl (List.mem_cons_self ..)
     ·split at h
      ·cases h; exact .inl (List.mem_cons_self ..)
      ·exact .inr h
    ·exact .inr h
 rcases key l none (fun _ h => by cases h) h with h | h
 ·exact h
 ·cases h
theorem gap_wrap (x y : Int) (h : y ≤ x) (h2 : x - y < 18446744073709551616) : IntKind.u64.wrap (IntKind.u64.wrap x - IntKind.u64.wrap y) = x - y := by
 simp only [IntKind.wrap, IntKind.bits, IntKind.signed, Bool.false_and, Bool.false_eq_true, if_false]
 omega
set_option maxRecDepth 100000 in
set_option maxHeartbeats 4000000 in
theorem sender_any (A : Option Addr) (n c se : Nat) (w : World) : Calls Tryd.prog 34 #[.slice A n c, .int .i64 (se : Int)] w fun e w' => ∃ p2 p3 p5 p6 p7 p8, e = .returned (.func (.func 47) #[] #[.pointer (some ⟨p2, 0, none⟩), .pointer (some ⟨p7, 0, none⟩), .pointer (some ⟨p3, 0, none⟩), .pointer (some ⟨p5, 0, none⟩), .pointer (some ⟨p6, 0, none⟩), .pointer (some ⟨p8, 0, none⟩)]) ∧ (sndR p2 p3 p5 p6 p7 p8 A n c (snd0 se)).F w' ∧ Below w.heap.size w w' ∧ ∀ k, sndFp p2 p3 p5 p6 p7 p8 k → w.heap.size ≤ k := by
 have HP := Hp.start w
 refine w_enter 10 [(0, (.slice A n c)), (1, (ii se))] Tryd.func34 rfl Tryd.ntmps34 (by kernel_rfl) (by kernel_rfl) fun a H => ?_
 refine wp_seq (w_region ?_)
 refine H.alloc HP 2 (fun b => (pt b 0)) 36 [(.slice A n c)] (by kernel_rfl) (fun w => by kernel_rfl) fun b_1 w_2 a H HP => ?_
 refine H.alloc HP 3 (fun b => (pt b 0)) 67 [(ii se)] (by kernel_rfl) (fun w => by kernel_rfl) fun b_3 w_4 a H HP => ?_
 refine H.ge HP [(4, .nilFunc)] [] fun a H => ?_
 refine then_normal (wp_seq (w_region ?_))
 refine H.alloc HP 5 (fun b => (pt b 0)) 23 [(ii 0), (ii 0), (ii 0), (ii 0), (.string (bstr ([])))] (by kernel_rfl) (fun w => by kernel_rfl) fun b_5 w_6 a H HP => ?_
 refine H.alloc HP 6 (fun b => (pt b 0)) 23 [(ii 0), (ii 0), (ii 0), (ii 0), (.string (bstr ([])))] (by kernel_rfl) (fun w => by kernel_rfl) fun b_7 w_8 a H HP => ?_
 refine wpList_nil (then_normal (wp_seq (w_region ?_)))
 refine H.alloc HP 7 (fun b => (pt b 0)) 9 [(.string (bstr ([])))] (by kernel_rfl) (fun w => by kernel_rfl) fun b_9 w_10 a H HP => ?_
 refine H.alloc HP 8 (fun b => (pt b 0)) 3 [(ii 0)] (by kernel_rfl) (fun w => by kernel_rfl) fun b_11 w_12 a H HP => ?_
 refine H.sh HP 1 0 (.string (bstr ([]))) rfl fun w_13 a H HP => ?_
 refine H.sh HP 0 0 (ii 0) rfl fun w_14 a H HP => ?_
 refine wpList_nil (then_normal (wp_seq (w_region ?_)))
 refine H.ge HP [(4, (.func (.func 47) #[] #[(pt b_1 0), (pt b_9 0), (pt b_3 0), (pt b_5 0), (pt b_7 0), (pt b_11 0)]))] [] fun a H => ?_
 refine then_normal (wp_ret ?_)
 refine H.ret1 (fn := Tryd.f34) Tryd.results34 (RV.tmp_ (v := (.func (.func 47) #[] #[(pt b_1 0), (pt b_9 0), (pt b_3 0), (pt b_5 0), (pt b_7 0), (pt b_11 0)])) (by kernel_rfl)) ?_
 have HP : Hp w w_14 [bx b_11 3 [(ii 0)] true, bx b_9 9 [(.string (bstr ([])))] true, bx b_7 23 [(ii 0), (ii 0), (ii 0), (ii 0), (.string (bstr ([])))] true, bx b_5 23 [(ii 0), (ii 0), (ii 0), (ii 0), (.string (bstr ([])))] true, bx b_3 67 [(ii se)] true, bx b_1 36 [(.slice A n c)] true] [] := HP
 exact ⟨b_1, b_3, b_5, b_7, b_9, b_11, rfl, snd_new HP (i2 := 5) (i3 := 4) (i5 := 3) (i6 := 2) (i7 := 1) (i8 := 0) (by decide) rfl rfl rfl rfl rfl rfl, HP.bl, fun k hk => snd_fresh HP (i2 := 5) (i3 := 4) (i5 := 3) (i6 := 2) (i7 := 1) (i8 := 0) rfl rfl rfl rfl rfl rfl hk⟩
set_option maxRecDepth 100000 in
set_option maxHeartbeats 4000000 in
theorem code_all (A : Option Addr) (c : Nat) (l : List Cue) (a_ f : Int) (w : World) (hL : Laid w) (hr : IsRow 5 cuC w A l) (hlm : l.length ≤ maxLen) (htx : ∀ x ∈ l, x.text.length ≤ 1000000) (ha1 : -9223372036854775808 ≤ a_) (ha2 : a_ ≤ 9223372036854775807) (hf1 : -9223372036854775808 ≤ f) (hf2 : f ≤ 9223372036854775807) :
  Calls Tryd.prog 15 #[.slice A l.length c, .int .i64 a_, .int .i64 f] w fun e w' => e = .returned (.string (bstr (codeP l a_ f))) ∧ Below w.heap.size w w' := by
 have HP := ((Hp.start w).keepF laidK hL laidK_ok (fun k hk => ⟨hL.lt k hk, fun x hx => by cases hx⟩)).keepF (rowF 5 cuC A l) hr (rowF_ok _ _ _ _) fun k hk => ⟨hr.lt k hk, fun x hx => by cases hx⟩
 refine w_enter 51 [(0, (.slice A l.length c)), (1, (ii a_)), (2, (ii f))] Tryd.func15 rfl Tryd.ntmps15 (by kernel_rfl) (by kernel_rfl) fun a H => ?_
 refine wp_seq (w_region ?_)
 refine H.ge HP [(6, (.string (bstr ([]))))] [] fun a H => ?_
 refine then_normal (wp_seq (w_region ?_))
 refine H.call 14 (by kernel_rfl) (Eq.trans (by kernel_rfl : _ = (callFunc 33 #[(ii 1), (ii 0), (.int .u8 0), (.int .u8 0)]).run Tryd.prog w) (Tryd.call33 _ _)) (code_any 1 0 0 0 w (by omega) (by omega)) ?_
 rintro e w_1 ⟨rfl, hbc⟩
 refine ⟨_, rfl, ?_⟩
 intro a H
 have HP := HP.next hbc
 refine H.ge HP [(7, (.string (bstr ([64, 0, 0]))))] [] fun a H => ?_
 refine then_normal (wp_seq (wp_seq (w_region ?_)))
 refine H.ge HP [(17, (.bool (decide (f ≤ a_))))] [] fun a H => ?_
 refine then_normal ?_
 refine w_if H rfl (fun g17 => ?_) (fun g17 => ?_)
 ·have g17p := of_decide_eq_true g17
  refine wp_seq (w_region ?_)
  refine H.ge HP [(6, (.string (bstr ([64, 0, 0]))))] [] fun a H => ?_
  refine then_normal (wp_ret (then_ret ?_))
  refine H.ret1 (fn := Tryd.f15) Tryd.results15 (RV.tmp_ (v := (.string (bstr ([64, 0, 0])))) (by kernel_rfl)) ?_
  refine ⟨?_, HP.bl⟩
  unfold codeP; rw [if_pos (by omega)]
 ·have g17p := of_decide_eq_false g17
  refine wp_skip (then_normal (wp_seq ?_))
  obtain ⟨gg, hgg⟩ : ∃ n : Nat, f - a_ = (n : Int) := ⟨(f - a_).toNat, by omega⟩
  refine w_region ?_
  refine H.go HP 1 [(19, (ii f))] [] fun a H => ?_
  refine H.valE 20 (.int .u64 (IntKind.u64.wrap f)) (.int .u64 (IntKind.u64.wrap f)) (by kernel_rfl) (by kernel_rfl) (rfl) fun a H => ?_
  refine H.go HP 1 [(21, (ii a_))] [] fun a H => ?_
  refine H.valE 22 (.int .u64 (IntKind.u64.wrap a_)) (.int .u64 (IntKind.u64.wrap a_)) (by kernel_rfl) (by kernel_rfl) (rfl) fun a H => ?_
  refine H.valE 23 (.int .u64 (IntKind.u64.wrap ((IntKind.u64.wrap f) - (IntKind.u64.wrap a_)))) (.int .u64 (gg : Int)) (by kernel_rfl) (by kernel_rfl) ((by rw [gap_wrap _ _ (by omega) (by omega)]; exact congrArg (Value.int .u64) (by omega))) fun a H => ?_
  refine H.ge HP [(8, (.int .u64 (gg : Int)))] [] fun a H => ?_
  refine then_normal (wp_seq (w_region ?_))
  refine H.go HP 1 [(24, (.int .u64 (gg : Int)))] [] fun a H => ?_
  refine H.valE 25 (.int .u64 ((gg : Int).tmod 128)) (.int .u64 ((gg % 128 : Nat) : Int)) (by kernel_rfl) (by kernel_rfl) ((by rw [tmod_nn _ _ (by omega)]; exact congrArg (Value.int .u64) (by omega))) fun a H => ?_
  refine H.valE 26 (ii (IntKind.i64.wrap ((gg % 128 : Nat) : Int))) (ii ((gg % 128 : Nat) : Int)) (by kernel_rfl) (by kernel_rfl) ((by rw [wrap_ini64 _ (by omega)])) fun a H => ?_
  refine H.ge HP [(9, (ii ((gg % 128 : Nat) : Int)))] [] fun a H => ?_
  refine then_normal (wp_seq (w_region ?_))
  refine H.ge HP [(10, (ii 0))] [] fun a H => ?_
  refine then_normal (wp_seq (w_region ?_))
  refine H.go HP 2 [(27, (ii f)), (28, (ii ((gg % 128 : Nat) : Int)))] [] fun a H => ?_
  refine H.wi 29 (f - ((gg % 128 : Nat) : Int)) fun a H => ?_
  refine H.ge HP [(11, (ii (f - ((gg % 128 : Nat) : Int))))] [] fun a H => ?_
  refine then_normal ?_
  refine w_cut (fun a wv => ∃ (fst : Int), ∃ (se : Nat), ∃ (N : Nat), Sl 51 [(11, (ii fst)), (10, (ii se)), (0, (.slice A l.length c)), (1, (ii a_)), (2, (ii f)), (7, (.string (bstr ([64, 0, 0]))))] a ∧ Hp w wv [] [rowF 5 cuC A l, laidK] ∧ (f - fst + 1 = (N : Int)) ∧ (codeP l a_ f = (sndIter l fst (snd0 se) N).1) ∧ (N ≤ 128) ∧ (a_ ≤ fst)) ?_ ?_
  ·
   refine wp_seq (w_region ?_)
   refine H.ge HP [(31, (.bool (decide ((gg : Int) < 128))))] [] fun a H => ?_
   refine then_normal ?_
   refine w_if H rfl (fun g31 => ?_) (fun g31 => ?_)
   ·have g31p := of_decide_eq_true g31
    refine wp_seq (w_region ?_)
    refine H.ge HP [(10, (ii 1))] [] fun a H => ?_
    refine then_normal (w_region ?_)
    refine H.go HP 1 [(32, (ii a_))] [] fun a H => ?_
    refine H.wi 33 (a_ + 1) fun a H => ?_
    refine H.ge HP [(11, (ii (a_ + 1)))] [] fun a H => ?_
    refine then_normal ?_
    exact ⟨a_ + 1, 1, gg, H.keep (by kernel_rfl), HP, (by omega), (by unfold codeP; rw [if_neg (by omega), if_pos (by omega), show (f - a_).toNat = gg from by omega]), (by omega), (by omega)⟩
   ·have g31p := of_decide_eq_false g31
    refine wp_skip (then_normal ?_)
    exact ⟨f - ((gg % 128 : Nat) : Int), 0, gg % 128 + 1, H.keep (by kernel_rfl), HP, (by omega), (by unfold codeP; rw [if_neg (by omega), if_neg (by omega), show (f - a_) % 128 = ((gg % 128 : Nat) : Int) from by omega, show (((gg % 128 : Nat) : Int) + 1).toNat = gg % 128 + 1 from by omega]), (by omega), (by omega)⟩
  ·
   rintro a w_2 ⟨fst, se, N, H, HP, hN, hres, hN2, hfst⟩
   refine wp_seq (w_region ?_)
   refine H.go HP 2 [(34, (.slice A l.length c)), (35, (ii se))] [] fun a H => ?_
   refine H.call 36 (by kernel_rfl) (Eq.trans (by kernel_rfl : _ = (callFunc 34 #[(.slice A l.length c), (ii se)]).run Tryd.prog w_2) (Tryd.call34 _ _)) (sender_any A l.length c se w_2) ?_
   rintro e w_3 ⟨p2, p3, p5, p6, p7, p8, rfl, hsn, hbs, hnew⟩
   refine ⟨_, rfl, ?_⟩
   intro a H
   have HP := HP.gain hbs (sndR p2 p3 p5 p6 p7 p8 A l.length c (snd0 se)) hsn (snd_ok _ _ _ _ _ _ _ _ _ _) (fun k hk => snd_lt hsn hk) hnew
   refine H.ge HP [(12, (.func (.func 47) #[] #[(pt p2 0), (pt p7 0), (pt p3 0), (pt p5 0), (pt p6 0), (pt p8 0)]))] [] fun a H => ?_
   refine then_normal (wp_seq (wp_seq (w_region ?_)))
   refine H.go HP 2 [(37, (ii f)), (38, (ii fst))] [] fun a H => ?_
   refine H.wi 39 (f - fst) fun a H => ?_
   refine H.valE 40 (ii (IntKind.i64.wrap ((f - fst) + 1))) (ii N) (by kernel_rfl) (by kernel_rfl) ((by rw [wrap_ini64 _ (by omega)]; exact congrArg (Value.int .i64) (by omega))) fun a H => ?_
   refine H.ge HP [(41, (ii 0))] [] fun a H => ?_
   refine then_normal (wp_block ?_)
   refine w_loop (fun mm a wv => ∃ (i : Nat), N - i = mm ∧ Sl 51 [(41, (ii i)), (7, (.string (bstr ((sndIter l fst (snd0 se) i).1)))), (40, (ii N)), (39, (ii (f - fst))), (37, (ii f)), (38, (ii fst)), (12, (.func (.func 47) #[] #[(pt p2 0), (pt p7 0), (pt p3 0), (pt p5 0), (pt p6 0), (pt p8 0)])), (36, (.func (.func 47) #[] #[(pt p2 0), (pt p7 0), (pt p3 0), (pt p5 0), (pt p6 0), (pt p8 0)])), (34, (.slice A l.length c)), (35, (ii se)), (11, (ii fst)), (10, (ii se)), (0, (.slice A l.length c)), (1, (ii a_)), (2, (ii f))] a ∧ Hp w wv [(sndR p2 p3 p5 p6 p7 p8 A l.length c (sndIter l fst (snd0 se) i).2)] [rowF 5 cuC A l, laidK] ∧ (i ≤ N)) (N - 0) ?_ ?_
   ·exact ⟨0, (by omega), H.keep (by kernel_rfl), HP, (Nat.zero_le _)⟩
   rintro mm a w_4 ⟨i, hmeas, H, HP, hib⟩
   refine wp_seq (w_region ?_)
   refine H.ge HP [(42, (.bool (decide ((i : Int) < (N : Int)))))] [] fun a H => ?_
   refine then_normal (wp_seq ?_)
   refine w_if H rfl (fun g42 => ?_) (fun g42 => ?_)
   ·have g42p := of_decide_eq_true g42
    refine wp_skip (then_normal (wp_seq (wp_block (wp_seq (w_region ?_)))))
    refine H.ge HP [(13, (ii i))] [] fun a H => ?_
    refine then_normal (w_region ?_)
    refine H.go HP 3 [(44, (.func (.func 47) #[] #[(pt p2 0), (pt p7 0), (pt p3 0), (pt p5 0), (pt p6 0), (pt p8 0)])), (45, (ii fst)), (46, (ii i))] [] fun a H => ?_
    refine H.wi 47 (fst + (i : Int)) fun a H => ?_
    refine H.call 48 (by kernel_rfl) (Eq.trans (by kernel_rfl : _ = (callFunc 47 #[(ii (fst + (i : Int))), (pt p2 0), (pt p7 0), (pt p3 0), (pt p5 0), (pt p6 0), (pt p8 0)]).run Tryd.prog w_4) (Tryd.call47 _ _)) (sender1_any p2 p3 p5 p6 p7 p8 A c l (fst + (i : Int)) (sndIter l fst (snd0 se) i).2 w_4 (HP.held 0 rfl) (HP.fact 1 rfl) (HP.fact 0 rfl) hlm (sndIter_ok (snd0_ok se) i) (fun x hx => htx x (active_mem hx)) (snd_apart HP 0 rfl 1 rfl 0 rfl)) ?_
    rintro e w_5 ⟨rfl, hsn, hag⟩
    refine ⟨_, rfl, ?_⟩
    intro a H
    have HP := HP.mut 0 rfl (sndR p2 p3 p5 p6 p7 p8 A l.length c (sndIter l fst (snd0 se) (i + 1)).2) _ rfl hag hsn (snd_ok _ _ _ _ _ _ _ _ _ _) (fun k hk => snd_lt hsn hk) (fun k hk => .inl hk) (fun k _ hk => hk) rfl
    refine H.ge HP [(7, (.string (bstr ((sndIter l fst (snd0 se) (i + 1)).1))))] [] fun a H => ?_
    refine inb_normal (then_normal (w_region ?_))
    refine H.valE 49 (ii (IntKind.i64.wrap ((i : Int) + 1))) (ii ((i + 1 : Nat) : Int)) (by kernel_rfl) (by kernel_rfl) ((by rw [wrap_ini64 _ (by omega)]; rfl)) fun a H => ?_
    refine H.ge HP [(41, (ii ((i + 1 : Nat) : Int)))] [] fun a H => ?_
    refine then_normal ?_
    have H := H.as 41 (ii ((i + 1 : Nat) : Int)) rfl rfl
    refine ⟨_, ?_, i + 1, rfl, H.keep (by kernel_rfl), HP, (by omega)⟩
    omega
   ·have g42p := of_decide_eq_false g42
    refine wp_exit (then_exit (then_exit ?_))
    refine w_exit_here ?_
    refine then_normal (wp_seq (w_region ?_))
    refine H.ge HP [(6, (.string (bstr ((sndIter l fst (snd0 se) i).1))))] [] fun a H => ?_
    refine then_normal (wp_ret ?_)
    refine H.ret1 (fn := Tryd.f15) Tryd.results15 (RV.tmp_ (v := (.string (bstr ((sndIter l fst (snd0 se) i).1)))) (by kernel_rfl)) ?_
    have hiN : i = N := by omega
    refine ⟨?_, HP.bl⟩
    rw [hres, hiN]
def rowZ (e : TypeId) (B : Option Addr) (n c : Nat) (l : List UInt8) (w : World) : Prop :=
  n = l.length ∧ n ≤ c ∧ ((B = none ∧ n = 0 ∧ c = 0) ∨ ∃ g cur fz, B = some ⟨g, 0, none⟩ ∧ w.heap[g]? = some (.cells cur e fz) ∧ cur.size = c ∧ cur.toList.take n = Lib.byteCells l ∧ (fz = (0, 0) ∨ c ≤ fz.1))
def rowZF (B : Option Addr) (k : Nat) : Prop := ∃ off, B = some ⟨k, off, none⟩
theorem rowZ_keep {e : TypeId} {B : Option Addr} {n c : Nat} {l : List UInt8} {w w' : World} (h : rowZ e B n c l w) (hk : ∀ k, rowZF B k → w'.heap[k]? = w.heap[k]?) : rowZ e B n c l w' := by
  obtain ⟨h1, h3, h4⟩ := h
  refine ⟨h1, h3, h4.imp id fun ⟨g, cur, fz, hB, hg, r⟩ => ⟨g, cur, fz, hB, (hk g ⟨0, hB⟩).trans hg, r⟩⟩
theorem rowZ_lt {e : TypeId} {B : Option Addr} {n c : Nat} {l : List UInt8} {w : World} (h : rowZ e B n c l w) {k : Nat} (hk : rowZF B k) : k < w.heap.size := by
  obtain ⟨off, hk⟩ := hk
  rcases h.2.2 with ⟨hB, _⟩ | ⟨g, cur, fz, hB, hg, _⟩
  · rw [hk] at hB; cases hB
  · rw [hk] at hB; cases hB
    exact (Array.getElem?_eq_some_iff.1 hg).1
theorem rowZ_nil (e : TypeId) (w : World) : rowZ e none 0 0 [] w := ⟨rfl, Nat.le_refl _, .inl ⟨rfl, rfl, rfl⟩⟩
theorem rowZ_rd {e : TypeId} {B : Option Addr} {n c : Nat} {l : List UInt8} {w : World} (h : rowZ e B n c l w) : Rd w 1 B l.length (Lib.byteCells l) := by
  obtain ⟨h1, h3, h4⟩ := h
  refine ⟨by rw [byteCells_len, Nat.mul_one], ?_⟩
  rcases h4 with ⟨hB, hn, _⟩ | ⟨g, cur, fz, hB, hg, hc, ht, _⟩
  · exact .inl (by omega)
  · refine .inr ⟨g, 0, hB, (Array.getElem?_eq_some_iff.1 hg).1, fun i hi => ?_⟩
    rw [Nat.mul_one] at hi
    rw [← ht, List.getElem?_take, if_pos (by omega), Lib.cell_of_heap hg, Nat.zero_add, Array.getElem?_toList]
theorem bytesB_rowZ {b : Nat} {e : TypeId} {l : List UInt8} {cap : Nat} {w : World} (h : (bytesB b e l cap).F w) (h1 : l.length ≤ cap) : rowZ e (some ⟨b, 0, none⟩) l.length cap l w := by
  refine ⟨rfl, h1, .inr ⟨b, _, _, rfl, h, ?_, ?_, .inr (by simp only; omega)⟩⟩
  · simp [byteCells_len]; omega
  · rw [List.take_append_of_le_length (by simp [byteCells_len])]
    exact List.take_of_length_le (by simp [byteCells_len])
section
variable {P : Program} {w : World}
theorem run_appendZ (t u ty e : TypeId) (i : TypeInfo) (ht : P.underlying t = some (.slice e)) (hu : P.underlying u = some .string) (hi : P.info? e = some i) (hz : i.zero = some (.int .u8 0)) (hsize : i.size = 1) (hby : i.bytes = 1)
    (B : Option Addr) (n c : Nat) (l s : List UInt8) (h : rowZ e B n c l w) (hne : 1 ≤ n) (h63 : n + s.length ≤ 140737488355328) :
    ∃ B' c' w', (Builtin.append_ #[t, u] ty #[.slice B n c, .string (bstr s)]).run P w = .ok (.slice B' (n + s.length) c') w' ∧ rowZ e B' (n + s.length) c' (l ++ s) w' ∧ Agree w w' (rowZF B) ∧ ∀ k, rowZF B' k → rowZF B k ∨ w.heap.size ≤ k := by
  obtain ⟨h1, h3, h4⟩ := h
  have hss : (bstr s).size = s.length := bstr_size s
  rcases h4 with ⟨hB, hn, _⟩ | ⟨g, cur, fz, rfl, hg, hc, htk, hfz⟩
  · omega
  · by_cases hroom : n + s.length ≤ c
    · have hr : (Builtin.append_ #[t, u] ty #[.slice (some ⟨g, 0, none⟩) n c, .string (bstr s)]).run P w = .ok (.slice (some ⟨g, 0, none⟩) (n + s.length) c) (w.setRow g (cur.toList.take n ++ Lib.byteCells s ++ cur.toList.drop (n + s.length)).toArray) := by
        rcases hfz with rfl | hfz
        · have := Lib.run_append_room_stringF (P := P) w t u ty e i ht hu hi hsize g n c cur (0, 0) hg (Nat.zero_le _) (bstr s) (by omega) (by omega)
          rw [hss, strCells_bstr] at this
          exact this
        · have hf := Lib.run_firstCells_string (P := P) w 1 (bstr s)
          rw [strCells_bstr, hss] at hf
          have hst := run_storeZ P g n e fz (Lib.byteCells s) 0 cur w hg (by rw [byteCells_len]; omega) (by rw [byteCells_len]; omega) (byteCells_one s)
          simp only [Nat.add_zero, byteCells_len, List.append_assoc] at hst
          simp [Builtin.append_, run_underlying ht, run_underlying hu, sizeOf, typeInfo, hi, hsize, Builtin.lenOf, hss, hroom, hf, Addr.add_lit, hst]
      refine ⟨_, _, _, hr, ⟨by rw [List.length_append, ← h1], hroom, .inr ⟨g, _, fz, rfl, setRow_heap w g cur _ e _ hg, ?_, ?_, hfz⟩⟩, ⟨rfl, rfl, rfl, by simp [World.setRow], fun k _ hk => setRow_other w g k _ (fun e => hk ⟨0, by rw [e]⟩)⟩, fun k hk => .inl hk⟩
      · simp only [List.size_toArray, List.length_append, List.length_take, List.length_drop, Array.length_toList, byteCells_len]
        omega
      · rw [htk, byteCells_append, show n + s.length = (Lib.byteCells l ++ Lib.byteCells s).length from by rw [List.length_append, byteCells_len, byteCells_len, ← h1]]
        exact List.take_left
    · have hrd := rowZ_rd (e := e) (B := some ⟨g, 0, none⟩) (n := n) (c := c) (l := l) (w := w) ⟨h1, h3, .inr ⟨g, cur, fz, rfl, hg, hc, htk, hfz⟩⟩
      have holds : ∀ j u, (Lib.byteCells l)[j]? = some u → w.cell? ((⟨g, 0, none⟩ : Addr).add j) = some u := fun j v hj => by
        rw [add_plain g 0 j, Nat.zero_add, Lib.cell_of_heap hg, ← Array.getElem?_toList]
        rw [← htk, List.getElem?_take] at hj
        split at hj
        · exact hj
        · cases hj
      have hr := Lib.run_append_grow_string (P := P) w t u ty e i (.int .u8 0) ht hu hi hz ⟨g, 0, none⟩ n c (Lib.byteCells l) (by rw [hsize, byteCells_len]; omega) holds (bstr s) (by omega) (by omega) (by rw [hby]; exact growslice_fits (by omega) (by omega))
      rw [hss, strCells_bstr] at hr
      have hge := grownCap_ge w (n + s.length) c e
      refine ⟨_, _, _, hr, ⟨by rw [List.length_append, ← h1], hge, .inr ⟨w.heap.size, _, _, rfl, heap_alloc_new w.drew _, ?_, ?_, .inl rfl⟩⟩, ⟨rfl, rfl, rfl, by simp, fun k hk _ => heap_alloc_old w.drew _ hk⟩, fun k hk => .inr ?_⟩
      · have hz1 : (Value.int IntKind.u8 0).cells.size = 1 := rfl
        simp only [Array.size_append, List.size_toArray, size_zeroCells, hz1, byteCells_len]
        omega
      · simp only [Array.toList_append, List.append_assoc]
        rw [← List.append_assoc, byteCells_append, show n + s.length = (Lib.byteCells l ++ Lib.byteCells s).length from by rw [List.length_append, byteCells_len, byteCells_len, ← h1]]
        exact List.take_left
      · obtain ⟨off, hk⟩ := hk
        cases hk; exact Nat.le_refl _
end
def zR (e : TypeId) (B0 B : Option Addr) (n c : Nat) (l : List UInt8) (f : Bool) : HB := HB.of (fun k => rowZF B0 k ∨ rowZF B k) (rowZ e B n c l) f
theorem zR_ok (e : TypeId) (B0 B : Option Addr) (n c : Nat) (l : List UInt8) (f : Bool) : (zR e B0 B n c l f).ok := fun _ _ h hk _ => rowZ_keep h fun k h => hk k (.inr h)
theorem Op.appZ {P : Program} {ops : Array Oper} {Q : Exit → Act → World → Prop} {KK : Act → World → Prop} {a : Act} {w0 w : World} {n i : Nat} {L : List (Nat × Value)} {LH : List HB} {K : List FK} {t u ty : TypeId} {pos : String} {af : Array Edge} {g : Option (Nat × Bool)} {s x : Operand} (H : Sl n L a) (HP : Hp w0 w LH K) (d ir : Nat) (e : TypeId) (B : Option Addr) (N c : Nat) (l str : List UInt8) (f : Bool)
    (hop : ops[i]? = some ⟨some d, .call { callee := .builtin .append, args := #[s, x], argTypes := #[t, u] }, ty, pos, af, g⟩)
    (hc : chk ops n L ⟨some d, .call { callee := .builtin .append, args := #[s, x], argTypes := #[t, u] }, ty, pos, af, g⟩ d = true) (ht : P.underlying t = some (.slice e)) (hu : P.underlying u = some .string) (hinf : infoB P e = some (some (.int .u8 0), 1, 1))
    (hs : ev L s = .slice B N c) (hi : LH[ir]? = some (zR e B B N c l f)) (hx : ev L x = .string (bstr str)) (hne : 1 ≤ N) (h63 : N + str.length ≤ 140737488355328)
    (k : ∀ B' c' w' a', (∀ k, rowZF B' k → rowZF B k ∨ w.heap.size ≤ k) → Sl n ((d, .slice B' (N + str.length) c') :: L) a' → Hp w0 w' (LH.set ir (zR e B B' (N + str.length) c' (l ++ str) f)) K → KK a' w') : wpOp P ops Q i KK a w := by
  obtain ⟨hd, hn, hk, hs', hw⟩ := chk_spec hc
  have k1 := knowsAll_spec hk s (by simp [Op.operands, Call.operands])
  have k2 := knowsAll_spec hk x (by simp [Op.operands, Call.operands])
  obtain ⟨i, hi0, hi1, hi2, hi3⟩ := infoB_spec hinf
  have hF := HP.held ir hi
  obtain ⟨B', c', w', hr, hz, hag, hat⟩ := run_appendZ (P := P) (w := w) t u ty e i ht hu hi0 hi1 hi2 hi3 B N c l str hF hne h63
  refine wpOp_wanted hop (H.wanted hw) ?_
  unfold Oper.wp
  rw [H.exec hk hs']
  simp only [execOp, resolve, invoke, builtin, Sem.run_bind, Sem.run_pure, Result.andThen_ok, List.map_toArray, List.map_cons, List.map_nil, hs, hx, hr]
  rw [Oper.upon_value, hd]
  have hag2 : Agree w w' (zR e B B N c l f).fp := ⟨hag.os, hag.tape, hag.output, hag.size, fun k hk hn => hag.block k hk fun h => hn (.inl h)⟩
  have hlt := fun k => (HP.res _ (List.mem_of_getElem? hi)).2.2 k
  refine k B' c' w' _ hat (H.put _ hn) (HP.mut ir hi _ _ rfl hag2 hz (zR_ok _ _ _ _ _ _ _) (fun q hq => ?_) (fun q hq => ?_) (fun q _ hq => .inl (hq.elim id id)) rfl)
  · rcases hq with hq | hq
    · exact Nat.lt_of_lt_of_le (hlt q (.inl hq)) hag.size
    · exact rowZ_lt hz hq
  · rcases hq with hq | hq
    · exact .inl (.inl hq)
    · rcases hat q hq with h | h
      · exact .inl (.inl h)
      · exact .inr h
def zK (e : TypeId) (B : Option Addr) (n c : Nat) (l : List UInt8) : FK := ⟨rowZF B, rowZ e B n c l⟩
theorem zK_ok (e : TypeId) (B : Option Addr) (n c : Nat) (l : List UInt8) : (zK e B n c l).ok := fun _ _ h hk _ => rowZ_keep h hk
theorem rowZ_some {e : TypeId} {B : Option Addr} {n c : Nat} {l : List UInt8} {w : World} (h : rowZ e B n c l w) (hl : 2 ≤ l.length) : ∃ g, B = some ⟨g, 0, none⟩ := by
 obtain ⟨h1, h3, h4⟩ := h
 rcases h4 with ⟨_, hn, _⟩ | ⟨g, cur, fz, hB, _⟩
 ·omega
 ·exact ⟨g, hB⟩
theorem rowZ_cell {e : TypeId} {B : Option Addr} {n c g : Nat} {l : List UInt8} {w : World} (h : rowZ e B n c l w) (hB : B = some ⟨g, 0, none⟩) {i : Nat} (hi : i < l.length) : w.cell? ⟨g, 0 + i * 1, none⟩ = some (.int .u8 (((l.getD i 0).toNat : Nat) : Int)) := by
 subst hB
 obtain ⟨b', o', v, hA, _, hv, hc⟩ := (rowZ_rd h).cell hi
 cases hA
 rw [Nat.mul_one, hc, ← hv, byteCells_get, List.getElem?_eq_getElem hi]
 simp [List.getD, List.getElem?_eq_getElem hi]
theorem rowZ_sub {e : TypeId} {B : Option Addr} {n c g : Nat} {l : List UInt8} {w : World} (h : rowZ e B n c l w) (hB : B = some ⟨g, 0, none⟩) {m : Nat} (hm : m < l.length) : Rd w 1 (some ⟨g, 0 + 1, none⟩) (m + 1 - 1) (Lib.byteCells ((l.drop 1).take m)) := by
 have hlen : ((l.drop 1).take m).length = m := by rw [List.length_take, List.length_drop]; omega
 refine ⟨by rw [byteCells_len, hlen]; omega, ?_⟩
 have hb := World.block_lt_of_cell? w _ (rowZ_cell h hB (i := m) hm)
 refine .inr ⟨g, 0 + 1, rfl, hb, fun i hi => ?_⟩
 have hi2 : i < m := by omega
 have := rowZ_cell h hB (i := i + 1) (by omega)
 rw [show 0 + 1 + i = 0 + (i + 1) * 1 from by omega, this, byteCells_get, List.getElem?_take, if_pos hi2, List.getElem?_drop, show 1 + i = i + 1 from by omega, List.getElem?_eq_getElem (show i + 1 < l.length from by omega)]
 simp [List.getD, List.getElem?_eq_getElem (show i + 1 < l.length from by omega)]
theorem ex_sliceLHA {P : Program} {ρ : Operand → Value} {w : World} {t : TypeId} {x y z : Operand} {dst : Option Tmp} {ty : TypeId} {pos : String} {af : Array Edge} {g : Option (Nat × Bool)} {B : Option Addr} {b off len cap i j : Nat} {lo hi : Int} (hB : B = some ⟨b, off, none⟩) (hx : ρ x = .slice B len cap) (hy : ρ y = .int .i64 lo) (hz : ρ z = .int .i64 hi) (hu : P.underlying t = some (.slice (P.elem t))) (hs : sizeB P (P.elem t) = some 1)
  (h1 : lo = (i : Int)) (h2 : hi = (j : Int)) (h3 : i ≤ j) (h4 : j ≤ cap) (h5 : i < cap) :
  (execOp ρ ⟨dst, .slice t x (some y) (some z) none, ty, pos, af, g⟩).run P w = .ok (.value (.slice (some ⟨b, off + i, none⟩) (j - i) (cap - i))) w := by
 subst hB
 exact ex_sliceLH hx hy hz hu hs h1 h2 h3 h4 h5
theorem wintU_any (s : Str) (w : World) (hs : s.length ≤ 1000000) : Calls Tryd.prog 48 #[.string (bstr s), .int .i64 0] w fun e w' => ∃ n k er, e = .returned (.tuple #[.int .i64 n, .int .i64 ((k : Nat) : Int), .int .i64 er]) ∧ Below w.heap.size w w' ∧ (er = 0 → rdInt s 0 = some (n, k) ∧ k ≤ s.length) ∧ (er ≠ 0 → rdInt s 0 = none) := by
 refine (wint_any (bstr s) 0 w (by rw [bstr_size]; omega) (Nat.zero_le _)).mono ?_
 rintro e w' ⟨rfl, rfl⟩
 rw [show (bstr s).data.toList = s from rfl]
 cases h : rdInt s 0 with
 | none => exact ⟨0, 0, 10, rfl, Below.refl _ _, (fun h => by cases h), fun _ => rfl⟩
 | some p =>
  obtain ⟨n, k⟩ := p
  exact ⟨n, k, 0, rfl, Below.refl _ _, (fun _ => ⟨rfl, (rdInt_canon (Nat.zero_le _) h).2.2.2.1⟩), fun h => absurd rfl h⟩
def decFp (b : Nat) (B R : Option Addr) (m : Nat) (k : Nat) : Prop := k = b ∨ rowZF B k ∨ rowFp m R k
def decR (b : Nat) (B : Option Addr) (c : Nat) (R : Option Addr) (cr : Nat) (d : Dec) : HB := HB.of (decFp b B R d.rows.length)
 (fun w => Box w b 62 #[.bool true, .slice B d.buf.length c, .slice R d.rows.length cr] ∧ rowZ 5 B d.buf.length c d.buf w ∧ IsRow 1 strC w R d.rows ∧ ¬ rowZF B b ∧ ¬ rowFp d.rows.length R b ∧ ∀ k, rowZF B k → ¬ rowFp d.rows.length R k) true
theorem decR_ok (b : Nat) (B : Option Addr) (c : Nat) (R : Option Addr) (cr : Nat) (d : Dec) : (decR b B c R cr d).ok := fun w1 w2 ⟨h1, h2, h3, h4⟩ hk hs =>
 ⟨(hk b (.inl rfl)).trans h1, rowZ_keep h2 fun k h => hk k (.inr (.inl h)), h3.keep (fun k h => hk k (.inr (.inr h))) hs, h4⟩
theorem dec_mk {b : Nat} {B : Option Addr} {c : Nat} {R : Option Addr} {cr : Nat} {l : Str} {rows : List Str} {w : World} (hb : Box w b 62 #[.bool true, .slice B l.length c, .slice R rows.length cr]) (hz : rowZ 5 B l.length c l w) (hr : IsRow 1 strC w R rows) (h1 : ¬ rowZF B b) (h2 : ¬ rowFp rows.length R b) (h3 : ∀ k, rowZF B k → ¬ rowFp rows.length R k) :
  (decR b B c R cr ⟨l, rows⟩).F w := ⟨hb, hz, hr, h1, h2, h3⟩
def DecPost (b : Nat) (B R : Option Addr) (m : Nat) (d : Dec) (w : World) (f : Nat → Prop) (e : Ending) (w' : World) : Prop :=
 e = .returned (.tuple #[]) ∧ ∃ B' c' R' cr', (decR b B' c' R' cr' d).F w' ∧ Agree w w' f ∧ ∀ k, decFp b B' R' d.rows.length k → decFp b B R m k ∨ w.heap.size ≤ k
theorem dec_done1 {l : Str} {rows : List Str} (h : 96 ≤ (l.getD 0 0).toNat) : doneP ⟨l, rows⟩ = ⟨[], rows⟩ := by unfold doneP; rw [if_pos h]
theorem dec_done2 {l : Str} {rows : List Str} (h : ¬ 96 ≤ (l.getD 0 0).toNat) (h2 : l.length ≤ (l.getD 0 0).toNat) : doneP ⟨l, rows⟩ = ⟨l, rows⟩ := by unfold doneP; rw [if_neg h, if_pos h2]
theorem dec_done3 {l bk : Str} {rows r : List Str} (h : ¬ 96 ≤ (l.getD 0 0).toNat) (h2 : ¬ l.length ≤ (l.getD 0 0).toNat) (h3 : (l.drop 1).take (l.getD 0 0).toNat = bk) (h4 : showP bk rows = r) : doneP ⟨l, rows⟩ = ⟨[], r⟩ := by unfold doneP; rw [if_neg h, if_neg h2]; show (⟨[], showP ((l.drop 1).take (l.getD 0 0).toNat) rows⟩ : Dec) = _; rw [h3, h4]
theorem show_yes {bk : Str} {rows : List Str} {s : Int} {k : Nat} (h : rdInt bk 0 = some (s, k)) (h2 : s = ((sumP (bk.drop k) : Nat) : Int)) : showP bk rows = splitG [] (bk.drop k) := by unfold showP; rw [h]; exact if_pos h2
theorem show_no1 {bk : Str} {rows : List Str} (h : rdInt bk 0 = none) : showP bk rows = rows := by unfold showP; rw [h]
theorem show_no2 {bk : Str} {rows : List Str} {s : Int} {k : Nat} (h : rdInt bk 0 = some (s, k)) (h2 : ¬ s = ((sumP (bk.drop k) : Nat) : Int)) : showP bk rows = rows := by unfold showP; rw [h]; exact if_neg h2
theorem dec_fp0 {b : Nat} {B R : Option Addr} {m k n : Nat} (h : decFp b none R m k) : decFp b B R m k ∨ n ≤ k := by
 rcases h with h | ⟨_, h⟩ | h
 ·exact .inl (.inl h)
 ·cases h
 ·exact .inl (.inr (.inr h))
theorem dec_fpN {b : Nat} {B R R' : Option Addr} {m m' k n : Nat} (hn : ∀ k, rowFp m' R' k → n ≤ k) (h : decFp b none R' m' k) : decFp b B R m k ∨ n ≤ k := by
 rcases h with h | ⟨_, h⟩ | h
 ·exact .inl (.inl h)
 ·cases h
 ·exact .inr (hn k h)
theorem rows_lt {w : World} {base size n c : Nat} {e : TypeId} {α : Type} {cs : α → Array Value} {A : Option Addr} {l : List α} (h : (rowsR base e size cs okT feF (.slice A n c) l).F w) {k : Nat} (hk : (rowsR base e size cs okT feF (.slice A n c) l).fp k) : k < w.heap.size ∧ base ≤ k := by
 rcases hk with hk | ⟨_, _, hk⟩
 ·exact own_lt h.1 k hk
 ·cases hk
theorem row_fp {w : World} {base size n c : Nat} {e : TypeId} {α : Type} {cs : α → Array Value} {A : Option Addr} {l : List α} (h : (rowsR base e size cs okT feF (.slice A n c) l).F w) {k : Nat} (hk : rowFp l.length A k) : (rowsR base e size cs okT feF (.slice A n c) l).fp k := by
 obtain ⟨h0, off, hA⟩ := hk
 rcases h.1.2 with ⟨h1, h2⟩ | ⟨g, cap, cur, hv, _⟩
 ·cases h1; cases hA
 ·cases hv; cases hA; exact .inl rfl
theorem Hp.row_new {w0 w : World} {L : List HB} {K : List FK} {base size n c : Nat} {e : TypeId} {α : Type} {cs : α → Array Value} {A : Option Addr} {l : List α} (H : Hp w0 w L K) (i : Nat) (hi : L[i]? = some (rowsR base e size cs okT feF (.slice A n c) l)) {k : Nat} (hk : rowFp l.length A k) : w0.heap.size ≤ k :=
 H.fresh _ (List.mem_of_getElem? hi) rfl k (row_fp (H.held i hi) hk)
theorem Hp.row_off {w0 w : World} {L : List HB} {K : List FK} {base size n c : Nat} {e : TypeId} {α : Type} {cs : α → Array Value} {A : Option Addr} {l : List α} (H : Hp w0 w L K) (i : Nat) (hi : L[i]? = some (rowsR base e size cs okT feF (.slice A n c) l)) (j : Nat) {b t : Nat} {vs : List Value} {f : Bool} (hj : L[j]? = some (bx b t vs f)) (hk : rowFp l.length A b) (hne : i ≠ j := by decide) : False :=
 pairwise_at H.apart hi hj hne b (row_fp (H.held i hi) hk) rfl
set_option maxRecDepth 100000 in
set_option maxHeartbeats 4000000 in
theorem complete_any (b : Nat) (B : Option Addr) (c : Nat) (R : Option Addr) (cr : Nat) (l : Str) (rows : List Str) (nn : Nat) (w : World) (hd : (decR b B c R cr ⟨l, rows⟩).F w) (hL : Laid w) (hnn : (l.getD 0 0).toNat = nn) (hl2 : 2 ≤ l.length) (hl3 : l.length ≤ 1000) (hb01 : b ≠ 0 ∧ b ≠ 1) :
  Calls Tryd.prog 35 #[.pointer (some ⟨b, 0, none⟩)] w (DecPost b B R rows.length (doneP ⟨l, rows⟩) w (fun k => k = b)) := by
 obtain ⟨hbx, hz, hr, hs1, hs2, hs3⟩ := hd
 have hnn2 : nn < 256 := by rw [← hnn]; exact (l.getD 0 0).toNat_lt
 have hzf : l.length ≤ c := hz.2.1
 have HP := (((Hp.own hbx).keepF laidK hL laidK_ok (fun k hk => ⟨hL.lt k hk, fun x hx => by rcases List.mem_singleton.1 hx with rfl; exact fun e => by have e : k = b := e; rcases hk with hk | hk; exact hb01.1 (e.symm.trans hk); exact hb01.2 (e.symm.trans hk)⟩)).keepF (rowF 1 strC R rows) hr (rowF_ok _ _ _ _) fun k hk => ⟨hr.lt k hk, fun x hx => by rcases List.mem_singleton.1 hx with rfl; exact fun e => hs2 (by have e : k = b := e; exact e ▸ hk)⟩).keepF (zK 5 B l.length c l) hz (zK_ok _ _ _ _ _) fun k hk => ⟨rowZ_lt hz hk, fun x hx => by rcases List.mem_singleton.1 hx with rfl; exact fun e => hs1 (by have e : k = b := e; exact e ▸ hk)⟩
 refine w_enter 60 [(0, (pt b 0))] Tryd.func35 rfl Tryd.ntmps35 (by kernel_rfl) (by kernel_rfl) fun a H => ?_
 refine wp_seq (w_region ?_)
 refine H.go HP 4 [(10, (.slice B l.length c))] [0] fun a H => ?_
 obtain ⟨gB, hgB⟩ := rowZ_some hz hl2
 refine H.u 11 (.pointer (some ⟨gB, 0 + 0 * 1, none⟩)) (ex_indexA (b := gB) (off := 0) (len := l.length) (cap := c) (e := 5) (k := 1) (ik := .i64) (i := 0) (m := 0) hgB (by kernel_rfl) (by kernel_rfl) rfl (by omega) (by kernel_rfl) (by kernel_rfl)) fun a H => ?_
 refine H.u 12 (.int .u8 (nn : Int)) (ex_l1 (hnn ▸ rowZ_cell (HP.fact 0 rfl) hgB (i := 0) (by omega))) fun a H => ?_
 refine H.valE 13 (ii (IntKind.i64.wrap (nn : Int))) (ii nn) (by kernel_rfl) (by kernel_rfl) ((by rw [wrap_ini64 _ (by omega)])) fun a H => ?_
 refine H.ge HP [(2, (ii nn))] [] fun a H => ?_
 refine then_normal (wp_seq (wp_seq (w_region ?_)))
 refine H.ge HP [(15, (.bool (decide ((nn : Int) ≥ 96))))] [] fun a H => ?_
 refine then_normal ?_
 refine w_if H rfl (fun g15 => ?_) (fun g15 => ?_)
 ·have g15p := of_decide_eq_true g15
  refine wp_seq (w_region ?_)
  refine H.go HP 3 [(18, (pt b 1))] [] fun a H => ?_
  refine H.sh HP 0 1 (.slice none 0 0) rfl fun w_1 a H HP => ?_
  refine wpList_nil (then_normal (wp_ret (then_ret ?_)))
  refine H.ret0 (fn := Tryd.f35) Tryd.results35  ?_
  have HP : Hp w w_1 [bx b 62 [(.bool true), (.slice none 0 0), (.slice R rows.length cr)] false] [zK 5 B l.length c l, rowF 1 strC R rows, laidK] := HP
  have hbx := HP.at_ 0 rfl
  refine ⟨rfl, none, 0, R, cr, ?_, (HP.agreeF _ fun x hx => by simp only [List.mem_cons, List.not_mem_nil, or_false] at hx; rcases hx with rfl <;> simp [bx, rowsR]), ?_⟩
  ·rw [(dec_done1 (by rw [hnn]; omega))]
   exact dec_mk hbx (rowZ_nil _ _) (HP.fact 1 rfl) (fun h => by obtain ⟨_, h⟩ := h; cases h) hs2 (fun k h => by obtain ⟨_, h⟩ := h; cases h)
  ·rw [(dec_done1 (by rw [hnn]; omega))]; intro k hk; exact dec_fp0 hk
 ·have g15p := of_decide_eq_false g15
  refine wp_skip (then_normal (wp_seq (wp_seq (w_region ?_))))
  refine H.ge HP [(25, (.bool (decide ((l.length : Int) ≤ (nn : Int)))))] [0] fun a H => ?_
  refine then_normal ?_
  refine w_if H rfl (fun g25 => ?_) (fun g25 => ?_)
  ·have g25p := of_decide_eq_true g25
   refine wp_ret (then_ret ?_)
   refine H.ret0 (fn := Tryd.f35) Tryd.results35  ?_
   have HP : Hp w w [bx b 62 [(.bool true), (.slice B l.length c), (.slice R rows.length cr)] false] [zK 5 B l.length c l, rowF 1 strC R rows, laidK] := HP
   have hbx := HP.at_ 0 rfl
   refine ⟨rfl, B, c, R, cr, ?_, (HP.agreeF _ fun x hx => by simp only [List.mem_cons, List.not_mem_nil, or_false] at hx; rcases hx with rfl <;> simp [bx, rowsR]), ?_⟩
   ·rw [(dec_done2 (by rw [hnn]; omega) (by rw [hnn]; omega))]
    exact dec_mk hbx (HP.fact 0 rfl) (HP.fact 1 rfl) hs1 hs2 hs3
   ·rw [(dec_done2 (by rw [hnn]; omega) (by rw [hnn]; omega))]; intro k hk; exact .inl hk
  ·have g25p := of_decide_eq_false g25
   refine wp_skip (then_normal (wp_seq (w_region ?_)))
   refine H.go HP 5 [(29, (.slice B l.length c)), (30, (ii nn))] [0] fun a H => ?_
   refine H.valE 31 (ii (IntKind.i64.wrap ((nn : Int) + 1))) (ii ((nn + 1 : Nat) : Int)) (by kernel_rfl) (by kernel_rfl) ((by rw [wrap_ini64 _ (by omega)]; rfl)) fun a H => ?_
   refine H.u 32 (.slice (some ⟨gB, 0 + 1, none⟩) (nn + 1 - 1) (c - 1)) (ex_sliceLHA (b := gB) (off := 0) (len := l.length) (cap := c) (i := 1) (j := nn + 1) (hB := hgB) (by kernel_rfl) (by kernel_rfl) (by kernel_rfl) (by kernel_rfl) (by kernel_rfl) rfl rfl (by omega) (by omega) (by omega)) fun a H => ?_
   refine H.u 33 (.string (bstr ((l.drop 1).take nn))) (ex_b2sR (l := ((l.drop 1).take nn)) (e := 5) (m := nn + 1 - 1) (c := c - 1) (by kernel_rfl) (rowZ_sub (HP.fact 0 rfl) hgB (by omega)) (by kernel_rfl) (by kernel_rfl) (by kernel_rfl)) fun a H => ?_
   refine H.ge HP [(3, (.string (bstr ((l.drop 1).take nn))))] [] fun a H => ?_
   refine then_normal (wp_seq (w_region ?_))
   refine H.go HP 3 [(36, (pt b 1))] [] fun a H => ?_
   refine H.sh HP 0 1 (.slice none 0 0) rfl fun w_2 a H HP => ?_
   refine wpList_nil (then_normal (wp_seq ?_))
   obtain ⟨bk, hbkd⟩ : ∃ x, (l.drop 1).take nn = x := ⟨_, rfl⟩
   have hbk : bk.length = nn := by rw [← hbkd, List.length_take, List.length_drop]; omega
   have H := H.as 3 (.string (bstr bk)) rfl (congrArg (fun x => Value.string (bstr x)) hbkd)
   refine w_region ?_
   refine H.go HP 1 [(38, (.string (bstr bk)))] [] fun a H => ?_
   refine H.call 39 (by kernel_rfl) (Eq.trans (by kernel_rfl : _ = (callFunc 48 #[(.string (bstr bk)), (ii 0)]).run Tryd.prog w_2) (Tryd.call48 _ _)) (wintU_any bk w_2 (by omega)) ?_
   rintro e w_3 ⟨sm, ka, er, rfl, hbw, hw0, hw1⟩
   refine ⟨_, rfl, ?_⟩
   intro a H
   have HP := HP.next hbw
   refine H.ge HP [(4, (ii sm)), (5, (ii ka)), (6, (ii er))] [] fun a H => ?_
   refine then_normal (wp_seq (w_region ?_))
   refine H.go HP 3 [(45, (.bool (er == 0)))] [] fun a H => ?_
   refine H.split 45 rfl (fun g45 H => ?_) (fun g45 H => ?_)
   ·have g45p := eq_of_beq g45
    refine H.go HP 3 [(46, (ii sm)), (47, (.string (bstr bk))), (48, (ii ka))] [] fun a H => ?_
    refine H.u 49 (.string (bstr (bk.drop ka))) (ex_ssliceL (k := .i64) (l := bk) (i := (ka : Int)) (a := ka) (by kernel_rfl) (by kernel_rfl) (by kernel_rfl) (by omega) (by (have := (hw0 (by assumption)).2; omega))) fun a H => ?_
    refine H.call 50 (by kernel_rfl) (Eq.trans (by kernel_rfl : _ = (callFunc 28 #[(.string (bstr (bk.drop ka)))]).run Tryd.prog w_3) (Tryd.call28 _ _)) (sum_any (bk.drop ka) w_3 (HP.fact 2 rfl) (by rw [List.length_drop]; omega)) ?_
    rintro e w_4 ⟨rfl, hbs⟩
    refine ⟨_, rfl, ?_⟩
    intro a H
    have HP := HP.next hbs
    refine H.ge HP [(52, (.bool (sm == ((sumP (bk.drop ka) : Nat) : Int))))] [] fun a H => ?_
    refine then_normal ?_
    refine w_if H rfl (fun g52 => ?_) (fun g52 => ?_)
    ·have g52p := eq_of_beq g52
     refine w_region ?_
     refine H.go HP 3 [(53, (pt b 0)), (54, (.string (bstr bk))), (55, (ii ka))] [] fun a H => ?_
     refine H.u 56 (.string (bstr (bk.drop ka))) (ex_ssliceL (k := .i64) (l := bk) (i := (ka : Int)) (a := ka) (by kernel_rfl) (by kernel_rfl) (by kernel_rfl) (by omega) (by (have := (hw0 (by assumption)).2; omega))) fun a H => ?_
     refine H.call 57 (by kernel_rfl) (Eq.trans (by kernel_rfl : _ = (callFunc 49 #[(.string (bstr (bk.drop ka))), (.string (bstr ([10])))]).run Tryd.prog w_4) (Tryd.call49 _ _)) (split_any (bk.drop ka) w_4 (HP.fact 2 rfl) (by rw [List.length_drop]; omega)) ?_
     rintro e w_5 ⟨R2, cr2, rfl, hbs, hrw⟩
     refine ⟨_, rfl, ?_⟩
     intro a H
     have HP := HP.gain hbs _ hrw (rowsR_ok elOk_flat) (fun k hk => (rows_lt hrw hk).1) (fun k hk => (rows_lt hrw hk).2)
     refine H.go HP 2 [(59, (pt b 2))] [] fun a H => ?_
     refine H.sh HP 1 2 (.slice R2 ((splitG [] (bk.drop ka)).length) cr2) rfl fun w_6 a H HP => ?_
     refine wpList_nil ?_
     refine H.end0 (fn := Tryd.f35) Tryd.results35  ?_
     have HP : Hp w w_6 [(rowsR w_4.heap.size 9 1 strC okT feF (.slice R2 (splitG [] (bk.drop ka)).length cr2) (splitG [] (bk.drop ka))), bx b 62 [(.bool true), (.slice none 0 0), (.slice R2 ((splitG [] (bk.drop ka)).length) cr2)] false] [zK 5 B l.length c l, rowF 1 strC R rows, laidK] := HP
     have hbx := HP.at_ 1 rfl
     refine ⟨rfl, none, 0, R2, cr2, ?_, (HP.agreeF _ fun x hx => by simp only [List.mem_cons, List.not_mem_nil, or_false] at hx; rcases hx with rfl | rfl <;> simp [bx, rowsR]), ?_⟩
     ·rw [(dec_done3 (bk := bk) (by rw [hnn]; omega) (by rw [hnn]; omega) (by rw [hnn]; exact hbkd) (show_yes (hw0 g45p).1 g52p))]
      exact dec_mk hbx (rowZ_nil _ _) (IsRow.ofRows (HP.held 0 rfl)) (fun h => by obtain ⟨_, h⟩ := h; cases h) (fun h => HP.row_off 0 rfl 1 rfl h) (fun k h => by obtain ⟨_, h⟩ := h; cases h)
     ·rw [(dec_done3 (bk := bk) (by rw [hnn]; omega) (by rw [hnn]; omega) (by rw [hnn]; exact hbkd) (show_yes (hw0 g45p).1 g52p))]; intro k hk; exact dec_fpN (fun k h => HP.row_new 0 rfl h) hk
    ·have g52p := ne_of_beq_false g52
     refine wp_skip ?_
     refine H.end0 (fn := Tryd.f35) Tryd.results35  ?_
     have HP : Hp w w_4 [bx b 62 [(.bool true), (.slice none 0 0), (.slice R rows.length cr)] false] [zK 5 B l.length c l, rowF 1 strC R rows, laidK] := HP
     have hbx := HP.at_ 0 rfl
     refine ⟨rfl, none, 0, R, cr, ?_, (HP.agreeF _ fun x hx => by simp only [List.mem_cons, List.not_mem_nil, or_false] at hx; rcases hx with rfl <;> simp [bx, rowsR]), ?_⟩
     ·rw [(dec_done3 (bk := bk) (by rw [hnn]; omega) (by rw [hnn]; omega) (by rw [hnn]; exact hbkd) (show_no2 (hw0 g45p).1 g52p))]
      exact dec_mk hbx (rowZ_nil _ _) (HP.fact 1 rfl) (fun h => by obtain ⟨_, h⟩ := h; cases h) hs2 (fun k h => by obtain ⟨_, h⟩ := h; cases h)
     ·rw [(dec_done3 (bk := bk) (by rw [hnn]; omega) (by rw [hnn]; omega) (by rw [hnn]; exact hbkd) (show_no2 (hw0 g45p).1 g52p))]; intro k hk; exact dec_fp0 hk
   ·have g45p := ne_of_beq_false g45
    refine H.ge HP [(52, (.bool false))] [] fun a H => ?_
    refine then_normal ?_
    refine w_iff H rfl ?_
    refine wp_skip ?_
    refine H.end0 (fn := Tryd.f35) Tryd.results35  ?_
    have HP : Hp w w_3 [bx b 62 [(.bool true), (.slice none 0 0), (.slice R rows.length cr)] false] [zK 5 B l.length c l, rowF 1 strC R rows, laidK] := HP
    have hbx := HP.at_ 0 rfl
    refine ⟨rfl, none, 0, R, cr, ?_, (HP.agreeF _ fun x hx => by simp only [List.mem_cons, List.not_mem_nil, or_false] at hx; rcases hx with rfl <;> simp [bx, rowsR]), ?_⟩
    ·rw [(dec_done3 (bk := bk) (by rw [hnn]; omega) (by rw [hnn]; omega) (by rw [hnn]; exact hbkd) (show_no1 (hw1 g45p)))]
     exact dec_mk hbx (rowZ_nil _ _) (HP.fact 1 rfl) (fun h => by obtain ⟨_, h⟩ := h; cases h) hs2 (fun k h => by obtain ⟨_, h⟩ := h; cases h)
    ·rw [(dec_done3 (bk := bk) (by rw [hnn]; omega) (by rw [hnn]; omega) (by rw [hnn]; exact hbkd) (show_no1 (hw1 g45p)))]; intro k hk; exact dec_fp0 hk
theorem Hp.agreeN {w0 w : World} {L : List HB} {K : List FK} (H : Hp w0 w L K) (f : Nat → Prop) (hf : ∀ x ∈ L, x.fresh = true ∨ ∀ k, k < w0.heap.size → x.fp k → f k) : Agree w0 w f :=
 ⟨H.os, H.tape, H.output, H.size, fun k hk hn => H.old k hk fun x hx hxk => by
  rcases hf x hx with h | h
  ·have := H.fresh x hx h k hxk; omega
  ·exact hn (h k hk hxk)⟩
theorem IsRow_nil {α : Type} (k : Nat) (cs : α → Array Value) (w : World) : IsRow k cs w none ([] : List α) := ⟨by simp, .inl (by simp)⟩
theorem dec_fpe {b k : Nat} (h : decFp b none none 0 k) : k = b := by
 rcases h with h | ⟨_, h⟩ | ⟨h, _⟩
 ·exact h
 ·cases h
 ·omega
theorem dec_fp00 {b : Nat} {B R : Option Addr} {m k n : Nat} (h : decFp b none none 0 k) : decFp b B R m k ∨ n ≤ k := .inl (.inl (dec_fpe h))
theorem zR_in {e : TypeId} {b : Nat} {B B' R : Option Addr} {m n c N : Nat} {l : List UInt8} {f : Bool} (h : ∀ k, rowZF B' k → rowZF B k ∨ N ≤ k) : ∀ k, k < N → (zR e B B' n c l f).fp k → decFp b B R m k := fun k hk hf => by
 rcases hf with hf | hf
 ·exact .inr (.inl hf)
 ·rcases h k hf with h | h
  ·exact .inr (.inl h)
  ·omega
theorem rowZF_eq {b k : Nat} (h : rowZF (some ⟨b, 0, none⟩) k) : k = b := by obtain ⟨_, h⟩ := h; cases h; rfl
theorem dec_trans {b : Nat} {B B' R : Option Addr} {m : Nat} {d : Dec} {w w1 w2 : World} (ha : Agree w w1 (decFp b B R m)) (hs : w.heap.size ≤ w1.heap.size) (hB : ∀ k, rowZF B' k → rowZF B k ∨ w.heap.size ≤ k)
  (h : ∃ B2 c2 R2 cr2, (decR b B2 c2 R2 cr2 d).F w2 ∧ Agree w1 w2 (fun k => k = b) ∧ ∀ k, decFp b B2 R2 d.rows.length k → decFp b B' R m k ∨ w1.heap.size ≤ k) : DecPost b B R m d w (decFp b B R m) (.returned (.tuple #[])) w2 := by
 obtain ⟨B2, c2, R2, cr2, h1, h2, h3⟩ := h
 refine ⟨rfl, B2, c2, R2, cr2, h1, ⟨h2.os.trans ha.os, h2.tape.trans ha.tape, h2.output.trans ha.output, Nat.le_trans ha.size h2.size, fun k hk hn => (h2.block k (Nat.lt_of_lt_of_le hk hs) fun e => hn (.inl e)).trans (ha.block k hk hn)⟩, fun k hk => ?_⟩
 rcases h3 k hk with (h | h | h) | h
 ·exact .inl (.inl h)
 ·exact (hB k h).imp (fun h => .inr (.inl h)) id
 ·exact .inl (.inr (.inr h))
 ·exact .inr (by omega)
theorem Hp.byt_off {w0 w : World} {L : List HB} {K : List FK} (H : Hp w0 w L K) (i : Nat) {bb cap b t : Nat} {e : TypeId} {l : List UInt8} {vs : List Value} {f : Bool} (hi : L[i]? = some (bytesB bb e l cap)) (j : Nat) (hj : L[j]? = some (bx b t vs f)) (h : rowZF (some ⟨bb, 0, none⟩) b) (hne : i ≠ j := by decide) : False :=
 pairwise_at H.apart hi hj hne b (rowZF_eq h) rfl
theorem Hp.byt_row {w0 w : World} {L : List HB} {K : List FK} (H : Hp w0 w L K) (i : Nat) {bb cap k : Nat} {e : TypeId} {l : List UInt8} {R : Option Addr} {rows : List Str} (hi : L[i]? = some (bytesB bb e l cap)) (j : Nat) (hj : K[j]? = some (rowF 1 strC R rows)) (h : rowZF (some ⟨bb, 0, none⟩) k) (h2 : rowFp rows.length R k) : False :=
 ((H.kept _ (List.mem_of_getElem? hj)).2.2 k h2).2 _ (List.mem_of_getElem? hi) (rowZF_eq h)
theorem Hp.byt_new {w0 w : World} {L : List HB} {K : List FK} (H : Hp w0 w L K) (i : Nat) {bb cap k : Nat} {e : TypeId} {l : List UInt8} (hi : L[i]? = some (bytesB bb e l cap)) (h : rowZF (some ⟨bb, 0, none⟩) k) : w0.heap.size ≤ k :=
 H.fresh _ (List.mem_of_getElem? hi) rfl k (rowZF_eq h)
theorem Hp.z_off {w0 w : World} {L : List HB} {K : List FK} (H : Hp w0 w L K) (i : Nat) {b t n c : Nat} {e : TypeId} {B0 B : Option Addr} {l : List UInt8} {vs : List Value} {f f' : Bool} (hi : L[i]? = some (zR e B0 B n c l f')) (j : Nat) (hj : L[j]? = some (bx b t vs f)) (h : rowZF B b) (hne : i ≠ j := by decide) : False :=
 pairwise_at H.apart hi hj hne b (.inr h) rfl
theorem Hp.z_row {w0 w : World} {L : List HB} {K : List FK} (H : Hp w0 w L K) (i : Nat) {n c k : Nat} {e : TypeId} {B0 B : Option Addr} {l : List UInt8} {f : Bool} {R : Option Addr} {rows : List Str} (hi : L[i]? = some (zR e B0 B n c l f)) (j : Nat) (hj : K[j]? = some (rowF 1 strC R rows)) (h : rowZF B k) (h2 : rowFp rows.length R k) : False :=
 ((H.kept _ (List.mem_of_getElem? hj)).2.2 k h2).2 _ (List.mem_of_getElem? hi) (.inr h)
theorem dec_start {b : Nat} {B R : Option Addr} {c cr : Nat} {l : Str} {rows : List Str} {w : World} (hb : Box w b 62 #[.bool true, .slice B l.length c, .slice R rows.length cr]) (hz : rowZ 5 B l.length c l w) (hr : IsRow 1 strC w R rows) (hL : Laid w) (h1 : ¬ rowZF B b) (h2 : ¬ rowFp rows.length R b) (h3 : ∀ k, rowZF B k → ¬ rowFp rows.length R k) (hb01 : b ≠ 0 ∧ b ≠ 1) (hB01 : ∀ k, k = 0 ∨ k = 1 → ¬ rowZF B k) :
  Hp w w [zR 5 B B l.length c l false, bx b 62 [.bool true, .slice B l.length c, .slice R rows.length cr] false] [rowF 1 strC R rows, laidK] := by
 have off : ∀ k, k ≠ b → ¬ rowZF B k → ∀ x ∈ [zR 5 B B l.length c l false, bx b 62 [.bool true, .slice B l.length c, .slice R rows.length cr] false], ¬ x.fp k := fun k hk hB x hx hf => by
  simp only [List.mem_cons, List.not_mem_nil, or_false] at hx
  rcases hx with rfl | rfl
  ·exact hf.elim hB hB
  ·exact hk hf
 refine ((((Hp.own hb).add (zR 5 B B l.length c l false) hz (zR_ok _ _ _ _ _ _ _) (fun k hk => rowZ_lt hz (hk.elim id id)) (fun k hk => ⟨fun y hy => ?_, fun _ h => by cases h⟩) fun h => by cases h).keepF laidK hL laidK_ok fun k hk => ⟨hL.lt k hk, off k (fun e => ?_) (hB01 k hk)⟩).keepF (rowF 1 strC R rows) hr (rowF_ok _ _ _ _) fun k hk => ⟨hr.lt k hk, off k (fun e => h2 (e ▸ hk)) fun h => h3 k h hk⟩)
 ·rcases List.mem_singleton.1 hy with rfl
  intro e
  have e : k = b := e
  subst e
  exact h1 (hk.elim id id)
 ·rcases hk with hk | hk
  ·exact hb01.1 (e.symm.trans hk)
  ·exact hb01.2 (e.symm.trans hk)
theorem dfeed_bad {c : Str} {d : Dec} (h : c.length ≠ 3) : feedP c d = ⟨[], d.rows⟩ := by unfold feedP; rw [if_pos h]
theorem dfeed_clear {c : Str} {d : Dec} (h : c.length = 3) (h1 : (c.getD 0 0).toNat = 64) : feedP c d = ⟨[], []⟩ := by unfold feedP; rw [if_neg (by omega), if_pos h1]
theorem dfeed_start {c : Str} {d : Dec} (h : c.length = 3) (h1 : (c.getD 0 0).toNat = 128) : feedP c d = doneP ⟨c.drop 1, d.rows⟩ := by unfold feedP; rw [if_neg (by omega), if_neg (by omega), if_pos h1]
theorem dfeed_cont {c : Str} {d : Dec} (h : c.length = 3) (h1 : 192 < (c.getD 0 0).toNat) (h2 : d.buf.length = 2 * ((c.getD 0 0).toNat - 192)) : feedP c d = doneP ⟨d.buf ++ c.drop 1, d.rows⟩ := by unfold feedP; rw [if_neg (by omega), if_neg (by omega), if_neg (by omega), if_pos ⟨h1, h2⟩]
theorem dfeed_no {c : Str} {d : Dec} (h : c.length = 3) (h1 : (c.getD 0 0).toNat ≠ 64) (h2 : (c.getD 0 0).toNat ≠ 128) (h3 : ¬ (192 < (c.getD 0 0).toNat ∧ d.buf.length = 2 * ((c.getD 0 0).toNat - 192))) : feedP c d = ⟨[], d.rows⟩ := by unfold feedP; rw [if_neg (by omega), if_neg h1, if_neg h2, if_neg h3]
set_option maxRecDepth 100000 in
set_option maxHeartbeats 4000000 in
theorem new_any (w : World) : Calls Tryd.prog 11 #[] w fun e w' => ∃ b, e = .returned (pt b 0) ∧ (decR b none 0 none 0 ⟨[], []⟩).F w' ∧ Below w.heap.size w w' ∧ ∀ k, decFp b none none 0 k → w.heap.size ≤ k := by
 have HP := Hp.start w
 refine w_enter 3 [] Tryd.func11 rfl Tryd.ntmps11 (by kernel_rfl) (by kernel_rfl) fun a H => ?_
 refine wp_seq (w_region ?_)
 refine H.ge HP [(0, (.pointer none))] [] fun a H => ?_
 refine then_normal (wp_seq (w_region ?_))
 refine H.go HP 1 [(1, (.agg #[(.bool true), (.slice none 0 0), (.slice none 0 0)]))] [] fun a H => ?_
 refine H.alloc HP 2 (fun b => (pt b 0)) 62 [(.bool true), (.slice none 0 0), (.slice none 0 0)] (by kernel_rfl) (fun w => by kernel_rfl) fun b_1 w_2 a H HP => ?_
 refine H.ge HP [(0, (pt b_1 0))] [] fun a H => ?_
 refine then_normal (wp_ret ?_)
 refine H.ret1 (fn := Tryd.f11) Tryd.results11 (RV.tmp_ (v := (pt b_1 0)) (by kernel_rfl)) ?_
 exact ⟨b_1, rfl, dec_mk (HP.at_ 0 rfl) (rowZ_nil _ _) (IsRow_nil _ _ _) (fun h => by obtain ⟨_, h⟩ := h; cases h) (fun h => by have h0 : 0 < 0 := h.1; omega) (fun k h => by obtain ⟨_, h⟩ := h; cases h), HP.bl, fun k hk => HP.fresh _ (List.mem_singleton.2 rfl) rfl k (dec_fpe hk)⟩
set_option maxRecDepth 100000 in
set_option maxHeartbeats 4000000 in
theorem feed_any (b : Nat) (B : Option Addr) (c : Nat) (R : Option Addr) (cr : Nat) (l : Str) (rows : List Str) (cd : Str) (w : World) (hd : (decR b B c R cr ⟨l, rows⟩).F w) (hL : Laid w) (hl : l.length ≤ 95) (hb01 : b ≠ 0 ∧ b ≠ 1) (hB01 : ∀ k, k = 0 ∨ k = 1 → ¬ rowZF B k) :
  Calls Tryd.prog 16 #[.pointer (some ⟨b, 0, none⟩), .string (bstr cd)] w (DecPost b B R rows.length (feedP cd ⟨l, rows⟩) w (decFp b B R rows.length)) := by
 obtain ⟨hbx, hz, hr, hs1, hs2, hs3⟩ := hd
 have hzf : l.length ≤ c := hz.2.1
 have HP := dec_start hbx hz hr hL hs1 hs2 hs3 hb01 hB01
 refine w_enter 89 [(0, (pt b 0)), (1, (.string (bstr cd)))] Tryd.func16 rfl Tryd.ntmps16 (by kernel_rfl) (by kernel_rfl) fun a H => ?_
 refine wp_seq (wp_seq (w_region ?_))
 refine H.ge HP [(6, (pt b 0)), (14, (.bool false))] [1] fun a H => ?_
 refine then_normal ?_
 refine w_iff H rfl ?_
 refine wp_skip (then_normal (wp_seq (wp_seq (w_region ?_))))
 refine H.ge HP [(17, (.bool ((cd.length : Int) != 3)))] [] fun a H => ?_
 refine then_normal ?_
 refine w_if H rfl (fun g17 => ?_) (fun g17 => ?_)
 ·have g17p := bne_iff_ne.1 g17
  refine wp_seq (w_region ?_)
  refine H.go HP 3 [(20, (pt b 1))] [] fun a H => ?_
  refine H.sh HP 1 1 (.slice none 0 0) rfl fun w_1 a H HP => ?_
  refine wpList_nil (then_normal (wp_ret (then_ret ?_)))
  refine H.ret0 (fn := Tryd.f16) Tryd.results16  ?_
  have HP : Hp w w_1 [zR 5 B B l.length c l false, bx b 62 [(.bool true), (.slice none 0 0), (.slice R rows.length cr)] false] [rowF 1 strC R rows, laidK] := HP
  have hbx := HP.at_ 1 rfl
  rw [dfeed_bad (by omega)]
  exact ⟨rfl, none, 0, R, cr, dec_mk hbx (rowZ_nil _ _) (HP.fact 0 rfl) (fun h => by obtain ⟨_, h⟩ := h; cases h) hs2 (fun k h => by obtain ⟨_, h⟩ := h; cases h), (HP.agreeN _ fun x hx => by simp only [List.mem_cons, List.not_mem_nil, or_false] at hx; rcases hx with rfl | rfl <;> first | exact .inl rfl | exact .inr fun k _ h => .inl h | exact .inr (zR_in fun k h => .inl h)), fun k hk => dec_fp0 hk⟩
 ·have g17p := eq_of_bne_false g17
  refine wp_skip (then_normal (wp_seq ?_))
  have hx0 := (cd.getD 0 0).toNat_lt
  refine An.start (fun v => Hp w v [zR 5 B B l.length c l false, bx b 62 [(.bool true), (.slice B l.length c), (.slice R rows.length cr)] false] [rowF 1 strC R rows, laidK]) 10 10 HP wide_follows rfl fun w_2 HP => ?_
  refine An.go H (.inr (HP)) 9 [0] [(21, (.string (bstr cd)))] [] fun a H => ?_
  refine An.pure H (.inr (HP)) 1 22 (.int .u8 (((cd.getD 0 0).toNat : Nat) : Int)) rfl (by kernel_rfl) (by kernel_rfl) (fun _ _ _ h => h) (fun _ => ex_sindex (k := .i64) (l := cd) (i := 0) (m := 0) (by kernel_rfl) (by kernel_rfl) (by kernel_rfl) (by omega) (by omega)) fun a H => ?_
  refine An.pureE H (.inr (HP)) 2 23 (ii (IntKind.i64.wrap (((cd.getD 0 0).toNat : Nat) : Int))) (ii (((cd.getD 0 0).toNat : Nat) : Int)) rfl (by kernel_rfl) (by kernel_rfl) (fun _ _ _ h => h) (fun _ => by kernel_rfl) ((by rw [wrap_ini64 _ (by omega)])) fun a H => ?_
  refine An.pureE H (.inr (HP)) 3 24 (ii (IntKind.i64.wrap ((((cd.getD 0 0).toNat : Nat) : Int).tdiv 64))) (ii (((cd.getD 0 0).toNat / 64 : Nat) : Int)) rfl (by kernel_rfl) (by kernel_rfl) (fun _ _ _ h => h) (fun _ => by kernel_rfl) ((by rw [tdiv_nn _ _ (by omega), wrap_ini64 _ (by omega)]; exact congrArg (Value.int .i64) (by omega))) fun a H => ?_
  refine An.go H (.inr (HP)) 5 [4] [(25, (.string (bstr cd)))] [] fun a H => ?_
  refine An.pure H (.inr (HP)) 5 26 (.int .u8 (((cd.getD 0 0).toNat : Nat) : Int)) rfl (by kernel_rfl) (by kernel_rfl) (fun _ _ _ h => h) (fun _ => ex_sindex (k := .i64) (l := cd) (i := 0) (m := 0) (by kernel_rfl) (by kernel_rfl) (by kernel_rfl) (by omega) (by omega)) fun a H => ?_
  refine An.pureE H (.inr (HP)) 6 27 (ii (IntKind.i64.wrap (((cd.getD 0 0).toNat : Nat) : Int))) (ii (((cd.getD 0 0).toNat : Nat) : Int)) rfl (by kernel_rfl) (by kernel_rfl) (fun _ _ _ h => h) (fun _ => by kernel_rfl) ((by rw [wrap_ini64 _ (by omega)])) fun a H => ?_
  refine An.pureE H (.inr (HP)) 7 28 (ii ((((cd.getD 0 0).toNat : Nat) : Int).tmod 64)) (ii (((cd.getD 0 0).toNat % 64 : Nat) : Int)) rfl (by kernel_rfl) (by kernel_rfl) (fun _ _ _ h => h) (fun _ => by kernel_rfl) ((by rw [tmod_nn _ _ (by omega)]; exact congrArg (Value.int .i64) (by omega))) fun a H => ?_
  refine An.go H (.inr (HP)) 0 [8, 9] [(4, (ii (((cd.getD 0 0).toNat / 64 : Nat) : Int))), (5, (ii (((cd.getD 0 0).toNat % 64 : Nat) : Int)))] [] fun a H => ?_
  refine An.done (by kernel_rfl) ?_
  refine then_normal (wp_block (wp_seq (w_region ?_)))
  refine H.go HP 3 [(35, (.bool ((((cd.getD 0 0).toNat / 64 : Nat) : Int) == 1)))] [] fun a H => ?_
  refine H.split 35 rfl (fun g35 H => ?_) (fun g35 H => ?_)
  ·have g35p := eq_of_beq g35
   refine H.ge HP [(32, (.bool ((((cd.getD 0 0).toNat % 64 : Nat) : Int) == 0)))] [] fun a H => ?_
   refine then_normal ?_
   refine w_if H rfl (fun g32 => ?_) (fun g32 => ?_)
   ·have g32p := eq_of_beq g32
    refine w_region ?_
    refine H.go HP 4 [(40, (pt b 0)), (42, (pt b 1))] [] fun a H => ?_
    refine H.sh HP 1 1 (.slice none 0 0) rfl fun w_3 a H HP => ?_
    refine H.go HP 2 [(44, (pt b 2))] [] fun a H => ?_
    refine H.sh HP 1 2 (.slice none 0 0) rfl fun w_4 a H HP => ?_
    refine wpList_nil (inb_normal ?_)
    refine H.end0 (fn := Tryd.f16) Tryd.results16  ?_
    have HP : Hp w w_4 [zR 5 B B l.length c l false, bx b 62 [(.bool true), (.slice none 0 0), (.slice none 0 0)] false] [rowF 1 strC R rows, laidK] := HP
    have hbx := HP.at_ 1 rfl
    rw [dfeed_clear (by omega) (by omega)]
    exact ⟨rfl, none, 0, none, 0, dec_mk hbx (rowZ_nil _ _) (IsRow_nil _ _ _) (fun h => by obtain ⟨_, h⟩ := h; cases h) (fun h => by have h0 : 0 < 0 := h.1; omega) (fun k h => by obtain ⟨_, h⟩ := h; cases h), (HP.agreeN _ fun x hx => by simp only [List.mem_cons, List.not_mem_nil, or_false] at hx; rcases hx with rfl | rfl <;> first | exact .inl rfl | exact .inr fun k _ h => .inl h | exact .inr (zR_in fun k h => .inl h)), fun k hk => dec_fp00 hk⟩
   ·have g32p := ne_of_beq_false g32
    refine wp_seq (w_region ?_)
    refine H.go HP 3 [(48, (.bool ((((cd.getD 0 0).toNat / 64 : Nat) : Int) == 2)))] [] fun a H => ?_
    refine H.split 48 rfl (fun g48 H => ?_) (fun g48 H => ?_)
    ·have g48p := eq_of_beq g48
     refine H.ge HP [(45, (.bool ((((cd.getD 0 0).toNat % 64 : Nat) : Int) == 0)))] [] fun a H => ?_
     refine then_normal ?_
     refine w_if H rfl (fun g45 => ?_) (fun g45 => ?_)
     ·have g45p := eq_of_beq g45
      refine wp_seq ?_
      have hcl : (cd.drop 1).length = 2 := by rw [List.length_drop]; omega
      refine w_region ?_
      refine H.go HP 2 [(52, (pt b 0)), (53, (.string (bstr cd)))] [] fun a H => ?_
      refine H.u 54 (.string (bstr (cd.drop 1))) (ex_ssliceL (k := .i64) (l := cd) (i := 1) (a := 1) (by kernel_rfl) (by kernel_rfl) (by kernel_rfl) (by omega) (by omega)) fun a H => ?_
      refine H.s2b HP 55 (cd.drop 1) (e := 5) (by kernel_rfl) (by kernel_rfl) (by kernel_rfl) (by kernel_rfl) (by kernel_rfl) fun bb cap w_5 a hcap H HP => ?_
      refine H.go HP 2 [(57, (pt b 1))] [] fun a H => ?_
      refine H.sh HP 2 1 (.slice (some ⟨bb, 0, none⟩) ((cd.drop 1).length) cap) rfl fun w_6 a H HP => ?_
      refine wpList_nil (then_normal (w_region ?_))
      refine H.go HP 1 [(58, (pt b 0))] [] fun a H => ?_
      have HP : Hp w w_6 [(bytesB bb 5 (cd.drop 1) cap), zR 5 B B l.length c l false, bx b 62 [(.bool true), (.slice (some ⟨bb, 0, none⟩) ((cd.drop 1).length) cap), (.slice R rows.length cr)] false] [rowF 1 strC R rows, laidK] := HP
      have hbx := HP.at_ 2 rfl
      have hzz := bytesB_rowZ (HP.held 0 rfl) hcap
      have hdr : (decR b (some ⟨bb, 0, none⟩) cap R cr ⟨cd.drop 1, rows⟩).F w_6 := dec_mk hbx hzz (HP.fact 0 rfl) (fun h => HP.byt_off 0 rfl 2 rfl h) hs2 (fun k h1 h2 => HP.byt_row 0 rfl 0 rfl h1 h2)
      have hl2 : 2 ≤ (cd.drop 1).length ∧ (cd.drop 1).length ≤ 1000 := by omega
      refine H.call 59 (by kernel_rfl) (Eq.trans (by kernel_rfl : _ = (callFunc 35 #[(pt b 0)]).run Tryd.prog w_6) (Tryd.call35 _ _)) (complete_any b (some ⟨bb, 0, none⟩) cap R cr (cd.drop 1) rows _ w_6 hdr (HP.fact 1 rfl) rfl hl2.1 hl2.2 hb01) ?_
      rintro e w_7 ⟨rfl, hpost⟩
      refine ⟨_, rfl, ?_⟩
      intro a H
      refine wpList_nil (inb_normal ?_)
      refine H.end0 (fn := Tryd.f16) Tryd.results16  ?_
      rw [dfeed_start (by omega) (by omega)]
      exact dec_trans (HP.agreeN _ fun x hx => by simp only [List.mem_cons, List.not_mem_nil, or_false] at hx; rcases hx with rfl | rfl | rfl <;> first | exact .inl rfl | exact .inr fun k _ h => .inl h | exact .inr (zR_in fun k h => .inl h)) HP.size (fun k h1 => .inr (HP.byt_new 0 rfl h1)) hpost
     ·have g45p := ne_of_beq_false g45
      refine wp_seq (w_region ?_)
      refine H.go HP 3 [(63, (.bool ((((cd.getD 0 0).toNat / 64 : Nat) : Int) == 3)))] [] fun a H => ?_
      refine H.split 63 rfl (fun g63 H => ?_) (fun g63 H => ?_)
      ·have g63p := eq_of_beq g63
       refine H.go HP 4 [(67, (.bool (decide ((((cd.getD 0 0).toNat % 64 : Nat) : Int) > 0))))] [] fun a H => ?_
       refine H.split 67 rfl (fun g67 H => ?_) (fun g67 H => ?_)
       ·have g67p := of_decide_eq_true g67
        refine H.go HP 6 [(72, (ii l.length)), (73, (ii (((cd.getD 0 0).toNat % 64 : Nat) : Int)))] [1] fun a H => ?_
        refine H.valE 74 (ii (IntKind.i64.wrap (2 * (((cd.getD 0 0).toNat % 64 : Nat) : Int)))) (ii ((2 * ((cd.getD 0 0).toNat % 64) : Nat) : Int)) (by kernel_rfl) (by kernel_rfl) ((by rw [wrap_ini64 _ (by omega)]; exact congrArg (Value.int .i64) (by omega))) fun a H => ?_
        refine H.ge HP [(60, (.bool ((l.length : Int) == ((2 * ((cd.getD 0 0).toNat % 64) : Nat) : Int))))] [] fun a H => ?_
        refine then_normal ?_
        refine w_if H rfl (fun g60 => ?_) (fun g60 => ?_)
        ·have g60p := eq_of_beq g60
         refine wp_seq ?_
         have hcl : (cd.drop 1).length = 2 := by rw [List.length_drop]; omega
         have HP : Hp w w_2 [zR 5 B B l.length c l false, bx b 62 [(.bool true), (.slice B l.length c), (.slice R rows.length cr)] false] [rowF 1 strC R rows, laidK] := HP
         refine An.start (fun v => Hp w v [zR 5 B B l.length c l false, bx b 62 [(.bool true), (.slice B l.length c), (.slice R rows.length cr)] false] [rowF 1 strC R rows, laidK]) 7 11 HP wide_follows rfl fun w_8 HP => ?_
         refine An.go H (.inr (HP)) 5 [0, 1, 2, 3, 4, 5] [(77, (pt b 0)), (81, (.slice B l.length c)), (82, (.string (bstr cd)))] [1] fun a H => ?_
         refine An.pure H (.inr (HP)) 6 83 (.string (bstr (cd.drop 1))) rfl (by kernel_rfl) (by kernel_rfl) (fun _ _ _ h => h) (fun _ => ex_ssliceL (k := .i64) (l := cd) (i := 1) (a := 1) (by kernel_rfl) (by kernel_rfl) (by kernel_rfl) (by omega) (by omega)) fun a H => ?_
         refine An.one 7 (by kernel_rfl) ?_
         have hsz0 := HP.size
         refine Op.appZ H HP 84 0 5 B l.length c l (cd.drop 1) false rfl (by kernel_rfl) (by kernel_rfl) (by kernel_rfl) (by kernel_rfl) (by kernel_rfl) rfl (by kernel_rfl) (by omega) (by rw [List.length_drop]; omega) fun B1 c1 w_9 a hB1 H HP => ?_
         have HP : Hp w w_9 [zR 5 B B1 (l.length + (cd.drop 1).length) c1 (l ++ cd.drop 1) false, bx b 62 [(.bool true), (.slice B l.length c), (.slice R rows.length cr)] false] [rowF 1 strC R rows, laidK] := HP
         refine ⟨.inl (by kernel_rfl), ?_⟩
         refine An.go H (.inl (by kernel_rfl)) 1 [8, 9] [(86, (pt b 1))] [] fun a H => ?_
         refine An.one 10 (by kernel_rfl) ?_
         refine Op.sh H HP 1 1 (.slice B1 (l.length + (cd.drop 1).length) c1) rfl rfl fun w_10 a H HP => ?_
         refine ⟨.inl (by kernel_rfl), ?_⟩
         refine An.done (by kernel_rfl) ?_
         refine then_normal (w_region ?_)
         refine H.go HP 1 [(87, (pt b 0))] [] fun a H => ?_
         have HP : Hp w w_10 [zR 5 B B1 (l.length + (cd.drop 1).length) c1 (l ++ cd.drop 1) false, bx b 62 [(.bool true), (.slice B1 (l.length + (cd.drop 1).length) c1), (.slice R rows.length cr)] false] [rowF 1 strC R rows, laidK] := HP
         have hbx := HP.at_ 1 rfl
         have hzz := HP.held 0 rfl
         have hlen : l.length + (cd.drop 1).length = (l ++ cd.drop 1).length := (List.length_append ..).symm
         have hdr : (decR b B1 c1 R cr ⟨l ++ cd.drop 1, rows⟩).F w_10 := dec_mk (by rw [← hlen]; exact hbx) (by rw [← hlen]; exact hzz) (HP.fact 0 rfl) (fun h => HP.z_off 0 rfl 1 rfl h) hs2 (fun k h1 h2 => HP.z_row 0 rfl 0 rfl h1 h2)
         have hl2 : 2 ≤ (l ++ cd.drop 1).length ∧ (l ++ cd.drop 1).length ≤ 1000 := by omega
         refine H.call 88 (by kernel_rfl) (Eq.trans (by kernel_rfl : _ = (callFunc 35 #[(pt b 0)]).run Tryd.prog w_10) (Tryd.call35 _ _)) (complete_any b B1 c1 R cr (l ++ cd.drop 1) rows _ w_10 hdr (HP.fact 1 rfl) rfl hl2.1 hl2.2 hb01) ?_
         rintro e w_11 ⟨rfl, hpost⟩
         refine ⟨_, rfl, ?_⟩
         intro a H
         refine wpList_nil (inb_normal ?_)
         refine H.end0 (fn := Tryd.f16) Tryd.results16  ?_
         rw [dfeed_cont (by omega) (by omega) (show l.length = _ from by omega)]
         have hB1a : ∀ k, rowZF B1 k → rowZF B k ∨ w.heap.size ≤ k := fun k h1 => (hB1 k h1).imp id fun h => Nat.le_trans hsz0 h
         exact dec_trans (HP.agreeN _ fun x hx => by simp only [List.mem_cons, List.not_mem_nil, or_false] at hx; rcases hx with rfl | rfl <;> first | exact .inl rfl | exact .inr fun k _ h => .inl h | exact .inr (zR_in hB1a)) HP.size (fun k h1 => hB1a k h1) hpost
        ·have g60p := ne_of_beq_false g60
         refine w_region ?_
         refine H.go HP 3 [(31, (pt b 1))] [] fun a H => ?_
         refine H.sh HP 1 1 (.slice none 0 0) rfl fun w_12 a H HP => ?_
         refine wpList_nil (inb_normal ?_)
         refine H.end0 (fn := Tryd.f16) Tryd.results16  ?_
         have HP : Hp w w_12 [zR 5 B B l.length c l false, bx b 62 [(.bool true), (.slice none 0 0), (.slice R rows.length cr)] false] [rowF 1 strC R rows, laidK] := HP
         have hbx := HP.at_ 1 rfl
         rw [dfeed_no (by omega) (by omega) (by omega) (show ¬ (192 < (cd.getD 0 0).toNat ∧ l.length = 2 * ((cd.getD 0 0).toNat - 192)) from by omega)]
         exact ⟨rfl, none, 0, R, cr, dec_mk hbx (rowZ_nil _ _) (HP.fact 0 rfl) (fun h => by obtain ⟨_, h⟩ := h; cases h) hs2 (fun k h => by obtain ⟨_, h⟩ := h; cases h), (HP.agreeN _ fun x hx => by simp only [List.mem_cons, List.not_mem_nil, or_false] at hx; rcases hx with rfl | rfl <;> first | exact .inl rfl | exact .inr fun k _ h => .inl h | exact .inr (zR_in fun k h => .inl h)), fun k hk => dec_fp0 hk⟩
       ·have g67p := of_decide_eq_false g67
        refine H.ge HP [(60, (.bool false))] [] fun a H => ?_
        refine then_normal ?_
        refine w_iff H rfl ?_
        refine w_region ?_
        refine H.go HP 3 [(31, (pt b 1))] [] fun a H => ?_
        refine H.sh HP 1 1 (.slice none 0 0) rfl fun w_13 a H HP => ?_
        refine wpList_nil (inb_normal ?_)
        refine H.end0 (fn := Tryd.f16) Tryd.results16  ?_
        have HP : Hp w w_13 [zR 5 B B l.length c l false, bx b 62 [(.bool true), (.slice none 0 0), (.slice R rows.length cr)] false] [rowF 1 strC R rows, laidK] := HP
        have hbx := HP.at_ 1 rfl
        rw [dfeed_no (by omega) (by omega) (by omega) (show ¬ (192 < (cd.getD 0 0).toNat ∧ l.length = 2 * ((cd.getD 0 0).toNat - 192)) from by omega)]
        exact ⟨rfl, none, 0, R, cr, dec_mk hbx (rowZ_nil _ _) (HP.fact 0 rfl) (fun h => by obtain ⟨_, h⟩ := h; cases h) hs2 (fun k h => by obtain ⟨_, h⟩ := h; cases h), (HP.agreeN _ fun x hx => by simp only [List.mem_cons, List.not_mem_nil, or_false] at hx; rcases hx with rfl | rfl <;> first | exact .inl rfl | exact .inr fun k _ h => .inl h | exact .inr (zR_in fun k h => .inl h)), fun k hk => dec_fp0 hk⟩
      ·have g63p := ne_of_beq_false g63
       refine H.ge HP [(60, (.bool false))] [] fun a H => ?_
       refine then_normal ?_
       refine w_iff H rfl ?_
       refine w_region ?_
       refine H.go HP 3 [(31, (pt b 1))] [] fun a H => ?_
       refine H.sh HP 1 1 (.slice none 0 0) rfl fun w_14 a H HP => ?_
       refine wpList_nil (inb_normal ?_)
       refine H.end0 (fn := Tryd.f16) Tryd.results16  ?_
       have HP : Hp w w_14 [zR 5 B B l.length c l false, bx b 62 [(.bool true), (.slice none 0 0), (.slice R rows.length cr)] false] [rowF 1 strC R rows, laidK] := HP
       have hbx := HP.at_ 1 rfl
       rw [dfeed_no (by omega) (by omega) (by omega) (show ¬ (192 < (cd.getD 0 0).toNat ∧ l.length = 2 * ((cd.getD 0 0).toNat - 192)) from by omega)]
       exact ⟨rfl, none, 0, R, cr, dec_mk hbx (rowZ_nil _ _) (HP.fact 0 rfl) (fun h => by obtain ⟨_, h⟩ := h; cases h) hs2 (fun k h => by obtain ⟨_, h⟩ := h; cases h), (HP.agreeN _ fun x hx => by simp only [List.mem_cons, List.not_mem_nil, or_false] at hx; rcases hx with rfl | rfl <;> first | exact .inl rfl | exact .inr fun k _ h => .inl h | exact .inr (zR_in fun k h => .inl h)), fun k hk => dec_fp0 hk⟩
    ·have g48p := ne_of_beq_false g48
     refine H.ge HP [(45, (.bool false))] [] fun a H => ?_
     refine then_normal ?_
     refine w_iff H rfl ?_
     refine wp_seq (w_region ?_)
     refine H.go HP 3 [(63, (.bool ((((cd.getD 0 0).toNat / 64 : Nat) : Int) == 3)))] [] fun a H => ?_
     refine H.split 63 rfl (fun g63 H => ?_) (fun g63 H => ?_)
     ·have g63p := eq_of_beq g63
      refine H.go HP 4 [(67, (.bool (decide ((((cd.getD 0 0).toNat % 64 : Nat) : Int) > 0))))] [] fun a H => ?_
      refine H.split 67 rfl (fun g67 H => ?_) (fun g67 H => ?_)
      ·have g67p := of_decide_eq_true g67
       refine H.go HP 6 [(72, (ii l.length)), (73, (ii (((cd.getD 0 0).toNat % 64 : Nat) : Int)))] [1] fun a H => ?_
       refine H.valE 74 (ii (IntKind.i64.wrap (2 * (((cd.getD 0 0).toNat % 64 : Nat) : Int)))) (ii ((2 * ((cd.getD 0 0).toNat % 64) : Nat) : Int)) (by kernel_rfl) (by kernel_rfl) ((by rw [wrap_ini64 _ (by omega)]; exact congrArg (Value.int .i64) (by omega))) fun a H => ?_
       refine H.ge HP [(60, (.bool ((l.length : Int) == ((2 * ((cd.getD 0 0).toNat % 64) : Nat) : Int))))] [] fun a H => ?_
       refine then_normal ?_
       refine w_if H rfl (fun g60 => ?_) (fun g60 => ?_)
       ·have g60p := eq_of_beq g60
        refine wp_seq ?_
        have hcl : (cd.drop 1).length = 2 := by rw [List.length_drop]; omega
        have HP : Hp w w_2 [zR 5 B B l.length c l false, bx b 62 [(.bool true), (.slice B l.length c), (.slice R rows.length cr)] false] [rowF 1 strC R rows, laidK] := HP
        refine An.start (fun v => Hp w v [zR 5 B B l.length c l false, bx b 62 [(.bool true), (.slice B l.length c), (.slice R rows.length cr)] false] [rowF 1 strC R rows, laidK]) 7 11 HP wide_follows rfl fun w_15 HP => ?_
        refine An.go H (.inr (HP)) 5 [0, 1, 2, 3, 4, 5] [(77, (pt b 0)), (81, (.slice B l.length c)), (82, (.string (bstr cd)))] [1] fun a H => ?_
        refine An.pure H (.inr (HP)) 6 83 (.string (bstr (cd.drop 1))) rfl (by kernel_rfl) (by kernel_rfl) (fun _ _ _ h => h) (fun _ => ex_ssliceL (k := .i64) (l := cd) (i := 1) (a := 1) (by kernel_rfl) (by kernel_rfl) (by kernel_rfl) (by omega) (by omega)) fun a H => ?_
        refine An.one 7 (by kernel_rfl) ?_
        have hsz0 := HP.size
        refine Op.appZ H HP 84 0 5 B l.length c l (cd.drop 1) false rfl (by kernel_rfl) (by kernel_rfl) (by kernel_rfl) (by kernel_rfl) (by kernel_rfl) rfl (by kernel_rfl) (by omega) (by rw [List.length_drop]; omega) fun B1 c1 w_16 a hB1 H HP => ?_
        have HP : Hp w w_16 [zR 5 B B1 (l.length + (cd.drop 1).length) c1 (l ++ cd.drop 1) false, bx b 62 [(.bool true), (.slice B l.length c), (.slice R rows.length cr)] false] [rowF 1 strC R rows, laidK] := HP
        refine ⟨.inl (by kernel_rfl), ?_⟩
        refine An.go H (.inl (by kernel_rfl)) 1 [8, 9] [(86, (pt b 1))] [] fun a H => ?_
        refine An.one 10 (by kernel_rfl) ?_
        refine Op.sh H HP 1 1 (.slice B1 (l.length + (cd.drop 1).length) c1) rfl rfl fun w_17 a H HP => ?_
        refine ⟨.inl (by kernel_rfl), ?_⟩
        refine An.done (by kernel_rfl) ?_
        refine then_normal (w_region ?_)
        refine H.go HP 1 [(87, (pt b 0))] [] fun a H => ?_
        have HP : Hp w w_17 [zR 5 B B1 (l.length + (cd.drop 1).length) c1 (l ++ cd.drop 1) false, bx b 62 [(.bool true), (.slice B1 (l.length + (cd.drop 1).length) c1), (.slice R rows.length cr)] false] [rowF 1 strC R rows, laidK] := HP
        have hbx := HP.at_ 1 rfl
        have hzz := HP.held 0 rfl
        have hlen : l.length + (cd.drop 1).length = (l ++ cd.drop 1).length := (List.length_append ..).symm
        have hdr : (decR b B1 c1 R cr ⟨l ++ cd.drop 1, rows⟩).F w_17 := dec_mk (by rw [← hlen]; exact hbx) (by rw [← hlen]; exact hzz) (HP.fact 0 rfl) (fun h => HP.z_off 0 rfl 1 rfl h) hs2 (fun k h1 h2 => HP.z_row 0 rfl 0 rfl h1 h2)
        have hl2 : 2 ≤ (l ++ cd.drop 1).length ∧ (l ++ cd.drop 1).length ≤ 1000 := by omega
        refine H.call 88 (by kernel_rfl) (Eq.trans (by kernel_rfl : _ = (callFunc 35 #[(pt b 0)]).run Tryd.prog w_17) (Tryd.call35 _ _)) (complete_any b B1 c1 R cr (l ++ cd.drop 1) rows _ w_17 hdr (HP.fact 1 rfl) rfl hl2.1 hl2.2 hb01) ?_
        rintro e w_18 ⟨rfl, hpost⟩
        refine ⟨_, rfl, ?_⟩
        intro a H
        refine wpList_nil (inb_normal ?_)
        refine H.end0 (fn := Tryd.f16) Tryd.results16  ?_
        rw [dfeed_cont (by omega) (by omega) (show l.length = _ from by omega)]
        have hB1a : ∀ k, rowZF B1 k → rowZF B k ∨ w.heap.size ≤ k := fun k h1 => (hB1 k h1).imp id fun h => Nat.le_trans hsz0 h
        exact dec_trans (HP.agreeN _ fun x hx => by simp only [List.mem_cons, List.not_mem_nil, or_false] at hx; rcases hx with rfl | rfl <;> first | exact .inl rfl | exact .inr fun k _ h => .inl h | exact .inr (zR_in hB1a)) HP.size (fun k h1 => hB1a k h1) hpost
       ·have g60p := ne_of_beq_false g60
        refine w_region ?_
        refine H.go HP 3 [(31, (pt b 1))] [] fun a H => ?_
        refine H.sh HP 1 1 (.slice none 0 0) rfl fun w_19 a H HP => ?_
        refine wpList_nil (inb_normal ?_)
        refine H.end0 (fn := Tryd.f16) Tryd.results16  ?_
        have HP : Hp w w_19 [zR 5 B B l.length c l false, bx b 62 [(.bool true), (.slice none 0 0), (.slice R rows.length cr)] false] [rowF 1 strC R rows, laidK] := HP
        have hbx := HP.at_ 1 rfl
        rw [dfeed_no (by omega) (by omega) (by omega) (show ¬ (192 < (cd.getD 0 0).toNat ∧ l.length = 2 * ((cd.getD 0 0).toNat - 192)) from by omega)]
        exact ⟨rfl, none, 0, R, cr, dec_mk hbx (rowZ_nil _ _) (HP.fact 0 rfl) (fun h => by obtain ⟨_, h⟩ := h; cases h) hs2 (fun k h => by obtain ⟨_, h⟩ := h; cases h), (HP.agreeN _ fun x hx => by simp only [List.mem_cons, List.not_mem_nil, or_false] at hx; rcases hx with rfl | rfl <;> first | exact .inl rfl | exact .inr fun k _ h => .inl h | exact .inr (zR_in fun k h => .inl h)), fun k hk => dec_fp0 hk⟩
      ·have g67p := of_decide_eq_false g67
       refine H.ge HP [(60, (.bool false))] [] fun a H => ?_
       refine then_normal ?_
       refine w_iff H rfl ?_
       refine w_region ?_
       refine H.go HP 3 [(31, (pt b 1))] [] fun a H => ?_
       refine H.sh HP 1 1 (.slice none 0 0) rfl fun w_20 a H HP => ?_
       refine wpList_nil (inb_normal ?_)
       refine H.end0 (fn := Tryd.f16) Tryd.results16  ?_
       have HP : Hp w w_20 [zR 5 B B l.length c l false, bx b 62 [(.bool true), (.slice none 0 0), (.slice R rows.length cr)] false] [rowF 1 strC R rows, laidK] := HP
       have hbx := HP.at_ 1 rfl
       rw [dfeed_no (by omega) (by omega) (by omega) (show ¬ (192 < (cd.getD 0 0).toNat ∧ l.length = 2 * ((cd.getD 0 0).toNat - 192)) from by omega)]
       exact ⟨rfl, none, 0, R, cr, dec_mk hbx (rowZ_nil _ _) (HP.fact 0 rfl) (fun h => by obtain ⟨_, h⟩ := h; cases h) hs2 (fun k h => by obtain ⟨_, h⟩ := h; cases h), (HP.agreeN _ fun x hx => by simp only [List.mem_cons, List.not_mem_nil, or_false] at hx; rcases hx with rfl | rfl <;> first | exact .inl rfl | exact .inr fun k _ h => .inl h | exact .inr (zR_in fun k h => .inl h)), fun k hk => dec_fp0 hk⟩
     ·have g63p := ne_of_beq_false g63
      refine H.ge HP [(60, (.bool false))] [] fun a H => ?_
      refine then_normal ?_
      refine w_iff H rfl ?_
      refine w_region ?_
      refine H.go HP 3 [(31, (pt b 1))] [] fun a H => ?_
      refine H.sh HP 1 1 (.slice none 0 0) rfl fun w_21 a H HP => ?_
      refine wpList_nil (inb_normal ?_)
      refine H.end0 (fn := Tryd.f16) Tryd.results16  ?_
      have HP : Hp w w_21 [zR 5 B B l.length c l false, bx b 62 [(.bool true), (.slice none 0 0), (.slice R rows.length cr)] false] [rowF 1 strC R rows, laidK] := HP
      have hbx := HP.at_ 1 rfl
      rw [dfeed_no (by omega) (by omega) (by omega) (show ¬ (192 < (cd.getD 0 0).toNat ∧ l.length = 2 * ((cd.getD 0 0).toNat - 192)) from by omega)]
      exact ⟨rfl, none, 0, R, cr, dec_mk hbx (rowZ_nil _ _) (HP.fact 0 rfl) (fun h => by obtain ⟨_, h⟩ := h; cases h) hs2 (fun k h => by obtain ⟨_, h⟩ := h; cases h), (HP.agreeN _ fun x hx => by simp only [List.mem_cons, List.not_mem_nil, or_false] at hx; rcases hx with rfl | rfl <;> first | exact .inl rfl | exact .inr fun k _ h => .inl h | exact .inr (zR_in fun k h => .inl h)), fun k hk => dec_fp0 hk⟩
  ·have g35p := ne_of_beq_false g35
   refine H.ge HP [(32, (.bool false))] [] fun a H => ?_
   refine then_normal ?_
   refine w_iff H rfl ?_
   refine wp_seq (w_region ?_)
   refine H.go HP 3 [(48, (.bool ((((cd.getD 0 0).toNat / 64 : Nat) : Int) == 2)))] [] fun a H => ?_
   refine H.split 48 rfl (fun g48 H => ?_) (fun g48 H => ?_)
   ·have g48p := eq_of_beq g48
    refine H.ge HP [(45, (.bool ((((cd.getD 0 0).toNat % 64 : Nat) : Int) == 0)))] [] fun a H => ?_
    refine then_normal ?_
    refine w_if H rfl (fun g45 => ?_) (fun g45 => ?_)
    ·have g45p := eq_of_beq g45
     refine wp_seq ?_
     have hcl : (cd.drop 1).length = 2 := by rw [List.length_drop]; omega
     refine w_region ?_
     refine H.go HP 2 [(52, (pt b 0)), (53, (.string (bstr cd)))] [] fun a H => ?_
     refine H.u 54 (.string (bstr (cd.drop 1))) (ex_ssliceL (k := .i64) (l := cd) (i := 1) (a := 1) (by kernel_rfl) (by kernel_rfl) (by kernel_rfl) (by omega) (by omega)) fun a H => ?_
     refine H.s2b HP 55 (cd.drop 1) (e := 5) (by kernel_rfl) (by kernel_rfl) (by kernel_rfl) (by kernel_rfl) (by kernel_rfl) fun bb cap w_22 a hcap H HP => ?_
     refine H.go HP 2 [(57, (pt b 1))] [] fun a H => ?_
     refine H.sh HP 2 1 (.slice (some ⟨bb, 0, none⟩) ((cd.drop 1).length) cap) rfl fun w_23 a H HP => ?_
     refine wpList_nil (then_normal (w_region ?_))
     refine H.go HP 1 [(58, (pt b 0))] [] fun a H => ?_
     have HP : Hp w w_23 [(bytesB bb 5 (cd.drop 1) cap), zR 5 B B l.length c l false, bx b 62 [(.bool true), (.slice (some ⟨bb, 0, none⟩) ((cd.drop 1).length) cap), (.slice R rows.length cr)] false] [rowF 1 strC R rows, laidK] := HP
     have hbx := HP.at_ 2 rfl
     have hzz := bytesB_rowZ (HP.held 0 rfl) hcap
     have hdr : (decR b (some ⟨bb, 0, none⟩) cap R cr ⟨cd.drop 1, rows⟩).F w_23 := dec_mk hbx hzz (HP.fact 0 rfl) (fun h => HP.byt_off 0 rfl 2 rfl h) hs2 (fun k h1 h2 => HP.byt_row 0 rfl 0 rfl h1 h2)
     have hl2 : 2 ≤ (cd.drop 1).length ∧ (cd.drop 1).length ≤ 1000 := by omega
     refine H.call 59 (by kernel_rfl) (Eq.trans (by kernel_rfl : _ = (callFunc 35 #[(pt b 0)]).run Tryd.prog w_23) (Tryd.call35 _ _)) (complete_any b (some ⟨bb, 0, none⟩) cap R cr (cd.drop 1) rows _ w_23 hdr (HP.fact 1 rfl) rfl hl2.1 hl2.2 hb01) ?_
     rintro e w_24 ⟨rfl, hpost⟩
     refine ⟨_, rfl, ?_⟩
     intro a H
     refine wpList_nil (inb_normal ?_)
     refine H.end0 (fn := Tryd.f16) Tryd.results16  ?_
     rw [dfeed_start (by omega) (by omega)]
     exact dec_trans (HP.agreeN _ fun x hx => by simp only [List.mem_cons, List.not_mem_nil, or_false] at hx; rcases hx with rfl | rfl | rfl <;> first | exact .inl rfl | exact .inr fun k _ h => .inl h | exact .inr (zR_in fun k h => .inl h)) HP.size (fun k h1 => .inr (HP.byt_new 0 rfl h1)) hpost
    ·have g45p := ne_of_beq_false g45
     refine wp_seq (w_region ?_)
     refine H.go HP 3 [(63, (.bool ((((cd.getD 0 0).toNat / 64 : Nat) : Int) == 3)))] [] fun a H => ?_
     refine H.split 63 rfl (fun g63 H => ?_) (fun g63 H => ?_)
     ·have g63p := eq_of_beq g63
      refine H.go HP 4 [(67, (.bool (decide ((((cd.getD 0 0).toNat % 64 : Nat) : Int) > 0))))] [] fun a H => ?_
      refine H.split 67 rfl (fun g67 H => ?_) (fun g67 H => ?_)
      ·have g67p := of_decide_eq_true g67
       refine H.go HP 6 [(72, (ii l.length)), (73, (ii (((cd.getD 0 0).toNat % 64 : Nat) : Int)))] [1] fun a H => ?_
       refine H.valE 74 (ii (IntKind.i64.wrap (2 * (((cd.getD 0 0).toNat % 64 : Nat) : Int)))) (ii ((2 * ((cd.getD 0 0).toNat % 64) : Nat) : Int)) (by kernel_rfl) (by kernel_rfl) ((by rw [wrap_ini64 _ (by omega)]; exact congrArg (Value.int .i64) (by omega))) fun a H => ?_
       refine H.ge HP [(60, (.bool ((l.length : Int) == ((2 * ((cd.getD 0 0).toNat % 64) : Nat) : Int))))] [] fun a H => ?_
       refine then_normal ?_
       refine w_if H rfl (fun g60 => ?_) (fun g60 => ?_)
       ·have g60p := eq_of_beq g60
        refine wp_seq ?_
        have hcl : (cd.drop 1).length = 2 := by rw [List.length_drop]; omega
        have HP : Hp w w_2 [zR 5 B B l.length c l false, bx b 62 [(.bool true), (.slice B l.length c), (.slice R rows.length cr)] false] [rowF 1 strC R rows, laidK] := HP
        refine An.start (fun v => Hp w v [zR 5 B B l.length c l false, bx b 62 [(.bool true), (.slice B l.length c), (.slice R rows.length cr)] false] [rowF 1 strC R rows, laidK]) 7 11 HP wide_follows rfl fun w_25 HP => ?_
        refine An.go H (.inr (HP)) 5 [0, 1, 2, 3, 4, 5] [(77, (pt b 0)), (81, (.slice B l.length c)), (82, (.string (bstr cd)))] [1] fun a H => ?_
        refine An.pure H (.inr (HP)) 6 83 (.string (bstr (cd.drop 1))) rfl (by kernel_rfl) (by kernel_rfl) (fun _ _ _ h => h) (fun _ => ex_ssliceL (k := .i64) (l := cd) (i := 1) (a := 1) (by kernel_rfl) (by kernel_rfl) (by kernel_rfl) (by omega) (by omega)) fun a H => ?_
        refine An.one 7 (by kernel_rfl) ?_
        have hsz0 := HP.size
        refine Op.appZ H HP 84 0 5 B l.length c l (cd.drop 1) false rfl (by kernel_rfl) (by kernel_rfl) (by kernel_rfl) (by kernel_rfl) (by kernel_rfl) rfl (by kernel_rfl) (by omega) (by rw [List.length_drop]; omega) fun B1 c1 w_26 a hB1 H HP => ?_
        have HP : Hp w w_26 [zR 5 B B1 (l.length + (cd.drop 1).length) c1 (l ++ cd.drop 1) false, bx b 62 [(.bool true), (.slice B l.length c), (.slice R rows.length cr)] false] [rowF 1 strC R rows, laidK] := HP
        refine ⟨.inl (by kernel_rfl), ?_⟩
        refine An.go H (.inl (by kernel_rfl)) 1 [8, 9] [(86, (pt b 1))] [] fun a H => ?_
        refine An.one 10 (by kernel_rfl) ?_
        refine Op.sh H HP 1 1 (.slice B1 (l.length + (cd.drop 1).length) c1) rfl rfl fun w_27 a H HP => ?_
        refine ⟨.inl (by kernel_rfl), ?_⟩
        refine An.done (by kernel_rfl) ?_
        refine then_normal (w_region ?_)
        refine H.go HP 1 [(87, (pt b 0))] [] fun a H => ?_
        have HP : Hp w w_27 [zR 5 B B1 (l.length + (cd.drop 1).length) c1 (l ++ cd.drop 1) false, bx b 62 [(.bool true), (.slice B1 (l.length + (cd.drop 1).length) c1), (.slice R rows.length cr)] false] [rowF 1 strC R rows, laidK] := HP
        have hbx := HP.at_ 1 rfl
        have hzz := HP.held 0 rfl
        have hlen : l.length + (cd.drop 1).length = (l ++ cd.drop 1).length := (List.length_append ..).symm
        have hdr : (decR b B1 c1 R cr ⟨l ++ cd.drop 1, rows⟩).F w_27 := dec_mk (by rw [← hlen]; exact hbx) (by rw [← hlen]; exact hzz) (HP.fact 0 rfl) (fun h => HP.z_off 0 rfl 1 rfl h) hs2 (fun k h1 h2 => HP.z_row 0 rfl 0 rfl h1 h2)
        have hl2 : 2 ≤ (l ++ cd.drop 1).length ∧ (l ++ cd.drop 1).length ≤ 1000 := by omega
        refine H.call 88 (by kernel_rfl) (Eq.trans (by kernel_rfl : _ = (callFunc 35 #[(pt b 0)]).run Tryd.prog w_27) (Tryd.call35 _ _)) (complete_any b B1 c1 R cr (l ++ cd.drop 1) rows _ w_27 hdr (HP.fact 1 rfl) rfl hl2.1 hl2.2 hb01) ?_
        rintro e w_28 ⟨rfl, hpost⟩
        refine ⟨_, rfl, ?_⟩
        intro a H
        refine wpList_nil (inb_normal ?_)
        refine H.end0 (fn := Tryd.f16) Tryd.results16  ?_
        rw [dfeed_cont (by omega) (by omega) (show l.length = _ from by omega)]
        have hB1a : ∀ k, rowZF B1 k → rowZF B k ∨ w.heap.size ≤ k := fun k h1 => (hB1 k h1).imp id fun h => Nat.le_trans hsz0 h
        exact dec_trans (HP.agreeN _ fun x hx => by simp only [List.mem_cons, List.not_mem_nil, or_false] at hx; rcases hx with rfl | rfl <;> first | exact .inl rfl | exact .inr fun k _ h => .inl h | exact .inr (zR_in hB1a)) HP.size (fun k h1 => hB1a k h1) hpost
       ·have g60p := ne_of_beq_false g60
        refine w_region ?_
        refine H.go HP 3 [(31, (pt b 1))] [] fun a H => ?_
        refine H.sh HP 1 1 (.slice none 0 0) rfl fun w_29 a H HP => ?_
        refine wpList_nil (inb_normal ?_)
        refine H.end0 (fn := Tryd.f16) Tryd.results16  ?_
        have HP : Hp w w_29 [zR 5 B B l.length c l false, bx b 62 [(.bool true), (.slice none 0 0), (.slice R rows.length cr)] false] [rowF 1 strC R rows, laidK] := HP
        have hbx := HP.at_ 1 rfl
        rw [dfeed_no (by omega) (by omega) (by omega) (show ¬ (192 < (cd.getD 0 0).toNat ∧ l.length = 2 * ((cd.getD 0 0).toNat - 192)) from by omega)]
        exact ⟨rfl, none, 0, R, cr, dec_mk hbx (rowZ_nil _ _) (HP.fact 0 rfl) (fun h => by obtain ⟨_, h⟩ := h; cases h) hs2 (fun k h => by obtain ⟨_, h⟩ := h; cases h), (HP.agreeN _ fun x hx => by simp only [List.mem_cons, List.not_mem_nil, or_false] at hx; rcases hx with rfl | rfl <;> first | exact .inl rfl | exact .inr fun k _ h => .inl h | exact .inr (zR_in fun k h => .inl h)), fun k hk => dec_fp0 hk⟩
      ·have g67p := of_decide_eq_false g67
       refine H.ge HP [(60, (.bool false))] [] fun a H => ?_
       refine then_normal ?_
       refine w_iff H rfl ?_
       refine w_region ?_
       refine H.go HP 3 [(31, (pt b 1))] [] fun a H => ?_
       refine H.sh HP 1 1 (.slice none 0 0) rfl fun w_30 a H HP => ?_
       refine wpList_nil (inb_normal ?_)
       refine H.end0 (fn := Tryd.f16) Tryd.results16  ?_
       have HP : Hp w w_30 [zR 5 B B l.length c l false, bx b 62 [(.bool true), (.slice none 0 0), (.slice R rows.length cr)] false] [rowF 1 strC R rows, laidK] := HP
       have hbx := HP.at_ 1 rfl
       rw [dfeed_no (by omega) (by omega) (by omega) (show ¬ (192 < (cd.getD 0 0).toNat ∧ l.length = 2 * ((cd.getD 0 0).toNat - 192)) from by omega)]
       exact ⟨rfl, none, 0, R, cr, dec_mk hbx (rowZ_nil _ _) (HP.fact 0 rfl) (fun h => by obtain ⟨_, h⟩ := h; cases h) hs2 (fun k h => by obtain ⟨_, h⟩ := h; cases h), (HP.agreeN _ fun x hx => by simp only [List.mem_cons, List.not_mem_nil, or_false] at hx; rcases hx with rfl | rfl <;> first | exact .inl rfl | exact .inr fun k _ h => .inl h | exact .inr (zR_in fun k h => .inl h)), fun k hk => dec_fp0 hk⟩
     ·have g63p := ne_of_beq_false g63
      refine H.ge HP [(60, (.bool false))] [] fun a H => ?_
      refine then_normal ?_
      refine w_iff H rfl ?_
      refine w_region ?_
      refine H.go HP 3 [(31, (pt b 1))] [] fun a H => ?_
      refine H.sh HP 1 1 (.slice none 0 0) rfl fun w_31 a H HP => ?_
      refine wpList_nil (inb_normal ?_)
      refine H.end0 (fn := Tryd.f16) Tryd.results16  ?_
      have HP : Hp w w_31 [zR 5 B B l.length c l false, bx b 62 [(.bool true), (.slice none 0 0), (.slice R rows.length cr)] false] [rowF 1 strC R rows, laidK] := HP
      have hbx := HP.at_ 1 rfl
      rw [dfeed_no (by omega) (by omega) (by omega) (show ¬ (192 < (cd.getD 0 0).toNat ∧ l.length = 2 * ((cd.getD 0 0).toNat - 192)) from by omega)]
      exact ⟨rfl, none, 0, R, cr, dec_mk hbx (rowZ_nil _ _) (HP.fact 0 rfl) (fun h => by obtain ⟨_, h⟩ := h; cases h) hs2 (fun k h => by obtain ⟨_, h⟩ := h; cases h), (HP.agreeN _ fun x hx => by simp only [List.mem_cons, List.not_mem_nil, or_false] at hx; rcases hx with rfl | rfl <;> first | exact .inl rfl | exact .inr fun k _ h => .inl h | exact .inr (zR_in fun k h => .inl h)), fun k hk => dec_fp0 hk⟩
   ·have g48p := ne_of_beq_false g48
    refine H.ge HP [(45, (.bool false))] [] fun a H => ?_
    refine then_normal ?_
    refine w_iff H rfl ?_
    refine wp_seq (w_region ?_)
    refine H.go HP 3 [(63, (.bool ((((cd.getD 0 0).toNat / 64 : Nat) : Int) == 3)))] [] fun a H => ?_
    refine H.split 63 rfl (fun g63 H => ?_) (fun g63 H => ?_)
    ·have g63p := eq_of_beq g63
     refine H.go HP 4 [(67, (.bool (decide ((((cd.getD 0 0).toNat % 64 : Nat) : Int) > 0))))] [] fun a H => ?_
     refine H.split 67 rfl (fun g67 H => ?_) (fun g67 H => ?_)
     ·have g67p := of_decide_eq_true g67
      refine H.go HP 6 [(72, (ii l.length)), (73, (ii (((cd.getD 0 0).toNat % 64 : Nat) : Int)))] [1] fun a H => ?_
      refine H.valE 74 (ii (IntKind.i64.wrap (2 * (((cd.getD 0 0).toNat % 64 : Nat) : Int)))) (ii ((2 * ((cd.getD 0 0).toNat % 64) : Nat) : Int)) (by kernel_rfl) (by kernel_rfl) ((by rw [wrap_ini64 _ (by omega)]; exact congrArg (Value.int .i64) (by omega))) fun a H => ?_
      refine H.ge HP [(60, (.bool ((l.length : Int) == ((2 * ((cd.getD 0 0).toNat % 64) : Nat) : Int))))] [] fun a H => ?_
      refine then_normal ?_
      refine w_if H rfl (fun g60 => ?_) (fun g60 => ?_)
      ·have g60p := eq_of_beq g60
       refine wp_seq ?_
       have hcl : (cd.drop 1).length = 2 := by rw [List.length_drop]; omega
       have HP : Hp w w_2 [zR 5 B B l.length c l false, bx b 62 [(.bool true), (.slice B l.length c), (.slice R rows.length cr)] false] [rowF 1 strC R rows, laidK] := HP
       refine An.start (fun v => Hp w v [zR 5 B B l.length c l false, bx b 62 [(.bool true), (.slice B l.length c), (.slice R rows.length cr)] false] [rowF 1 strC R rows, laidK]) 7 11 HP wide_follows rfl fun w_32 HP => ?_
       refine An.go H (.inr (HP)) 5 [0, 1, 2, 3, 4, 5] [(77, (pt b 0)), (81, (.slice B l.length c)), (82, (.string (bstr cd)))] [1] fun a H => ?_
       refine An.pure H (.inr (HP)) 6 83 (.string (bstr (cd.drop 1))) rfl (by kernel_rfl) (by kernel_rfl) (fun _ _ _ h => h) (fun _ => ex_ssliceL (k := .i64) (l := cd) (i := 1) (a := 1) (by kernel_rfl) (by kernel_rfl) (by kernel_rfl) (by omega) (by omega)) fun a H => ?_
       refine An.one 7 (by kernel_rfl) ?_
       have hsz0 := HP.size
       refine Op.appZ H HP 84 0 5 B l.length c l (cd.drop 1) false rfl (by kernel_rfl) (by kernel_rfl) (by kernel_rfl) (by kernel_rfl) (by kernel_rfl) rfl (by kernel_rfl) (by omega) (by rw [List.length_drop]; omega) fun B1 c1 w_33 a hB1 H HP => ?_
       have HP : Hp w w_33 [zR 5 B B1 (l.length + (cd.drop 1).length) c1 (l ++ cd.drop 1) false, bx b 62 [(.bool true), (.slice B l.length c), (.slice R rows.length cr)] false] [rowF 1 strC R rows, laidK] := HP
       refine ⟨.inl (by kernel_rfl), ?_⟩
       refine An.go H (.inl (by kernel_rfl)) 1 [8, 9] [(86, (pt b 1))] [] fun a H => ?_
       refine An.one 10 (by kernel_rfl) ?_
       refine Op.sh H HP 1 1 (.slice B1 (l.length + (cd.drop 1).length) c1) rfl rfl fun w_34 a H HP => ?_
       refine ⟨.inl (by kernel_rfl), ?_⟩
       refine An.done (by kernel_rfl) ?_
       refine then_normal (w_region ?_)
       refine H.go HP 1 [(87, (pt b 0))] [] fun a H => ?_
       have HP : Hp w w_34 [zR 5 B B1 (l.length + (cd.drop 1).length) c1 (l ++ cd.drop 1) false, bx b 62 [(.bool true), (.slice B1 (l.length + (cd.drop 1).length) c1), (.slice R rows.length cr)] false] [rowF 1 strC R rows, laidK] := HP
       have hbx := HP.at_ 1 rfl
       have hzz := HP.held 0 rfl
       have hlen : l.length + (cd.drop 1).length = (l ++ cd.drop 1).length := (List.length_append ..).symm
       have hdr : (decR b B1 c1 R cr ⟨l ++ cd.drop 1, rows⟩).F w_34 := dec_mk (by rw [← hlen]; exact hbx) (by rw [← hlen]; exact hzz) (HP.fact 0 rfl) (fun h => HP.z_off 0 rfl 1 rfl h) hs2 (fun k h1 h2 => HP.z_row 0 rfl 0 rfl h1 h2)
       have hl2 : 2 ≤ (l ++ cd.drop 1).length ∧ (l ++ cd.drop 1).length ≤ 1000 := by omega
       refine H.call 88 (by kernel_rfl) (Eq.trans (by kernel_rfl : _ = (callFunc 35 #[(pt b 0)]).run Tryd.prog w_34) (Tryd.call35 _ _)) (complete_any b B1 c1 R cr (l ++ cd.drop 1) rows _ w_34 hdr (HP.fact 1 rfl) rfl hl2.1 hl2.2 hb01) ?_
       rintro e w_35 ⟨rfl, hpost⟩
       refine ⟨_, rfl, ?_⟩
       intro a H
       refine wpList_nil (inb_normal ?_)
       refine H.end0 (fn := Tryd.f16) Tryd.results16  ?_
       rw [dfeed_cont (by omega) (by omega) (show l.length = _ from by omega)]
       have hB1a : ∀ k, rowZF B1 k → rowZF B k ∨ w.heap.size ≤ k := fun k h1 => (hB1 k h1).imp id fun h => Nat.le_trans hsz0 h
       exact dec_trans (HP.agreeN _ fun x hx => by simp only [List.mem_cons, List.not_mem_nil, or_false] at hx; rcases hx with rfl | rfl <;> first | exact .inl rfl | exact .inr fun k _ h => .inl h | exact .inr (zR_in hB1a)) HP.size (fun k h1 => hB1a k h1) hpost
      ·have g60p := ne_of_beq_false g60
       refine w_region ?_
       refine H.go HP 3 [(31, (pt b 1))] [] fun a H => ?_
       refine H.sh HP 1 1 (.slice none 0 0) rfl fun w_36 a H HP => ?_
       refine wpList_nil (inb_normal ?_)
       refine H.end0 (fn := Tryd.f16) Tryd.results16  ?_
       have HP : Hp w w_36 [zR 5 B B l.length c l false, bx b 62 [(.bool true), (.slice none 0 0), (.slice R rows.length cr)] false] [rowF 1 strC R rows, laidK] := HP
       have hbx := HP.at_ 1 rfl
       rw [dfeed_no (by omega) (by omega) (by omega) (show ¬ (192 < (cd.getD 0 0).toNat ∧ l.length = 2 * ((cd.getD 0 0).toNat - 192)) from by omega)]
       exact ⟨rfl, none, 0, R, cr, dec_mk hbx (rowZ_nil _ _) (HP.fact 0 rfl) (fun h => by obtain ⟨_, h⟩ := h; cases h) hs2 (fun k h => by obtain ⟨_, h⟩ := h; cases h), (HP.agreeN _ fun x hx => by simp only [List.mem_cons, List.not_mem_nil, or_false] at hx; rcases hx with rfl | rfl <;> first | exact .inl rfl | exact .inr fun k _ h => .inl h | exact .inr (zR_in fun k h => .inl h)), fun k hk => dec_fp0 hk⟩
     ·have g67p := of_decide_eq_false g67
      refine H.ge HP [(60, (.bool false))] [] fun a H => ?_
      refine then_normal ?_
      refine w_iff H rfl ?_
      refine w_region ?_
      refine H.go HP 3 [(31, (pt b 1))] [] fun a H => ?_
      refine H.sh HP 1 1 (.slice none 0 0) rfl fun w_37 a H HP => ?_
      refine wpList_nil (inb_normal ?_)
      refine H.end0 (fn := Tryd.f16) Tryd.results16  ?_
      have HP : Hp w w_37 [zR 5 B B l.length c l false, bx b 62 [(.bool true), (.slice none 0 0), (.slice R rows.length cr)] false] [rowF 1 strC R rows, laidK] := HP
      have hbx := HP.at_ 1 rfl
      rw [dfeed_no (by omega) (by omega) (by omega) (show ¬ (192 < (cd.getD 0 0).toNat ∧ l.length = 2 * ((cd.getD 0 0).toNat - 192)) from by omega)]
      exact ⟨rfl, none, 0, R, cr, dec_mk hbx (rowZ_nil _ _) (HP.fact 0 rfl) (fun h => by obtain ⟨_, h⟩ := h; cases h) hs2 (fun k h => by obtain ⟨_, h⟩ := h; cases h), (HP.agreeN _ fun x hx => by simp only [List.mem_cons, List.not_mem_nil, or_false] at hx; rcases hx with rfl | rfl <;> first | exact .inl rfl | exact .inr fun k _ h => .inl h | exact .inr (zR_in fun k h => .inl h)), fun k hk => dec_fp0 hk⟩
    ·have g63p := ne_of_beq_false g63
     refine H.ge HP [(60, (.bool false))] [] fun a H => ?_
     refine then_normal ?_
     refine w_iff H rfl ?_
     refine w_region ?_
     refine H.go HP 3 [(31, (pt b 1))] [] fun a H => ?_
     refine H.sh HP 1 1 (.slice none 0 0) rfl fun w_38 a H HP => ?_
     refine wpList_nil (inb_normal ?_)
     refine H.end0 (fn := Tryd.f16) Tryd.results16  ?_
     have HP : Hp w w_38 [zR 5 B B l.length c l false, bx b 62 [(.bool true), (.slice none 0 0), (.slice R rows.length cr)] false] [rowF 1 strC R rows, laidK] := HP
     have hbx := HP.at_ 1 rfl
     rw [dfeed_no (by omega) (by omega) (by omega) (show ¬ (192 < (cd.getD 0 0).toNat ∧ l.length = 2 * ((cd.getD 0 0).toNat - 192)) from by omega)]
     exact ⟨rfl, none, 0, R, cr, dec_mk hbx (rowZ_nil _ _) (HP.fact 0 rfl) (fun h => by obtain ⟨_, h⟩ := h; cases h) hs2 (fun k h => by obtain ⟨_, h⟩ := h; cases h), (HP.agreeN _ fun x hx => by simp only [List.mem_cons, List.not_mem_nil, or_false] at hx; rcases hx with rfl | rfl <;> first | exact .inl rfl | exact .inr fun k _ h => .inl h | exact .inr (zR_in fun k h => .inl h)), fun k hk => dec_fp0 hk⟩
theorem ex_makeS {P : Program} {ρ : Operand → Value} {w : World} {t e : TypeId} {x y : Operand} {dst : Option Tmp} {ty : TypeId} {pos : String} {af : Array Edge} {g : Option (Nat × Bool)} {n : Nat} {k : IntKind} (hx : ρ x = .int k (n : Int)) (hy : ρ y = .int k (n : Int)) (hu : P.underlying t = some (.slice e)) (hinf : infoB P e = some (some (.string (bstr [])), 1, 16)) (hn : n ≤ 1000000) :
  (execOp ρ ⟨dst, .makeSlice t x y, ty, pos, af, g⟩).run P w = .ok (.value (.slice (some ⟨w.heap.size, 0, none⟩) n n)) (w.alloc (.cells (List.replicate n (.string (bstr []))).toArray e)) := by
 obtain ⟨i, h1, h2, h3, h4⟩ := infoB_spec hinf
 have := run_makeSlice (P := P) w t e i (.string (bstr [])) hu h1 h2 k k (n : Int) (n : Int) (by omega) (by omega) (by rw [h3]; omega) (by rw [h4]; omega) (by omega)
 simp only [execOp, hx, hy, Sem.run_bind, this, Result.andThen_ok, Sem.run_pure]
 have hm : madeCells (Value.string (bstr [])).cells ((n : Int).toNat * i.size) = (List.replicate n (Value.string (bstr []))).toArray := by
  rw [h3]
  apply Array.ext
  ·simp [madeCells]
  ·intro j h1 h2
   simp [madeCells, Value.cells, Nat.mod_one]
 rw [hm]
 simp
theorem Hp.rowsOf {w0 w : World} {L : List HB} {K : List FK} (H : Hp w0 w L K) (i : Nat) {b n : Nat} {e : TypeId} {α : Type} {cs : α → Array Value} {l : List α} {vs : List Value} (hi : L[i]? = some (bx b e vs true)) (hv : vs = flat cs l) (hn : l.length = n) (hm : n ≤ maxLen) (L' : List HB) (hL : L.set i (rowsR w0.heap.size e 1 cs okT feF (.slice (some ⟨b, 0, none⟩) n n) l) = L') (h1 : (flat cs l).length = n := by simp_all [flat_str]) : Hp w0 w L' K := by
 have hb := H.at_ i hi
 have hf := H.fresh _ (List.mem_of_getElem? hi) rfl b rfl
 subst hv
 have hown : w.ownsRow w0.heap.size e 1 (.slice (some ⟨b, 0, none⟩) n n) n (flat cs l) := ⟨by omega, .inr ⟨b, n, (flat cs l).toArray, rfl, hf, hb, Nat.le_refl _, hm, by rw [List.size_toArray]; omega, by show (flat cs l).take (n * 1) = flat cs l; exact List.take_of_length_le (by omega)⟩⟩
 have hF : (rowsR w0.heap.size e 1 cs okT feF (.slice (some ⟨b, 0, none⟩) n n) l).F w := ⟨by rw [hn]; exact hown, fun a _ => ⟨trivial, fun k hk => by cases hk⟩⟩
 refine H.mut i hi _ L' hL ⟨rfl, rfl, rfl, Nat.le_refl _, fun _ _ _ => rfl⟩ hF (rowsR_ok elOk_flat) (fun k hk => (rows_lt hF hk).1) (fun k hk => ?_) (fun k hk hx => by have : k = b := hx; omega) rfl
 rcases hk with hk | ⟨_, _, hk⟩
 ·cases hk; exact .inl rfl
 ·cases hk
theorem rep_flat (rows : List Str) : List.replicate rows.length (Value.string (bstr [])) = flat strC (rows.take 0 ++ List.replicate (rows.length - 0) []) := by rw [flat_str]; simp
theorem rep_len (rows : List Str) {i : Nat} (h : i ≤ rows.length) : (rows.take i ++ List.replicate (rows.length - i) ([] : Str)).length = rows.length := by simp; omega
theorem rep_set {rows : List Str} {i : Nat} {x : Str} (h : rows[i]? = some x) : (rows.take i ++ List.replicate (rows.length - i) []).set i x = rows.take (i + 1) ++ List.replicate (rows.length - (i + 1)) [] := by
 have hi : i < rows.length := (List.getElem?_eq_some_iff.1 h).1
 rw [List.set_append_right _ _ (by simp; omega), List.length_take, Nat.min_eq_left (by omega), Nat.sub_self, show rows.length - i = (rows.length - (i + 1)) + 1 from by omega, List.replicate_succ, List.set_cons_zero, List.take_add_one, h, List.append_assoc]
 rfl
theorem rep_end (rows : List Str) : rows.take rows.length ++ List.replicate (rows.length - rows.length) ([] : Str) = rows := by simp
set_option maxRecDepth 100000 in
set_option maxHeartbeats 4000000 in
theorem feedN_any (cd : Str) (w : World) : Calls Tryd.prog 16 #[(.pointer none), (.string (bstr cd))] w fun e w' => e = .returned (.tuple #[]) ∧ Below w.heap.size w w' := by
 have HP := Hp.start w
 refine w_enter 89 [(0, (.pointer none)), (1, (.string (bstr cd)))] Tryd.func16 rfl Tryd.ntmps16 (by kernel_rfl) (by kernel_rfl) fun a H => ?_
 refine wp_seq (wp_seq (w_region ?_))
 refine H.ge HP [(6, (.pointer none)), (14, (.bool true))] [] fun a H => ?_
 refine then_normal ?_
 refine w_ift H rfl ?_
 refine wp_ret (then_ret ?_)
 refine H.ret0 (fn := Tryd.f16) Tryd.results16  ?_
 exact ⟨rfl, HP.bl⟩
set_option maxRecDepth 100000 in
set_option maxHeartbeats 4000000 in
theorem rowsN_any (w : World) : Calls Tryd.prog 19 #[(.pointer none)] w fun e w' => e = .returned (.slice none 0 0) ∧ Below w.heap.size w w' := by
 have HP := Hp.start w
 refine w_enter 40 [(0, (.pointer none))] Tryd.func19 rfl Tryd.ntmps19 (by kernel_rfl) (by kernel_rfl) fun a H => ?_
 refine wp_seq (w_region ?_)
 refine H.ge HP [(2, (.slice none 0 0))] [] fun a H => ?_
 refine then_normal (wp_seq (wp_seq (w_region ?_)))
 refine H.ge HP [(5, (.pointer none)), (13, (.bool true))] [] fun a H => ?_
 refine then_normal ?_
 refine w_ift H rfl ?_
 refine wp_seq (w_region ?_)
 refine H.ge HP [(2, (.slice none 0 0))] [] fun a H => ?_
 refine then_normal (wp_ret (then_ret ?_))
 refine H.ret1 (fn := Tryd.f19) Tryd.results19 (RV.tmp_ (v := (.slice none 0 0)) (by kernel_rfl)) ?_
 exact ⟨rfl, HP.bl⟩
set_option maxRecDepth 100000 in
set_option maxHeartbeats 4000000 in
theorem sizeN_any (w : World) : Calls Tryd.prog 21 #[(.pointer none)] w fun e w' => e = .returned (ii 0) ∧ Below w.heap.size w w' := by
 have HP := Hp.start w
 refine w_enter 17 [(0, (.pointer none))] Tryd.func21 rfl Tryd.ntmps21 (by kernel_rfl) (by kernel_rfl) fun a H => ?_
 refine wp_seq (w_region ?_)
 refine H.ge HP [(2, (ii 0))] [] fun a H => ?_
 refine then_normal (wp_seq (wp_seq (w_region ?_)))
 refine H.ge HP [(3, (.pointer none)), (4, (.bool true)), (5, (.bool true)), (11, (.bool true))] [] fun a H => ?_
 refine then_normal ?_
 refine w_ift H rfl ?_
 refine wp_seq (w_region ?_)
 refine H.ge HP [(2, (ii 0))] [] fun a H => ?_
 refine then_normal (wp_ret (then_ret ?_))
 refine H.ret1 (fn := Tryd.f21) Tryd.results21 (RV.tmp_ (v := (ii 0)) (by kernel_rfl)) ?_
 exact ⟨rfl, HP.bl⟩
set_option maxRecDepth 100000 in
set_option maxHeartbeats 4000000 in
theorem size_any (b : Nat) (B : Option Addr) (c : Nat) (R : Option Addr) (cr : Nat) (l : Str) (rows : List Str) (w : World) (hd : (decR b B c R cr ⟨l, rows⟩).F w) : Calls Tryd.prog 21 #[.pointer (some ⟨b, 0, none⟩)] w fun e w' => e = .returned (ii l.length) ∧ Below w.heap.size w w' := by
 obtain ⟨hbx, hz, hr, hs1, hs2, hs3⟩ := hd
 have hbx : Box w b 62 #[.bool true, .slice B l.length c, .slice R rows.length cr] := hbx
 have HP := (Hp.own hbx).keepF (rowF 1 strC R rows) hr (rowF_ok _ _ _ _) fun k hk => ⟨hr.lt k hk, fun x hx => by rcases List.mem_singleton.1 hx with rfl; exact fun e => hs2 (by have e : k = b := e; exact e ▸ hk)⟩
 refine w_enter 17 [(0, (pt b 0))] Tryd.func21 rfl Tryd.ntmps21 (by kernel_rfl) (by kernel_rfl) fun a H => ?_
 refine wp_seq (w_region ?_)
 refine H.ge HP [(2, (ii 0))] [] fun a H => ?_
 refine then_normal (wp_seq (wp_seq (w_region ?_)))
 refine H.ge HP [(3, (pt b 0)), (4, (.bool false)), (5, (.bool false)), (11, (.bool false))] [0] fun a H => ?_
 refine then_normal ?_
 refine w_iff H rfl ?_
 refine wp_skip (then_normal (wp_seq (w_region ?_)))
 refine H.ge HP [(2, (ii l.length))] [0] fun a H => ?_
 refine then_normal (wp_ret ?_)
 refine H.ret1 (fn := Tryd.f21) Tryd.results21 (RV.tmp_ (v := (ii l.length)) (by kernel_rfl)) ?_
 exact ⟨rfl, Below.refl _ _⟩
set_option maxRecDepth 100000 in
set_option maxHeartbeats 4000000 in
theorem drows_any (b : Nat) (B : Option Addr) (c : Nat) (R : Option Addr) (cr : Nat) (l : Str) (rows : List Str) (w : World) (hd : (decR b B c R cr ⟨l, rows⟩).F w) (hrl : rows.length ≤ 1000000) : Calls Tryd.prog 19 #[.pointer (some ⟨b, 0, none⟩)] w fun e w' => ∃ A c', e = .returned (.slice A rows.length c') ∧ Below w.heap.size w w' ∧ (rowsR w.heap.size 9 1 strC okT feF (.slice A rows.length c') rows).F w' := by
 obtain ⟨hbx, hz, hr, hs1, hs2, hs3⟩ := hd
 have hbx : Box w b 62 #[.bool true, .slice B l.length c, .slice R rows.length cr] := hbx
 have HP := (Hp.own hbx).keepF (rowF 1 strC R rows) hr (rowF_ok _ _ _ _) fun k hk => ⟨hr.lt k hk, fun x hx => by rcases List.mem_singleton.1 hx with rfl; exact fun e => hs2 (by have e : k = b := e; exact e ▸ hk)⟩
 refine w_enter 40 [(0, (pt b 0))] Tryd.func19 rfl Tryd.ntmps19 (by kernel_rfl) (by kernel_rfl) fun a H => ?_
 refine wp_seq (w_region ?_)
 refine H.ge HP [(2, (.slice none 0 0))] [] fun a H => ?_
 refine then_normal (wp_seq (wp_seq (w_region ?_)))
 refine H.ge HP [(5, (pt b 0)), (13, (.bool false))] [0] fun a H => ?_
 refine then_normal ?_
 refine w_iff H rfl ?_
 refine wp_skip (then_normal (wp_seq (w_region ?_)))
 refine H.go HP 5 [(18, (ii rows.length))] [0] fun a H => ?_
 refine H.alloc HP 19 (fun b => (.slice (some ⟨b, 0, none⟩) rows.length rows.length)) 9 (List.replicate rows.length (.string (bstr []))) (by kernel_rfl) (fun w => ex_makeS (n := rows.length) (e := 9) (k := .i64) (by kernel_rfl) (by kernel_rfl) (by kernel_rfl) (by kernel_rfl) hrl) fun g_ w_1 a H HP => ?_
 have HP : Hp w w_1 [(rowsR w.heap.size 9 1 strC okT feF (.slice (some ⟨g_, 0, none⟩) rows.length rows.length) (rows.take 0 ++ List.replicate (rows.length - 0) [])), bx b 62 [(.bool true), (.slice B l.length c), (.slice R rows.length cr)] false] [rowF 1 strC R rows] := HP.rowsOf 0 rfl (rep_flat rows) (rep_len rows (Nat.zero_le _)) (by unfold maxLen; omega) _ rfl
 refine H.ge HP [(3, (.slice (some ⟨g_, 0, none⟩) rows.length rows.length))] [] fun a H => ?_
 refine then_normal (wp_seq (wp_seq (w_region ?_)))
 refine H.ge HP [(24, (ii rows.length)), (25, (ii 0))] [1] fun a H => ?_
 refine then_normal (wp_block ?_)
 refine w_loop (fun mm a wv => ∃ (i : Nat), rows.length - i = mm ∧ Sl 40 [(25, (ii i)), (24, (ii rows.length)), (3, (.slice (some ⟨g_, 0, none⟩) rows.length rows.length)), (19, (.slice (some ⟨g_, 0, none⟩) rows.length rows.length)), (18, (ii rows.length)), (5, (pt b 0)), (13, (.bool false)), (2, (.slice none 0 0)), (0, (pt b 0))] a ∧ Hp w wv [(rowsR w.heap.size 9 1 strC okT feF (.slice (some ⟨g_, 0, none⟩) rows.length rows.length) (rows.take i ++ List.replicate (rows.length - i) [])), bx b 62 [(.bool true), (.slice B l.length c), (.slice R rows.length cr)] false] [rowF 1 strC R rows] ∧ (i ≤ rows.length)) (rows.length - 0) ?_ ?_
 ·exact ⟨0, (by omega), H.keep (by kernel_rfl), HP, (Nat.zero_le _)⟩
 rintro mm a w_2 ⟨i, hmeas, H, HP, hib⟩
 refine wp_seq (w_region ?_)
 refine H.ge HP [(26, (.bool (decide ((i : Int) < (rows.length : Int)))))] [] fun a H => ?_
 refine then_normal (wp_seq ?_)
 refine w_if H rfl (fun g26 => ?_) (fun g26 => ?_)
 ·have g26p := of_decide_eq_true g26
  refine wp_skip (then_normal (wp_seq (wp_block (wp_seq (w_region ?_)))))
  refine H.ge HP [(4, (ii i))] [] fun a H => ?_
  refine then_normal (w_region ?_)
  refine H.go HP 7 [(28, (.slice (some ⟨g_, 0, none⟩) rows.length rows.length)), (29, (ii i)), (33, (.slice R rows.length cr)), (34, (ii i))] [1] fun a H => ?_
  obtain ⟨bu, ou, x, hA, _, hd0, hx, hm, _⟩ := IsRow.get strC_size (HP.fact 0 rfl : IsRow 1 strC _ R rows) (i := i) (by omega)
  refine H.u 35 (.pointer (some ⟨bu, ou + i * 1, none⟩)) (ex_indexA (b := bu) (off := ou) (len := rows.length) (cap := cr) (e := 9) (k := 1) (ik := .i64) (i := (i : Int)) (m := i) hA (by kernel_rfl) (by kernel_rfl) rfl (by omega) (by kernel_rfl) (by kernel_rfl)) fun a H => ?_
  refine H.u 36 (.string (bstr x)) (ex_l1 (by have hh := IsRow.cells strC_size (HP.fact 0 rfl : IsRow 1 strC _ R rows) hA hx 0 _ rfl; rwa [Nat.add_zero] at hh)) fun a H => ?_
  refine H.u 37 (.pointer (some ⟨g_, 0 + i * 1, none⟩)) (ex_index (b := g_) (off := 0) (len := rows.length) (cap := rows.length) (e := 9) (k := 1) (ik := .i64) (i := (i : Int)) (m := i) (by kernel_rfl) (by kernel_rfl) rfl (by omega) (by kernel_rfl) (by kernel_rfl)) fun a H => ?_
  refine H.storeRow HP 0 (g := g_) (cap := rows.length) (i := 0 + i * 1) (n := rows.length) (l' := rows.take (i + 1) ++ List.replicate (rows.length - (i + 1)) []) (.string (bstr x)) (by kernel_rfl) (by kernel_rfl) (by kernel_rfl) rfl (by kernel_rfl) rfl (rep_len rows (by omega)) (by omega) (rep_len rows (by omega)) (by rw [← rep_set hx]; exact str_set _ _ _) (by rw [← rep_set hx]; exact less_set (List.getElem?_eq_getElem (by rw [rep_len rows (by omega)]; omega)) (fun _ h => h) (fun _ h => h)) elOk_flat [(rowsR w.heap.size 9 1 strC okT feF (.slice (some ⟨g_, 0, none⟩) rows.length rows.length) (rows.take (i + 1) ++ List.replicate (rows.length - (i + 1)) [])), bx b 62 [(.bool true), (.slice B l.length c), (.slice R rows.length cr)] false] rfl ?_
  intro w_3 a H HP
  refine wpList_nil (inb_normal (then_normal (w_region ?_)))
  refine H.wi 38 ((i : Int) + 1) fun a H => ?_
  refine H.ge HP [(25, (ii ((i : Int) + 1)))] [] fun a H => ?_
  refine then_normal ?_
  have H := H.as 25 (ii ((i + 1 : Nat) : Int)) rfl rfl
  refine ⟨_, ?_, i + 1, rfl, H.keep (by kernel_rfl), HP, (by omega)⟩
  omega
 ·have g26p := of_decide_eq_false g26
  refine wp_exit (then_exit (then_exit ?_))
  refine w_exit_here ?_
  refine then_normal (wp_seq (w_region ?_))
  refine H.ge HP [(2, (.slice (some ⟨g_, 0, none⟩) rows.length rows.length))] [] fun a H => ?_
  refine then_normal (wp_ret ?_)
  refine H.ret1 (fn := Tryd.f19) Tryd.results19 (RV.tmp_ (v := (.slice (some ⟨g_, 0, none⟩) rows.length rows.length)) (by kernel_rfl)) ?_
  have hi2 : i = rows.length := by omega
  subst hi2
  have hF := HP.held 0 rfl
  rw [rep_end] at hF
  exact ⟨_, _, rfl, HP.same (by simp only [List.mem_cons, List.not_mem_nil, or_false]; rintro y (rfl | rfl) <;> first | exact .inl rfl | exact .inr (bx_same hbx (HP.at_ 1 rfl))), hF⟩
theorem rdrop_get {t : Str} {i : Nat} (h : i < t.length) : t.drop i = t.getD i 0 :: t.drop (i + 1) := by
 rw [List.drop_eq_getElem_cons h]
 simp [List.getD, List.getElem?_eq_getElem h]
theorem take_one {t : Str} {i : Nat} (h : i < t.length) : (t.drop i).take (i + 1 - i) = [t.getD i 0] := by
 rw [rdrop_get h, show i + 1 - i = 1 from by omega]
 rfl
theorem ru8_eq {b : UInt8} {n : Nat} (hn : n < 256) : b.toNat = n ↔ b = UInt8.ofNat n := by
 constructor
 ·intro h; rw [← h]; simp
 ·rintro rfl; exact ofNat_toNat hn
theorem len_snoc {α : Type} (l : List α) (x : α) : l.length + 1 = (l ++ [x]).length := by simp
theorem Op.storeRow {α : Type} {base : Nat} {e : TypeId} {size : Nat} {cs : α → Array Value} {ok : α → World → Prop} {fe : α → Nat → Prop} {P : Program} {ops : Array Oper} {Q : Exit → Act → World → Prop} {KK : Act → World → Prop} {a : Act} {w0 w : World} {LH : List HB} {K : List FK} {nn j : Nat} {L : List (Nat × Value)} {t : TypeId} {x y : Operand} {ty : TypeId} {pos : String} {af : Array Edge} {gg : Option (Nat × Bool)} (H : Sl nn L a) (HP : Hp w0 w LH K) (ir : Nat) {g cap i n : Nat} {l l' : List α} (u : Value)
    (ho : ops[j]? = some ⟨none, .store t x y, ty, pos, af, gg⟩) (hc : chk0 ops L ⟨none, .store t x y, ty, pos, af, gg⟩ = true) (hx : ev L x = .pointer (some ⟨g, i, none⟩)) (hy : ev L y = u) (h1 : one u = true) (hs : sizeB P t = some 1)
    (hi : LH[ir]? = some (rowsR base e size cs ok fe (.slice (some ⟨g, 0, none⟩) n cap) l)) (hn : l.length = n) (hlt : i < n * size) (hlen : l'.length = n) (hflat : flat cs l' = (flat cs l).set i u) (hless : lessOk ok fe l l') (hel : ElOk ok fe)
    (LH' : List HB) (hL : LH.set ir (rowsR base e size cs ok fe (.slice (some ⟨g, 0, none⟩) n cap) l') = LH')
    (kk : ∀ w' a', Sl nn L a' → Hp w0 w' LH' K → KK a' w') : wpOp P ops Q j KK a w := by
  obtain ⟨hd, hk, hs', hw⟩ := chk0_spec hc
  refine wpOp_wanted ho (H.wanted hw) ?_
  have hr := run_row (P := P) HP ir hi hn hlt u h1
  obtain ⟨c1, c2⟩ := one_cells h1
  unfold Oper.wp
  rw [H.exec hk hs']
  have hst : (storeCells ⟨g, i, none⟩ [u]).run P w = .ok () (w.setCell ⟨g, i, none⟩ u) := by
    simp only [storeCells, add_plain, Nat.add_zero, Sem.run_bind, hr, Result.andThen_ok, Sem.run_pure]
  simp only [execOp, hx, hy, Instr.storeAt, Instr.sureAddr, storeVar, Sem.run_bind, Sem.run_pure, Result.andThen_ok, run_sizeOf hs, c1]
  simp only [ne_eq, not_true_eq_false, if_false, c2, hst, Result.andThen_ok, Oper.upon_skip]
  exact kk _ _ H (HP.rowSet ir hi hn hlt hlen u hflat hless hel LH' hL)
theorem u8_10 {b : UInt8} (h : b.toNat = 10) : b = 10 := (ru8_eq (n := 10) (by omega)).1 h
theorem lines_byte {t : Str} {l : List Str} {acc : Str} {i : Nat} (h : i < t.length) (hb : ((t.getD i 0).toNat : Int) ≠ 10) : l ++ splitG (acc ++ (t.drop i).take (i + 1 - i)) (t.drop (i + 1)) = l ++ splitG acc (t.drop i) := by
 rw [take_one h, rdrop_get h, splitG, if_neg fun e => hb (by rw [e]; rfl)]
theorem lines_nl {t : Str} {l : List Str} {acc : Str} {i : Nat} (h : i < t.length) (hb : ((t.getD i 0).toNat : Int) = 10) : (l ++ [acc]) ++ splitG [] (t.drop (i + 1)) = l ++ splitG acc (t.drop i) := by
 rw [rdrop_get h, splitG, if_pos (u8_10 (by omega)), List.append_assoc]
 rfl
set_option maxRecDepth 100000 in
set_option maxHeartbeats 4000000 in
theorem rlines_any (t : Str) (w : World) (hl : t.length ≤ 1000000) : Calls Tryd.prog 37 #[.string (bstr t)] w fun e w' => ∃ A c, e = .returned (.slice A (splitG [] t).length c) ∧ Below w.heap.size w w' ∧ (rowsR w.heap.size 9 1 strC okT feF (.slice A (splitG [] t).length c) (splitG [] t)).F w' := by
 have HP := Hp.start w
 refine w_enter 31 [(0, (.string (bstr t)))] Tryd.func37 rfl Tryd.ntmps37 (by kernel_rfl) (by kernel_rfl) fun a H => ?_
 refine wp_seq (w_region ?_)
 refine H.ge HP [(2, (.slice none 0 0))] [] fun a H => ?_
 refine then_normal (wp_seq (w_region ?_))
 refine H.ge HP [(3, (.slice none 0 0))] [] fun a H => ?_
 refine then_normal (wp_seq (w_region ?_))
 refine H.ge HP [(4, (.string (bstr ([]))))] [] fun a H => ?_
 refine then_normal (wp_seq (wp_seq (w_region ?_)))
 refine H.ge HP [(5, (ii 0))] [] fun a H => ?_
 refine then_normal (wp_block ?_)
 have HP := HP.nilRow w.heap.size 9 1 strC okT feF elOk_flat
 refine w_loop (fun mm a wv => ∃ (i : Nat), ∃ (WA : Option Addr), ∃ (wc : Nat), ∃ (ws : List Str), ∃ (acc : Str), t.length - i = mm ∧ Sl 31 [(5, (ii i)), (3, (.slice WA ws.length wc)), (4, (.string (bstr acc))), (2, (.slice none 0 0)), (0, (.string (bstr t)))] a ∧ Hp w wv [(rowsR w.heap.size 9 1 strC okT feF (.slice WA ws.length wc) ws)] [] ∧ (i ≤ t.length) ∧ (ws ++ splitG acc (t.drop i) = splitG [] t) ∧ (acc.length ≤ i) ∧ (ws.length ≤ i)) (t.length - 0) ?_ ?_
 ·exact ⟨0, none, 0, [], [], (by omega), H.keep (by kernel_rfl), HP, (Nat.zero_le _), rfl, (by simp), (by simp)⟩
 rintro mm a w_1 ⟨i, WA, wc, ws, acc, hmeas, H, HP, hib, hrel, hal, hwl⟩
 refine wp_seq (wp_seq (w_region ?_))
 refine H.ge HP [(9, (.bool (decide ((i : Int) < (t.length : Int)))))] [] fun a H => ?_
 refine then_normal ?_
 refine w_if H rfl (fun g9 => ?_) (fun g9 => ?_)
 ·have g9p := of_decide_eq_true g9
  refine wp_skip (then_normal (wp_seq (wp_block (wp_seq (wp_seq (w_region ?_))))))
  refine H.go HP 2 [(12, (.string (bstr t))), (13, (ii i))] [] fun a H => ?_
  refine H.u 14 (.int .u8 (((t.getD i 0).toNat : Nat) : Int)) (ex_sindex (k := .i64) (l := t) (i := (i : Int)) (m := i) (by kernel_rfl) (by kernel_rfl) (by kernel_rfl) (by omega) (by omega)) fun a H => ?_
  refine H.ge HP [(15, (.bool ((((t.getD i 0).toNat : Nat) : Int) == 10)))] [] fun a H => ?_
  refine then_normal ?_
  refine w_if H rfl (fun g15 => ?_) (fun g15 => ?_)
  ·have g15p := eq_of_beq g15
   refine wp_seq (w_region ?_)
   refine H.go HP 2 [(16, (.slice WA ws.length wc)), (17, (.string (bstr acc)))] [] fun a H => ?_
   refine H.alloc HP 18 (fun b => (.slice (some ⟨b, 0, none⟩) 1 1)) 9 [(.string (bstr acc))] (by kernel_rfl) (fun w => by kernel_rfl) fun b_2 w_3 a H HP => ?_
   have HP := HP.pend0 1 rfl elOk_flat acc [bx b_2 9 [(.string (bstr acc))] true, (rowsP w.heap.size 9 1 strC okT feF (.slice WA ws.length wc) ws acc)] (by kernel_rfl) trivial (fun _ h => h)
   refine H.push HP 19 1 0 (v := (.slice WA ws.length wc)) (e := 9) (p := acc) (l := ws) (cs := strC) (ok := okT) (fe := feF) (size := 1) (z := (.string ByteArray.empty)) (bytes := 16) (bb := b_2) (tb := 9) (fb := true) (by kernel_rfl) elOk_flat (by kernel_rfl) (by kernel_rfl) rfl (by kernel_rfl) (by kernel_rfl) (by kernel_rfl) (by kernel_rfl) (by kernel_rfl) rfl (by kernel_rfl) (by unfold maxLen; omega) (by omega) fun B_4 c_5 w_6 a H HP => ?_
   have HP : Hp w w_6 [bx b_2 9 [(.string (bstr acc))] true, (rowsR w.heap.size 9 1 strC okT feF (.slice B_4 (ws.length + 1) c_5) (ws ++ [acc]))] [] := HP
   refine H.ge HP [(3, (.slice B_4 (ws.length + 1) c_5))] [] fun a H => ?_
   refine then_normal (wp_seq (w_region ?_))
   refine H.ge HP [(4, (.string (bstr ([]))))] [] fun a H => ?_
   refine then_normal (wp_exit (then_exit ?_))
   refine w_exit_here ?_
   refine then_normal (w_region ?_)
   refine H.go HP 1 [(10, (ii i))] [] fun a H => ?_
   refine H.wi 11 ((i : Int) + 1) fun a H => ?_
   refine H.ge HP [(5, (ii ((i : Int) + 1)))] [] fun a H => ?_
   refine then_normal ?_
   have H := H.as 5 (ii ((i + 1 : Nat) : Int)) rfl rfl
   have H := H.as 3 (.slice B_4 ((ws ++ [acc]).length) c_5) rfl (congrArg (fun n => Value.slice _ n _) (len_snoc _ _))
   refine ⟨_, ?_, i + 1, B_4, c_5, ws ++ [acc], [], rfl, H.keep (by kernel_rfl), (by have hh := (HP.tail rfl); rw [← show (ws ++ [acc]).length = ws.length + 1 from (len_snoc _ _).symm] at hh; exact hh), (by omega), (by rw [← hrel]; exact lines_nl (by omega) g15p), (by simp), (by simp only [List.length_append, List.length_cons, List.length_nil]; omega)⟩
   omega
  ·have g15p := ne_of_beq_false g15
   refine wp_skip (then_normal (w_region ?_))
   refine H.go HP 4 [(20, (.string (bstr acc))), (21, (.string (bstr t))), (22, (ii i)), (23, (ii i))] [] fun a H => ?_
   refine H.valE 24 (ii (IntKind.i64.wrap ((i : Int) + 1))) (ii ((i + 1 : Nat) : Int)) (by kernel_rfl) (by kernel_rfl) ((by rw [wrap_ini64 _ (by omega)]; rfl)) fun a H => ?_
   refine H.u 25 (.string (bstr ((t.drop i).take ((i + 1) - i)))) (ex_sslice (k := .i64) (kk := .i64) (l := t) (i := (i : Int)) (j := ((i + 1 : Nat) : Int)) (a := i) (b := (i + 1)) (by kernel_rfl) (by kernel_rfl) (by kernel_rfl) (by kernel_rfl) (by omega) (by omega) (by omega) (by omega)) fun a H => ?_
   refine H.u 26 (.string (bstr (acc ++ ((t.drop i).take ((i + 1) - i))))) (ex_sadd (by kernel_rfl) (by kernel_rfl) (by (simp only [List.length_append, List.length_take, List.length_drop]; omega))) fun a H => ?_
   refine H.ge HP [(4, (.string (bstr (acc ++ ((t.drop i).take ((i + 1) - i))))))] [] fun a H => ?_
   refine inb_normal (then_normal (w_region ?_))
   refine H.go HP 1 [(10, (ii i))] [] fun a H => ?_
   refine H.wi 11 ((i : Int) + 1) fun a H => ?_
   refine H.ge HP [(5, (ii ((i : Int) + 1)))] [] fun a H => ?_
   refine then_normal ?_
   have H := H.as 5 (ii ((i + 1 : Nat) : Int)) rfl rfl
   refine ⟨_, ?_, i + 1, WA, wc, ws, acc ++ ((t.drop i).take ((i + 1) - i)), rfl, H.keep (by kernel_rfl), HP, (by omega), (by rw [← hrel]; exact lines_byte (by omega) g15p), (by simp only [List.length_append, List.length_take, List.length_drop]; omega), (by omega)⟩
   omega
 ·have g9p := of_decide_eq_false g9
  refine wp_exit (then_exit (then_exit ?_))
  refine w_exit_here ?_
  refine then_normal (wp_seq (w_region ?_))
  refine H.go HP 2 [(27, (.slice WA ws.length wc)), (28, (.string (bstr acc)))] [] fun a H => ?_
  refine H.alloc HP 29 (fun b => (.slice (some ⟨b, 0, none⟩) 1 1)) 9 [(.string (bstr acc))] (by kernel_rfl) (fun w => by kernel_rfl) fun b_7 w_8 a H HP => ?_
  have HP := HP.pend0 1 rfl elOk_flat acc [bx b_7 9 [(.string (bstr acc))] true, (rowsP w.heap.size 9 1 strC okT feF (.slice WA ws.length wc) ws acc)] (by kernel_rfl) trivial (fun _ h => h)
  refine H.push HP 30 1 0 (v := (.slice WA ws.length wc)) (e := 9) (p := acc) (l := ws) (cs := strC) (ok := okT) (fe := feF) (size := 1) (z := (.string ByteArray.empty)) (bytes := 16) (bb := b_7) (tb := 9) (fb := true) (by kernel_rfl) elOk_flat (by kernel_rfl) (by kernel_rfl) rfl (by kernel_rfl) (by kernel_rfl) (by kernel_rfl) (by kernel_rfl) (by kernel_rfl) rfl (by kernel_rfl) (by unfold maxLen; omega) (by omega) fun B_9 c_10 w_11 a H HP => ?_
  have HP : Hp w w_11 [bx b_7 9 [(.string (bstr acc))] true, (rowsR w.heap.size 9 1 strC okT feF (.slice B_9 (ws.length + 1) c_10) (ws ++ [acc]))] [] := HP
  refine H.ge HP [(2, (.slice B_9 (ws.length + 1) c_10))] [] fun a H => ?_
  refine then_normal (wp_ret ?_)
  refine H.ret1 (fn := Tryd.f37) Tryd.results37 (RV.tmp_ (v := (.slice B_9 (ws.length + 1) c_10)) (by kernel_rfl)) ?_
  have hit : i = t.length := by omega
  rw [hit, List.drop_length] at hrel
  have hF := HP.held 1 rfl
  have hw : splitG [] t = ws ++ [acc] := by rw [← hrel]; rfl
  rw [hw]
  exact ⟨B_9, c_10, by simp, HP.bl, by simpa using hF⟩
end Go.Proofs.YtcifcipjndiegaaDoor
