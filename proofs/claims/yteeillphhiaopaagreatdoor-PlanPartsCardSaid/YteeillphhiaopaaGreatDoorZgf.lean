/- Part 6 of the proofs: LpA, LpB, LwH, LwP, Open3, PlOp. -/
import Derived.Deep.Slices
import Derived.Deep.Fields
import Derived.ChangeSame
import Derived.ChangeArms
import Derived.SizedLaws
import Derived.Test.YteeillphhiaopaaGreatDoorZge
namespace Go.Proofs.YteeillphhiaopaaGreatDoor
open Go.ChangeShapes Go.WideShapes Go.ChangeAt Go.RowKit
set_option linter.unusedVariables false
set_option linter.unusedSimpArgs false
theorem tl_ {α : Type} (l : List α) (k : Nat) : (l.take k).length = min l.length k := by rw [List.length_take, Nat.min_comm]
theorem IsRow.takeL {α : Type} {k : Nat} {cs : α → Array Value} {w : World} {A : Option Addr} {l : List α} (h : IsRow k cs w A l) (hk : ∀ e, (cs e).size = k) (n : Nat) : IsRow k cs w A (l.take n) := by
 by_cases hn : n ≤ l.length
 ·exact h.take hk hn
 ·rw [List.take_of_length_le (by omega)]; exact h
theorem IsRow.take9 {w : World} {A : Option Addr} {l : Alts} (h : IsAl w A l) : IsAl w A (l.take 9) := IsRow.takeL h altC_size 9
theorem take_end {α : Type} {l : List α} {i : Nat} (h : i ≤ l.length ∧ i ≤ 30 ∧ ¬ (i < l.length ∧ i < 30)) : l.take i = l.take 30 := by
 by_cases hi : i = 30
 ·rw [hi]
 ·rw [List.take_of_length_le (show l.length ≤ i by omega), List.take_of_length_le (show l.length ≤ 30 by omega)]
def sh9 (e : Ent) : EnN := ⟨e.id, e.item, e.frames, e.earliest, e.latest, e.booking, e.al.take 9⟩
def sh9N (e : EnN) : EnN := ⟨e.id, e.item, e.frames, e.earliest, e.latest, e.booking, e.al.take 9⟩
def shN (v : PlN) : PlN := ⟨v.channel, v.num, v.den, v.offset, v.sh.take 45, v.epoch, v.regions, v.length, v.fill, v.its.take 30, (v.es.take 30).map sh9N, v.bs.take 20, v.cs.take 20⟩
def ShortPost (p : Pln) (w : World) (e : Ending) (w' : World) : Prop :=
 ∃ q : Pln, e = .returned (.agg (plC q).toArray) ∧ q.nv = shN p.nv ∧ IsPln w' q ∧ ((∀ j, enFp q.EA q.es j → w.heap.size ≤ j) ∧ (q.SA, q.sc, q.IA, q.ic, q.BA, q.bc, q.CA, q.cc) = (p.SA, p.sc, p.IA, p.ic, p.BA, p.bc, p.CA, p.cc) ∧ q.es.length ≤ q.ec ∧ (q.EA = none → q.ec = 0)) ∧ Below w.heap.size w w'
theorem al_own {w : World} {base e n c : Nat} {B : Option Addr} {l : Alts} {x : Ent} (h : (rowsR base e 2 altC (fun _ _ => True) (fun _ _ => False) (.slice B n c) l).F w) {j : Nat} (hj : rowFp x.al.length B j) : (rowsR base e 2 altC (fun _ _ => True) (fun _ _ => False) (.slice B n c) l).fp j := by
 obtain ⟨_, off, rfl⟩ := hj
 rcases h.1.2 with ⟨hv, _⟩ | ⟨g, cap, cur, hv, _⟩
 ·cases hv
 ·cases hv; exact .inl rfl
theorem ownR_cap {w : World} {base e c : Nat} {B : Option Addr} {l : List Ent} (h : (rowsR base e 7 enC (fun (x : Ent) w => x.ok w) Ent.fp (.slice B l.length c) l).F w) : l.length ≤ c ∧ (B = none → c = 0) := by
 have := own_facts h.1
 exact ⟨this.1, this.2.2⟩
set_option maxRecDepth 100000 in
set_option maxHeartbeats 4000000 in
theorem short_any (p : Pln) (w : World) (hpl : IsPln w p) (hcap : p.sh.length ≤ p.sc ∧ p.its.length ≤ p.ic ∧ p.bs.length ≤ p.bc ∧ p.cs.length ≤ p.cc) (hent : ∀ e ∈ p.es, e.al.length ≤ e.c ∧ (e.A = none → e.c = 0)) :
  Calls Tryz.prog 13 #[(plV p)] w (ShortPost p w) := by
 have hl1 := hpl.lsh
 have hl2 := hpl.lits
 have hl3 := hpl.les
 have hl4 := hpl.lbs
 have hl5 := hpl.lcs
 unfold maxLen at hl1 hl2 hl3 hl4 hl5
 have HP := Hp.start w
 refine w_enter 74 [(0, (plV p))] Tryz.func13 rfl Tryz.ntmps13 (by kernel_rfl) (by kernel_rfl) fun a H => ?_
 refine wp_seq (w_region ?_)
 refine H.alloc HP 1 (fun b => (pt b 0)) 32 (plL p) (by kernel_rfl) (fun w => by kernel_rfl) fun b_1 w_2 a H HP => ?_
 refine H.alloc HP 2 (fun b => (pt b 0)) 32 [(ii 0), (ii 0), (ii 0), (ii 0), (.slice none 0 0), (ii 0), (ii 0), (ii 0), (ii 0), (.slice none 0 0), (.slice none 0 0), (.slice none 0 0), (.slice none 0 0)] (by kernel_rfl) (fun w => by kernel_rfl) fun b_3 w_4 a H HP => ?_
 refine wpList_nil (then_normal (wp_seq (w_region ?_)))
 refine H.v 6 (pt b_1 3) fun a H => ?_
 refine H.v 7 (pt b_1 4) fun a H => ?_
 refine H.u 8 (.slice p.SA p.sh.length p.sc) (ex_l1 (HP.cell 1 rfl 4 rfl)) fun a H => ?_
 refine H.v 9 (pt b_1 3) fun a H => ?_
 refine H.v 10 (pt b_1 4) fun a H => ?_
 refine H.u 11 (.slice p.SA p.sh.length p.sc) (ex_l1 (HP.cell 1 rfl 4 rfl)) fun a H => ?_
 refine H.v 12 (ii p.sh.length) fun a H => ?_
 refine H.valE 13 (ii (if (45 : Int) < (p.sh.length : Int) then 45 else (p.sh.length : Int))) (ii ((min p.sh.length 45 : Nat) : Int)) (by kernel_rfl) (by kernel_rfl) ((congrArg (Value.int .i64) (by split <;> omega))) fun a H => ?_
 refine H.u 14 (.slice p.SA ((p.sh.take 45).length) p.sc) (ex_sliceH (A := p.SA) (len := p.sh.length) (cap := p.sc) (k := .i64) (n := ((min p.sh.length 45 : Nat) : Int)) (m := (p.sh.take 45).length) (sz := 2) (by kernel_rfl) (by kernel_rfl) (by kernel_rfl) (by kernel_rfl) (by rw [tl_ p.sh 45]) (by rw [tl_ p.sh 45]; omega)) fun a H => ?_
 refine H.v 15 (pt b_1 3) fun a H => ?_
 refine H.v 16 (pt b_1 4) fun a H => ?_
 refine H.store HP 1 b_1 4 1 32 _ true (.slice p.SA ((p.sh.take 45).length) p.sc) [bx b_3 32 [(ii 0), (ii 0), (ii 0), (ii 0), (.slice none 0 0), (ii 0), (ii 0), (ii 0), (ii 0), (.slice none 0 0), (.slice none 0 0), (.slice none 0 0), (.slice none 0 0)] true, bx b_1 32 [(ii p.channel), (ii p.num), (ii p.den), (ii p.offset), (.slice p.SA ((p.sh.take 45).length) p.sc), (ii p.epoch), (ii p.regions), (ii p.length), (ii p.fill), (.slice p.IA p.its.length p.ic), (.slice p.EA p.es.length p.ec), (.slice p.BA p.bs.length p.bc), (.slice p.CA p.cs.length p.cc)] true] (by kernel_rfl) (by kernel_rfl) (by kernel_rfl) rfl (by kernel_rfl) (by kernel_rfl) (by kernel_rfl) (by kernel_rfl) (by kernel_rfl) fun w_5 a H HP => ?_
 refine wpList_nil (then_normal (wp_seq (w_region ?_)))
 refine H.v 17 (pt b_1 9) fun a H => ?_
 refine H.u 18 (.slice p.IA p.its.length p.ic) (ex_l1 (HP.cell 1 rfl 9 rfl)) fun a H => ?_
 refine H.v 19 (pt b_1 9) fun a H => ?_
 refine H.u 20 (.slice p.IA p.its.length p.ic) (ex_l1 (HP.cell 1 rfl 9 rfl)) fun a H => ?_
 refine H.v 21 (ii p.its.length) fun a H => ?_
 refine H.valE 22 (ii (if (30 : Int) < (p.its.length : Int) then 30 else (p.its.length : Int))) (ii ((min p.its.length 30 : Nat) : Int)) (by kernel_rfl) (by kernel_rfl) ((congrArg (Value.int .i64) (by split <;> omega))) fun a H => ?_
 refine H.u 23 (.slice p.IA ((p.its.take 30).length) p.ic) (ex_sliceH (A := p.IA) (len := p.its.length) (cap := p.ic) (k := .i64) (n := ((min p.its.length 30 : Nat) : Int)) (m := (p.its.take 30).length) (sz := 5) (by kernel_rfl) (by kernel_rfl) (by kernel_rfl) (by kernel_rfl) (by rw [tl_ p.its 30]) (by rw [tl_ p.its 30]; omega)) fun a H => ?_
 refine H.v 24 (pt b_1 9) fun a H => ?_
 refine H.store HP 1 b_1 9 1 32 _ true (.slice p.IA ((p.its.take 30).length) p.ic) [bx b_3 32 [(ii 0), (ii 0), (ii 0), (ii 0), (.slice none 0 0), (ii 0), (ii 0), (ii 0), (ii 0), (.slice none 0 0), (.slice none 0 0), (.slice none 0 0), (.slice none 0 0)] true, bx b_1 32 [(ii p.channel), (ii p.num), (ii p.den), (ii p.offset), (.slice p.SA ((p.sh.take 45).length) p.sc), (ii p.epoch), (ii p.regions), (ii p.length), (ii p.fill), (.slice p.IA ((p.its.take 30).length) p.ic), (.slice p.EA p.es.length p.ec), (.slice p.BA p.bs.length p.bc), (.slice p.CA p.cs.length p.cc)] true] (by kernel_rfl) (by kernel_rfl) (by kernel_rfl) rfl (by kernel_rfl) (by kernel_rfl) (by kernel_rfl) (by kernel_rfl) (by kernel_rfl) fun w_6 a H HP => ?_
 refine wpList_nil (then_normal (wp_seq (w_region ?_)))
 refine H.v 25 (pt b_1 11) fun a H => ?_
 refine H.u 26 (.slice p.BA p.bs.length p.bc) (ex_l1 (HP.cell 1 rfl 11 rfl)) fun a H => ?_
 refine H.v 27 (pt b_1 11) fun a H => ?_
 refine H.u 28 (.slice p.BA p.bs.length p.bc) (ex_l1 (HP.cell 1 rfl 11 rfl)) fun a H => ?_
 refine H.v 29 (ii p.bs.length) fun a H => ?_
 refine H.valE 30 (ii (if (20 : Int) < (p.bs.length : Int) then 20 else (p.bs.length : Int))) (ii ((min p.bs.length 20 : Nat) : Int)) (by kernel_rfl) (by kernel_rfl) ((congrArg (Value.int .i64) (by split <;> omega))) fun a H => ?_
 refine H.u 31 (.slice p.BA ((p.bs.take 20).length) p.bc) (ex_sliceH (A := p.BA) (len := p.bs.length) (cap := p.bc) (k := .i64) (n := ((min p.bs.length 20 : Nat) : Int)) (m := (p.bs.take 20).length) (sz := 7) (by kernel_rfl) (by kernel_rfl) (by kernel_rfl) (by kernel_rfl) (by rw [tl_ p.bs 20]) (by rw [tl_ p.bs 20]; omega)) fun a H => ?_
 refine H.v 32 (pt b_1 11) fun a H => ?_
 refine H.store HP 1 b_1 11 1 32 _ true (.slice p.BA ((p.bs.take 20).length) p.bc) [bx b_3 32 [(ii 0), (ii 0), (ii 0), (ii 0), (.slice none 0 0), (ii 0), (ii 0), (ii 0), (ii 0), (.slice none 0 0), (.slice none 0 0), (.slice none 0 0), (.slice none 0 0)] true, bx b_1 32 [(ii p.channel), (ii p.num), (ii p.den), (ii p.offset), (.slice p.SA ((p.sh.take 45).length) p.sc), (ii p.epoch), (ii p.regions), (ii p.length), (ii p.fill), (.slice p.IA ((p.its.take 30).length) p.ic), (.slice p.EA p.es.length p.ec), (.slice p.BA ((p.bs.take 20).length) p.bc), (.slice p.CA p.cs.length p.cc)] true] (by kernel_rfl) (by kernel_rfl) (by kernel_rfl) rfl (by kernel_rfl) (by kernel_rfl) (by kernel_rfl) (by kernel_rfl) (by kernel_rfl) fun w_7 a H HP => ?_
 refine wpList_nil (then_normal (wp_seq (w_region ?_)))
 refine H.v 33 (pt b_1 12) fun a H => ?_
 refine H.u 34 (.slice p.CA p.cs.length p.cc) (ex_l1 (HP.cell 1 rfl 12 rfl)) fun a H => ?_
 refine H.v 35 (pt b_1 12) fun a H => ?_
 refine H.u 36 (.slice p.CA p.cs.length p.cc) (ex_l1 (HP.cell 1 rfl 12 rfl)) fun a H => ?_
 refine H.v 37 (ii p.cs.length) fun a H => ?_
 refine H.valE 38 (ii (if (20 : Int) < (p.cs.length : Int) then 20 else (p.cs.length : Int))) (ii ((min p.cs.length 20 : Nat) : Int)) (by kernel_rfl) (by kernel_rfl) ((congrArg (Value.int .i64) (by split <;> omega))) fun a H => ?_
 refine H.u 39 (.slice p.CA ((p.cs.take 20).length) p.cc) (ex_sliceH (A := p.CA) (len := p.cs.length) (cap := p.cc) (k := .i64) (n := ((min p.cs.length 20 : Nat) : Int)) (m := (p.cs.take 20).length) (sz := 8) (by kernel_rfl) (by kernel_rfl) (by kernel_rfl) (by kernel_rfl) (by rw [tl_ p.cs 20]) (by rw [tl_ p.cs 20]; omega)) fun a H => ?_
 refine H.v 40 (pt b_1 12) fun a H => ?_
 refine H.store HP 1 b_1 12 1 32 _ true (.slice p.CA ((p.cs.take 20).length) p.cc) [bx b_3 32 [(ii 0), (ii 0), (ii 0), (ii 0), (.slice none 0 0), (ii 0), (ii 0), (ii 0), (ii 0), (.slice none 0 0), (.slice none 0 0), (.slice none 0 0), (.slice none 0 0)] true, bx b_1 32 [(ii p.channel), (ii p.num), (ii p.den), (ii p.offset), (.slice p.SA ((p.sh.take 45).length) p.sc), (ii p.epoch), (ii p.regions), (ii p.length), (ii p.fill), (.slice p.IA ((p.its.take 30).length) p.ic), (.slice p.EA p.es.length p.ec), (.slice p.BA ((p.bs.take 20).length) p.bc), (.slice p.CA ((p.cs.take 20).length) p.cc)] true] (by kernel_rfl) (by kernel_rfl) (by kernel_rfl) rfl (by kernel_rfl) (by kernel_rfl) (by kernel_rfl) (by kernel_rfl) (by kernel_rfl) fun w_8 a H HP => ?_
 refine wpList_nil (then_normal (wp_seq (w_region ?_)))
 refine H.v 3 (.slice none 0 0) fun a H => ?_
 refine wpList_nil ?_
 have HP := HP.nilRow w.heap.size 43 7 enC (fun (x : Ent) w => x.ok w) Ent.fp elOk_en
 refine then_normal (wp_seq (wp_seq (w_region ?_)))
 refine H.v 4 (ii 0) fun a H => ?_
 refine wpList_nil (then_normal (wp_block ?_))
 refine w_loop (fun mm a wv => ∃ (i : Nat), ∃ (l : List Ent), ∃ (B : Option Addr), ∃ (cc : Nat), 30 - i = mm ∧ Sl 74 [(4, (ii i)), (3, (.slice B i cc)), (1, (pt b_1 0)), (2, (pt b_3 0))] a ∧ Hp w wv [(rowsR w.heap.size 43 7 enC (fun (x : Ent) w => x.ok w) Ent.fp (.slice B i cc) l), bx b_3 32 [(ii 0), (ii 0), (ii 0), (ii 0), (.slice none 0 0), (ii 0), (ii 0), (ii 0), (ii 0), (.slice none 0 0), (.slice none 0 0), (.slice none 0 0), (.slice none 0 0)] true, bx b_1 32 [(ii p.channel), (ii p.num), (ii p.den), (ii p.offset), (.slice p.SA ((p.sh.take 45).length) p.sc), (ii p.epoch), (ii p.regions), (ii p.length), (ii p.fill), (.slice p.IA ((p.its.take 30).length) p.ic), (.slice p.EA p.es.length p.ec), (.slice p.BA ((p.bs.take 20).length) p.bc), (.slice p.CA ((p.cs.take 20).length) p.cc)] true] [] ∧ (i ≤ p.es.length ∧ i ≤ 30) ∧ (l.length = i) ∧ (l.map Ent.nv = (p.es.take i).map sh9)) (30 - 0) ?_ ?_
 ·exact ⟨0, [], none, 0, (by omega), H.keep (by kernel_rfl), HP, ⟨Nat.zero_le _, Nat.zero_le _⟩, rfl, rfl⟩
 rintro mm a w_9 ⟨i, l, B, cc, hmeas, H, HP, hi, hll, hrel⟩
 refine wp_seq (wp_seq (w_region ?_))
 refine H.v 41 (ii i) fun a H => ?_
 refine H.v 42 (pt b_1 10) fun a H => ?_
 refine H.u 43 (.slice p.EA p.es.length p.ec) (ex_l1 (HP.cell 2 rfl 10 rfl)) fun a H => ?_
 refine H.v 44 (ii p.es.length) fun a H => ?_
 refine H.v 45 (.bool (decide ((i : Int) < (p.es.length : Int)))) fun a H => ?_
 refine H.v 46 (.bool (decide ((i : Int) < (p.es.length : Int)))) fun a H => ?_
 refine H.split 46 rfl (fun g46 H => ?_) (fun g46 H => ?_)
 ·have g46p := of_decide_eq_true g46
  refine H.v 47 (ii i) fun a H => ?_
  refine H.v 48 (.bool (decide ((i : Int) < 30))) fun a H => ?_
  refine H.v 49 (.bool (decide ((i : Int) < 30))) fun a H => ?_
  refine wpList_nil (then_normal ?_)
  refine w_if H rfl (fun g49 => ?_) (fun g49 => ?_)
  ·have g49p := of_decide_eq_true g49
   refine wp_skip (then_normal (wp_seq (wp_block (wp_seq ?_))))
   obtain ⟨bu_11, ou_12, x_10, hA_13, _, hd_15, hx_14, hm_16, _⟩ := IsRow.get enC_size (hpl.es.row.below HP.bl) (i := i) (by omega)
   obtain ⟨hcp, hnl⟩ := hent x_10 hm_16
   refine w_region ?_
   refine H.v 52 (pt b_1 10) fun a H => ?_
   refine H.u 53 (.slice p.EA p.es.length p.ec) (ex_l1 (HP.cell 2 rfl 10 rfl)) fun a H => ?_
   refine H.v 54 (ii i) fun a H => ?_
   refine H.u 55 (.pointer (some ⟨bu_11, ou_12 + i * 7, none⟩)) (ex_indexA (b := bu_11) (off := ou_12) (len := p.es.length) (cap := p.ec) (e := 43) (k := 7) (ik := .i64) (i := (i : Int)) (m := i) hA_13 (by kernel_rfl) (by kernel_rfl) (by omega) (by omega) (by kernel_rfl) (by kernel_rfl)) fun a H => ?_
   refine H.u 56 (enV x_10) (ex_loadN (b := bu_11) (off := ou_12 + i * 7) (vs := (enL x_10)) (by kernel_rfl) (by kernel_rfl) (by kernel_rfl) rfl (IsRow.cells enC_size (hpl.es.row.below HP.bl) hA_13 hx_14)) fun a H => ?_
   refine H.alloc HP 5 (fun b => (pt b 0)) 43 [(ii 0), (ii 0), (ii 0), (ii 0), (ii 0), (ii 0), (.slice none 0 0)] (by kernel_rfl) (fun w => by kernel_rfl) fun b_17 w_18 a H HP => ?_
   refine H.store HP 0 b_17 0 7 43 _ true (enV x_10) [bx b_17 43 (enL x_10) true, (rowsR w.heap.size 43 7 enC (fun (x : Ent) w => x.ok w) Ent.fp (.slice B i cc) l), bx b_3 32 [(ii 0), (ii 0), (ii 0), (ii 0), (.slice none 0 0), (ii 0), (ii 0), (ii 0), (ii 0), (.slice none 0 0), (.slice none 0 0), (.slice none 0 0), (.slice none 0 0)] true, bx b_1 32 [(ii p.channel), (ii p.num), (ii p.den), (ii p.offset), (.slice p.SA ((p.sh.take 45).length) p.sc), (ii p.epoch), (ii p.regions), (ii p.length), (ii p.fill), (.slice p.IA ((p.its.take 30).length) p.ic), (.slice p.EA p.es.length p.ec), (.slice p.BA ((p.bs.take 20).length) p.bc), (.slice p.CA ((p.cs.take 20).length) p.cc)] true] (by kernel_rfl) (by kernel_rfl) (by kernel_rfl) rfl (by kernel_rfl) (by kernel_rfl) (by kernel_rfl) (by kernel_rfl) (by kernel_rfl) fun w_19 a H HP => ?_
   refine wpList_nil (then_normal (wp_seq (w_region ?_)))
   refine H.alloc HP 57 (fun b => (.slice (some ⟨b, 0, none⟩) 0 0)) 62 [] (by kernel_rfl) (fun w => by kernel_rfl) fun b_20 w_21 a H HP => ?_
   refine H.v 58 (pt b_17 6) fun a H => ?_
   refine H.u 59 (.slice x_10.A x_10.al.length x_10.c) (ex_l1 (HP.cell 1 rfl 6 rfl)) fun a H => ?_
   refine H.v 60 (pt b_17 6) fun a H => ?_
   refine H.u 61 (.slice x_10.A x_10.al.length x_10.c) (ex_l1 (HP.cell 1 rfl 6 rfl)) fun a H => ?_
   refine H.v 62 (ii x_10.al.length) fun a H => ?_
   refine H.valE 63 (ii (if (9 : Int) < (x_10.al.length : Int) then 9 else (x_10.al.length : Int))) (ii ((min x_10.al.length 9 : Nat) : Int)) (by kernel_rfl) (by kernel_rfl) ((congrArg (Value.int .i64) (by split <;> omega))) fun a H => ?_
   refine H.u 64 (.slice x_10.A ((x_10.al.take 9).length) x_10.c) (ex_sliceH (A := x_10.A) (len := x_10.al.length) (cap := x_10.c) (k := .i64) (n := ((min x_10.al.length 9 : Nat) : Int)) (m := (x_10.al.take 9).length) (sz := 2) (by kernel_rfl) (by kernel_rfl) (by kernel_rfl) (by kernel_rfl) (by rw [tl_ x_10.al 9]) (by rw [tl_ x_10.al 9]; omega)) fun a H => ?_
   have hrd : IsRow 2 altC w_21 x_10.A (x_10.al.take 9) := ((hpl.es.below HP.bl).ok _ hm_16).1.take9
   have hlen9 := tl_ x_10.al 9
   refine H.pushAll HP 65 0 (bb := b_20) (z := .agg #[.int .i64 0, .int .i64 0]) (e := 62) (size := 2) (bytes := 16) (m := (x_10.al.take 9).length) (c := x_10.c) (A := x_10.A) (cs := altC) (x_10.al.take 9) (by kernel_rfl) (by kernel_rfl) (by kernel_rfl) rfl (by kernel_rfl) (by kernel_rfl) (by kernel_rfl) (fun h => by have := hnl h; omega) rfl rfl hrd (alt_ones _) (by unfold maxLen; omega) (by omega) fun BA ca w_22 a H HP => ?_
   have HP : Hp w w_22 [(rowsR w.heap.size 62 2 altC (fun _ _ => True) (fun _ _ => False) (.slice BA ((x_10.al.take 9).length) ca) (x_10.al.take 9)), bx b_17 43 (enL x_10) true, (rowsR w.heap.size 43 7 enC (fun (x : Ent) w => x.ok w) Ent.fp (.slice B i cc) l), bx b_3 32 [(ii 0), (ii 0), (ii 0), (ii 0), (.slice none 0 0), (ii 0), (ii 0), (ii 0), (ii 0), (.slice none 0 0), (.slice none 0 0), (.slice none 0 0), (.slice none 0 0)] true, bx b_1 32 [(ii p.channel), (ii p.num), (ii p.den), (ii p.offset), (.slice p.SA ((p.sh.take 45).length) p.sc), (ii p.epoch), (ii p.regions), (ii p.length), (ii p.fill), (.slice p.IA ((p.its.take 30).length) p.ic), (.slice p.EA p.es.length p.ec), (.slice p.BA ((p.bs.take 20).length) p.bc), (.slice p.CA ((p.cs.take 20).length) p.cc)] true] [] := HP
   refine H.v 66 (pt b_17 6) fun a H => ?_
   refine H.store HP 1 b_17 6 1 43 _ true (.slice BA ((x_10.al.take 9).length) ca) [(rowsR w.heap.size 62 2 altC (fun _ _ => True) (fun _ _ => False) (.slice BA ((x_10.al.take 9).length) ca) (x_10.al.take 9)), bx b_17 43 [(ii x_10.id), (ii x_10.item), (ii x_10.frames), (ii x_10.earliest), (ii x_10.latest), (ii x_10.booking), (.slice BA ((x_10.al.take 9).length) ca)] true, (rowsR w.heap.size 43 7 enC (fun (x : Ent) w => x.ok w) Ent.fp (.slice B i cc) l), bx b_3 32 [(ii 0), (ii 0), (ii 0), (ii 0), (.slice none 0 0), (ii 0), (ii 0), (ii 0), (ii 0), (.slice none 0 0), (.slice none 0 0), (.slice none 0 0), (.slice none 0 0)] true, bx b_1 32 [(ii p.channel), (ii p.num), (ii p.den), (ii p.offset), (.slice p.SA ((p.sh.take 45).length) p.sc), (ii p.epoch), (ii p.regions), (ii p.length), (ii p.fill), (.slice p.IA ((p.its.take 30).length) p.ic), (.slice p.EA p.es.length p.ec), (.slice p.BA ((p.bs.take 20).length) p.bc), (.slice p.CA ((p.cs.take 20).length) p.cc)] true] (by kernel_rfl) (by kernel_rfl) (by kernel_rfl) rfl (by kernel_rfl) (by kernel_rfl) (by kernel_rfl) (by kernel_rfl) (by kernel_rfl) fun w_23 a H HP => ?_
   refine wpList_nil (then_normal (w_region ?_))
   refine H.v 67 (.slice B i cc) fun a H => ?_
   refine H.u 68 (.agg #[(ii x_10.id), (ii x_10.item), (ii x_10.frames), (ii x_10.earliest), (ii x_10.latest), (ii x_10.booking), (.slice BA ((x_10.al.take 9).length) ca)]) (ex_loadN (vs := [(ii x_10.id), (ii x_10.item), (ii x_10.frames), (ii x_10.earliest), (ii x_10.latest), (ii x_10.booking), (.slice BA ((x_10.al.take 9).length) ca)]) (by kernel_rfl) (by kernel_rfl) (by kernel_rfl) rfl (HP.cells 1 rfl 0 7 (by kernel_rfl))) fun a H => ?_
   refine H.alloc HP 69 (fun b => (.slice (some ⟨b, 0, none⟩) 1 1)) 43 [(ii x_10.id), (ii x_10.item), (ii x_10.frames), (ii x_10.earliest), (ii x_10.latest), (ii x_10.booking), (.slice BA ((x_10.al.take 9).length) ca)] (by kernel_rfl) (fun w => by kernel_rfl) fun b_24 w_25 a H HP => ?_
   have HP0 := HP
   have HP1 := HP.sub2 [0, 2, 3, 4, 5] [bx b_24 43 [(ii x_10.id), (ii x_10.item), (ii x_10.frames), (ii x_10.earliest), (ii x_10.latest), (ii x_10.booking), (.slice BA ((x_10.al.take 9).length) ca)] true, bx b_17 43 [(ii x_10.id), (ii x_10.item), (ii x_10.frames), (ii x_10.earliest), (ii x_10.latest), (ii x_10.booking), (.slice BA ((x_10.al.take 9).length) ca)] true, (rowsR w.heap.size 43 7 enC (fun (x : Ent) w => x.ok w) Ent.fp (.slice B i cc) l), bx b_3 32 [(ii 0), (ii 0), (ii 0), (ii 0), (.slice none 0 0), (ii 0), (ii 0), (ii 0), (ii 0), (.slice none 0 0), (.slice none 0 0), (.slice none 0 0), (.slice none 0 0)] true, bx b_1 32 [(ii p.channel), (ii p.num), (ii p.den), (ii p.offset), (.slice p.SA ((p.sh.take 45).length) p.sc), (ii p.epoch), (ii p.regions), (ii p.length), (ii p.fill), (.slice p.IA ((p.its.take 30).length) p.ic), (.slice p.EA p.es.length p.ec), (.slice p.BA ((p.bs.take 20).length) p.bc), (.slice p.CA ((p.cs.take 20).length) p.cc)] true] (by kernel_rfl) (by kernel_rfl) (by simp [bx, rowsR, rowsP])
   have HP := HP1.pendN 2 rfl elOk_en (⟨x_10.id, x_10.item, x_10.frames, x_10.earliest, x_10.latest, x_10.booking, BA, ca, x_10.al.take 9⟩ : Ent) [bx b_24 43 [(ii x_10.id), (ii x_10.item), (ii x_10.frames), (ii x_10.earliest), (ii x_10.latest), (ii x_10.booking), (.slice BA ((x_10.al.take 9).length) ca)] true, bx b_17 43 [(ii x_10.id), (ii x_10.item), (ii x_10.frames), (ii x_10.earliest), (ii x_10.latest), (ii x_10.booking), (.slice BA ((x_10.al.take 9).length) ca)] true, (rowsP w.heap.size 43 7 enC (fun (x : Ent) w => x.ok w) Ent.fp (.slice B i cc) l (⟨x_10.id, x_10.item, x_10.frames, x_10.earliest, x_10.latest, x_10.booking, BA, ca, x_10.al.take 9⟩ : Ent)), bx b_3 32 [(ii 0), (ii 0), (ii 0), (ii 0), (.slice none 0 0), (ii 0), (ii 0), (ii 0), (ii 0), (.slice none 0 0), (.slice none 0 0), (.slice none 0 0), (.slice none 0 0)] true, bx b_1 32 [(ii p.channel), (ii p.num), (ii p.den), (ii p.offset), (.slice p.SA ((p.sh.take 45).length) p.sc), (ii p.epoch), (ii p.regions), (ii p.length), (ii p.fill), (.slice p.IA ((p.its.take 30).length) p.ic), (.slice p.EA p.es.length p.ec), (.slice p.BA ((p.bs.take 20).length) p.bc), (.slice p.CA ((p.cs.take 20).length) p.cc)] true] (by kernel_rfl) ⟨Rd.of_own (HP0.held 1 rfl).1, by show (x_10.al.take 9).length ≤ maxLen; unfold maxLen; omega⟩ (fun j hj => ⟨HP0.fresh _ (List.mem_of_getElem? (i := 1) rfl) rfl j (al_own (HP0.held 1 rfl) hj), HP0.lt _ (List.mem_of_getElem? (i := 1) rfl) j (al_own (HP0.held 1 rfl) hj), fun y hy hyk => by simp only [List.mem_cons, List.not_mem_nil, or_false] at hy; rcases hy with rfl | rfl | rfl | rfl | rfl <;> (first | exact pairwise_at HP0.apart (i := 1) (j := 0) rfl rfl (by decide) j (al_own (HP0.held 1 rfl) hj) hyk | exact pairwise_at HP0.apart (i := 1) (j := 2) rfl rfl (by decide) j (al_own (HP0.held 1 rfl) hj) hyk | exact pairwise_at HP0.apart (i := 1) (j := 3) rfl rfl (by decide) j (al_own (HP0.held 1 rfl) hj) hyk | exact pairwise_at HP0.apart (i := 1) (j := 4) rfl rfl (by decide) j (al_own (HP0.held 1 rfl) hj) hyk | exact pairwise_at HP0.apart (i := 1) (j := 5) rfl rfl (by decide) j (al_own (HP0.held 1 rfl) hj) hyk), fun q hq => by cases hq⟩)
   clear HP0 HP1
   refine H.push HP 70 2 0 (v := (.slice B i cc)) (e := 43) (p := (⟨x_10.id, x_10.item, x_10.frames, x_10.earliest, x_10.latest, x_10.booking, BA, ca, x_10.al.take 9⟩ : Ent)) (l := l) (cs := enC) (ok := (fun (x : Ent) w => x.ok w)) (fe := Ent.fp) (size := 7) (z := (.agg #[(ii 0), (ii 0), (ii 0), (ii 0), (ii 0), (ii 0), (.slice none 0 0)])) (bytes := 72) (bb := b_24) (tb := 43) (fb := true) (by kernel_rfl) elOk_en (by kernel_rfl) (by kernel_rfl) rfl (by kernel_rfl) (by kernel_rfl) (by kernel_rfl) (by kernel_rfl) (by kernel_rfl) rfl (by kernel_rfl) (by rw [hll]; unfold maxLen; omega) (by rw [hll]; omega) fun B_26 c_27 w_28 a H HP => ?_
   have HP : Hp w w_28 [bx b_24 43 [(ii x_10.id), (ii x_10.item), (ii x_10.frames), (ii x_10.earliest), (ii x_10.latest), (ii x_10.booking), (.slice BA ((x_10.al.take 9).length) ca)] true, bx b_17 43 [(ii x_10.id), (ii x_10.item), (ii x_10.frames), (ii x_10.earliest), (ii x_10.latest), (ii x_10.booking), (.slice BA ((x_10.al.take 9).length) ca)] true, (rowsR w.heap.size 43 7 enC (fun (x : Ent) w => x.ok w) Ent.fp (.slice B_26 (l.length + 1) c_27) (l ++ [(⟨x_10.id, x_10.item, x_10.frames, x_10.earliest, x_10.latest, x_10.booking, BA, ca, x_10.al.take 9⟩ : Ent)])), bx b_3 32 [(ii 0), (ii 0), (ii 0), (ii 0), (.slice none 0 0), (ii 0), (ii 0), (ii 0), (ii 0), (.slice none 0 0), (.slice none 0 0), (.slice none 0 0), (.slice none 0 0)] true, bx b_1 32 [(ii p.channel), (ii p.num), (ii p.den), (ii p.offset), (.slice p.SA ((p.sh.take 45).length) p.sc), (ii p.epoch), (ii p.regions), (ii p.length), (ii p.fill), (.slice p.IA ((p.its.take 30).length) p.ic), (.slice p.EA p.es.length p.ec), (.slice p.BA ((p.bs.take 20).length) p.bc), (.slice p.CA ((p.cs.take 20).length) p.cc)] true] [] := HP
   rw [hll] at H HP
   refine H.v 3 (.slice B_26 (i + 1) c_27) fun a H => ?_
   refine wpList_nil (inb_normal (then_normal (w_region ?_)))
   refine H.v 50 (ii i) fun a H => ?_
   refine H.valE 51 (ii (IntKind.i64.wrap ((i : Int) + 1))) (ii ((i : Int) + 1)) (by kernel_rfl) (by kernel_rfl) ((by rw [wrap_ini64 _ (by omega)])) fun a H => ?_
   refine H.v 4 (ii ((i : Int) + 1)) fun a H => ?_
   refine wpList_nil (then_normal ?_)
   have HP := HP.sub2 [2, 3, 4] [(rowsR w.heap.size 43 7 enC (fun (x : Ent) w => x.ok w) Ent.fp (.slice B_26 (i + 1) c_27) (l ++ [(⟨x_10.id, x_10.item, x_10.frames, x_10.earliest, x_10.latest, x_10.booking, BA, ca, x_10.al.take 9⟩ : Ent)])), bx b_3 32 [(ii 0), (ii 0), (ii 0), (ii 0), (.slice none 0 0), (ii 0), (ii 0), (ii 0), (ii 0), (.slice none 0 0), (.slice none 0 0), (.slice none 0 0), (.slice none 0 0)] true, bx b_1 32 [(ii p.channel), (ii p.num), (ii p.den), (ii p.offset), (.slice p.SA ((p.sh.take 45).length) p.sc), (ii p.epoch), (ii p.regions), (ii p.length), (ii p.fill), (.slice p.IA ((p.its.take 30).length) p.ic), (.slice p.EA p.es.length p.ec), (.slice p.BA ((p.bs.take 20).length) p.bc), (.slice p.CA ((p.cs.take 20).length) p.cc)] true] (by kernel_rfl) (by kernel_rfl) (by simp [bx, rowsR, rowsP])
   have H := H.as 4 (ii ((i + 1 : Nat) : Int)) rfl rfl
   refine ⟨_, ?_, i + 1, l ++ [(⟨x_10.id, x_10.item, x_10.frames, x_10.earliest, x_10.latest, x_10.booking, BA, ca, x_10.al.take 9⟩ : Ent)], B_26, c_27, rfl, H.keep (by kernel_rfl), HP, ⟨by omega, by omega⟩, (by rw [List.length_append, hll]; rfl), (by rw [List.map_append, hrel, take_snoc hx_14, List.map_append]; rfl)⟩
   omega
  ·have g49p := of_decide_eq_false g49
   refine wp_exit (then_exit (then_exit ?_))
   refine w_exit_here ?_
   refine then_normal (wp_seq ?_)
   have hes : p.es.take i = p.es.take 30 := take_end (by omega)
   subst hll
   refine w_region ?_
   refine H.v 71 (.slice B l.length cc) fun a H => ?_
   refine H.v 72 (pt b_1 10) fun a H => ?_
   refine H.store HP 2 b_1 10 1 32 _ true (.slice B l.length cc) [(rowsR w.heap.size 43 7 enC (fun (x : Ent) w => x.ok w) Ent.fp (.slice B l.length cc) l), bx b_3 32 [(ii 0), (ii 0), (ii 0), (ii 0), (.slice none 0 0), (ii 0), (ii 0), (ii 0), (ii 0), (.slice none 0 0), (.slice none 0 0), (.slice none 0 0), (.slice none 0 0)] true, bx b_1 32 [(ii p.channel), (ii p.num), (ii p.den), (ii p.offset), (.slice p.SA ((p.sh.take 45).length) p.sc), (ii p.epoch), (ii p.regions), (ii p.length), (ii p.fill), (.slice p.IA ((p.its.take 30).length) p.ic), (.slice B l.length cc), (.slice p.BA ((p.bs.take 20).length) p.bc), (.slice p.CA ((p.cs.take 20).length) p.cc)] true] (by kernel_rfl) (by kernel_rfl) (by kernel_rfl) rfl (by kernel_rfl) (by kernel_rfl) (by kernel_rfl) (by kernel_rfl) (by kernel_rfl) fun w_29 a H HP => ?_
   refine wpList_nil (then_normal (wp_seq (w_region ?_)))
   refine H.u 73 (.agg #[(ii p.channel), (ii p.num), (ii p.den), (ii p.offset), (.slice p.SA ((p.sh.take 45).length) p.sc), (ii p.epoch), (ii p.regions), (ii p.length), (ii p.fill), (.slice p.IA ((p.its.take 30).length) p.ic), (.slice B l.length cc), (.slice p.BA ((p.bs.take 20).length) p.bc), (.slice p.CA ((p.cs.take 20).length) p.cc)]) (ex_loadN (vs := [(ii p.channel), (ii p.num), (ii p.den), (ii p.offset), (.slice p.SA ((p.sh.take 45).length) p.sc), (ii p.epoch), (ii p.regions), (ii p.length), (ii p.fill), (.slice p.IA ((p.its.take 30).length) p.ic), (.slice B l.length cc), (.slice p.BA ((p.bs.take 20).length) p.bc), (.slice p.CA ((p.cs.take 20).length) p.cc)]) (by kernel_rfl) (by kernel_rfl) (by kernel_rfl) rfl (HP.cells 2 rfl 0 13 (by kernel_rfl))) fun a H => ?_
   refine H.store HP 1 b_3 0 13 32 _ true (.agg #[(ii p.channel), (ii p.num), (ii p.den), (ii p.offset), (.slice p.SA ((p.sh.take 45).length) p.sc), (ii p.epoch), (ii p.regions), (ii p.length), (ii p.fill), (.slice p.IA ((p.its.take 30).length) p.ic), (.slice B l.length cc), (.slice p.BA ((p.bs.take 20).length) p.bc), (.slice p.CA ((p.cs.take 20).length) p.cc)]) [(rowsR w.heap.size 43 7 enC (fun (x : Ent) w => x.ok w) Ent.fp (.slice B l.length cc) l), bx b_3 32 [(ii p.channel), (ii p.num), (ii p.den), (ii p.offset), (.slice p.SA ((p.sh.take 45).length) p.sc), (ii p.epoch), (ii p.regions), (ii p.length), (ii p.fill), (.slice p.IA ((p.its.take 30).length) p.ic), (.slice B l.length cc), (.slice p.BA ((p.bs.take 20).length) p.bc), (.slice p.CA ((p.cs.take 20).length) p.cc)] true, bx b_1 32 [(ii p.channel), (ii p.num), (ii p.den), (ii p.offset), (.slice p.SA ((p.sh.take 45).length) p.sc), (ii p.epoch), (ii p.regions), (ii p.length), (ii p.fill), (.slice p.IA ((p.its.take 30).length) p.ic), (.slice B l.length cc), (.slice p.BA ((p.bs.take 20).length) p.bc), (.slice p.CA ((p.cs.take 20).length) p.cc)] true] (by kernel_rfl) (by kernel_rfl) (by kernel_rfl) rfl (by kernel_rfl) (by kernel_rfl) (by kernel_rfl) (by kernel_rfl) (by kernel_rfl) fun w_30 a H HP => ?_
   refine wpList_nil (then_normal (wp_ret ?_))
   refine H.ret1 (fn := Tryz.f13) Tryz.results13 (RV.cellN (vs := [(ii p.channel), (ii p.num), (ii p.den), (ii p.offset), (.slice p.SA ((p.sh.take 45).length) p.sc), (ii p.epoch), (ii p.regions), (ii p.length), (ii p.fill), (.slice p.IA ((p.its.take 30).length) p.ic), (.slice B l.length cc), (.slice p.BA ((p.bs.take 20).length) p.bc), (.slice p.CA ((p.cs.take 20).length) p.cc)]) (b := b_3) (off := 0) (k := 13) (by kernel_rfl) (by kernel_rfl) (by kernel_rfl) rfl (HP.cells 1 rfl 0 13 (by kernel_rfl))) ?_
   have hrow := HP.held 0 rfl
   have hq := hpl.below HP.bl
   refine ⟨(⟨p.channel, p.num, p.den, p.offset, p.SA, p.sc, p.sh.take 45, p.epoch, p.regions, p.length, p.fill, p.IA, p.ic, p.its.take 30, B, cc, l, p.BA, p.bc, p.bs.take 20, p.CA, p.cc, p.cs.take 20⟩ : Pln), rfl, ?_, ⟨hq.sh.takeL altC_size 45, hq.its.takeL itC_size 30, ⟨Rd.of_own hrow.1, fun e he => (hrow.2 e he).1⟩, hq.bs.takeL bkC_size 20, hq.cs.takeL clC_size 20, ?_, ?_, ?_, ?_, ?_⟩, ?_, HP.bl⟩
   ·show (⟨p.channel, p.num, p.den, p.offset, p.sh.take 45, p.epoch, p.regions, p.length, p.fill, p.its.take 30, l.map Ent.nv, p.bs.take 20, p.cs.take 20⟩ : PlN) = shN p.nv
    rw [hrel, hes]; simp only [shN, Pln.nv, sh9N, ← List.map_take, List.map_map]; rfl
   ·show (p.sh.take 45).length ≤ maxLen; rw [tl_]; unfold maxLen; omega
   ·show (p.its.take 30).length ≤ maxLen; rw [tl_]; unfold maxLen; omega
   ·show l.length ≤ maxLen; unfold maxLen; omega
   ·show (p.bs.take 20).length ≤ maxLen; rw [tl_]; unfold maxLen; omega
   ·show (p.cs.take 20).length ≤ maxLen; rw [tl_]; unfold maxLen; omega
   ·exact ⟨en_new hrow (HP.fresh _ (List.mem_of_getElem? (i := 0) rfl) rfl), rfl, (ownR_cap hrow)⟩
 ·have g46p := of_decide_eq_false g46
  refine H.s 47 fun a H => ?_
  refine H.s 48 fun a H => ?_
  refine H.v 49 (.bool false) fun a H => ?_
  refine wpList_nil (then_normal ?_)
  refine w_iff H rfl ?_
  refine wp_exit (then_exit (then_exit ?_))
  refine w_exit_here ?_
  refine then_normal (wp_seq ?_)
  have hes : p.es.take i = p.es.take 30 := take_end (by omega)
  subst hll
  refine w_region ?_
  refine H.v 71 (.slice B l.length cc) fun a H => ?_
  refine H.v 72 (pt b_1 10) fun a H => ?_
  refine H.store HP 2 b_1 10 1 32 _ true (.slice B l.length cc) [(rowsR w.heap.size 43 7 enC (fun (x : Ent) w => x.ok w) Ent.fp (.slice B l.length cc) l), bx b_3 32 [(ii 0), (ii 0), (ii 0), (ii 0), (.slice none 0 0), (ii 0), (ii 0), (ii 0), (ii 0), (.slice none 0 0), (.slice none 0 0), (.slice none 0 0), (.slice none 0 0)] true, bx b_1 32 [(ii p.channel), (ii p.num), (ii p.den), (ii p.offset), (.slice p.SA ((p.sh.take 45).length) p.sc), (ii p.epoch), (ii p.regions), (ii p.length), (ii p.fill), (.slice p.IA ((p.its.take 30).length) p.ic), (.slice B l.length cc), (.slice p.BA ((p.bs.take 20).length) p.bc), (.slice p.CA ((p.cs.take 20).length) p.cc)] true] (by kernel_rfl) (by kernel_rfl) (by kernel_rfl) rfl (by kernel_rfl) (by kernel_rfl) (by kernel_rfl) (by kernel_rfl) (by kernel_rfl) fun w_31 a H HP => ?_
  refine wpList_nil (then_normal (wp_seq (w_region ?_)))
  refine H.u 73 (.agg #[(ii p.channel), (ii p.num), (ii p.den), (ii p.offset), (.slice p.SA ((p.sh.take 45).length) p.sc), (ii p.epoch), (ii p.regions), (ii p.length), (ii p.fill), (.slice p.IA ((p.its.take 30).length) p.ic), (.slice B l.length cc), (.slice p.BA ((p.bs.take 20).length) p.bc), (.slice p.CA ((p.cs.take 20).length) p.cc)]) (ex_loadN (vs := [(ii p.channel), (ii p.num), (ii p.den), (ii p.offset), (.slice p.SA ((p.sh.take 45).length) p.sc), (ii p.epoch), (ii p.regions), (ii p.length), (ii p.fill), (.slice p.IA ((p.its.take 30).length) p.ic), (.slice B l.length cc), (.slice p.BA ((p.bs.take 20).length) p.bc), (.slice p.CA ((p.cs.take 20).length) p.cc)]) (by kernel_rfl) (by kernel_rfl) (by kernel_rfl) rfl (HP.cells 2 rfl 0 13 (by kernel_rfl))) fun a H => ?_
  refine H.store HP 1 b_3 0 13 32 _ true (.agg #[(ii p.channel), (ii p.num), (ii p.den), (ii p.offset), (.slice p.SA ((p.sh.take 45).length) p.sc), (ii p.epoch), (ii p.regions), (ii p.length), (ii p.fill), (.slice p.IA ((p.its.take 30).length) p.ic), (.slice B l.length cc), (.slice p.BA ((p.bs.take 20).length) p.bc), (.slice p.CA ((p.cs.take 20).length) p.cc)]) [(rowsR w.heap.size 43 7 enC (fun (x : Ent) w => x.ok w) Ent.fp (.slice B l.length cc) l), bx b_3 32 [(ii p.channel), (ii p.num), (ii p.den), (ii p.offset), (.slice p.SA ((p.sh.take 45).length) p.sc), (ii p.epoch), (ii p.regions), (ii p.length), (ii p.fill), (.slice p.IA ((p.its.take 30).length) p.ic), (.slice B l.length cc), (.slice p.BA ((p.bs.take 20).length) p.bc), (.slice p.CA ((p.cs.take 20).length) p.cc)] true, bx b_1 32 [(ii p.channel), (ii p.num), (ii p.den), (ii p.offset), (.slice p.SA ((p.sh.take 45).length) p.sc), (ii p.epoch), (ii p.regions), (ii p.length), (ii p.fill), (.slice p.IA ((p.its.take 30).length) p.ic), (.slice B l.length cc), (.slice p.BA ((p.bs.take 20).length) p.bc), (.slice p.CA ((p.cs.take 20).length) p.cc)] true] (by kernel_rfl) (by kernel_rfl) (by kernel_rfl) rfl (by kernel_rfl) (by kernel_rfl) (by kernel_rfl) (by kernel_rfl) (by kernel_rfl) fun w_32 a H HP => ?_
  refine wpList_nil (then_normal (wp_ret ?_))
  refine H.ret1 (fn := Tryz.f13) Tryz.results13 (RV.cellN (vs := [(ii p.channel), (ii p.num), (ii p.den), (ii p.offset), (.slice p.SA ((p.sh.take 45).length) p.sc), (ii p.epoch), (ii p.regions), (ii p.length), (ii p.fill), (.slice p.IA ((p.its.take 30).length) p.ic), (.slice B l.length cc), (.slice p.BA ((p.bs.take 20).length) p.bc), (.slice p.CA ((p.cs.take 20).length) p.cc)]) (b := b_3) (off := 0) (k := 13) (by kernel_rfl) (by kernel_rfl) (by kernel_rfl) rfl (HP.cells 1 rfl 0 13 (by kernel_rfl))) ?_
  have hrow := HP.held 0 rfl
  have hq := hpl.below HP.bl
  refine ⟨(⟨p.channel, p.num, p.den, p.offset, p.SA, p.sc, p.sh.take 45, p.epoch, p.regions, p.length, p.fill, p.IA, p.ic, p.its.take 30, B, cc, l, p.BA, p.bc, p.bs.take 20, p.CA, p.cc, p.cs.take 20⟩ : Pln), rfl, ?_, ⟨hq.sh.takeL altC_size 45, hq.its.takeL itC_size 30, ⟨Rd.of_own hrow.1, fun e he => (hrow.2 e he).1⟩, hq.bs.takeL bkC_size 20, hq.cs.takeL clC_size 20, ?_, ?_, ?_, ?_, ?_⟩, ?_, HP.bl⟩
  ·show (⟨p.channel, p.num, p.den, p.offset, p.sh.take 45, p.epoch, p.regions, p.length, p.fill, p.its.take 30, l.map Ent.nv, p.bs.take 20, p.cs.take 20⟩ : PlN) = shN p.nv
   rw [hrel, hes]; simp only [shN, Pln.nv, sh9N, ← List.map_take, List.map_map]; rfl
  ·show (p.sh.take 45).length ≤ maxLen; rw [tl_]; unfold maxLen; omega
  ·show (p.its.take 30).length ≤ maxLen; rw [tl_]; unfold maxLen; omega
  ·show l.length ≤ maxLen; unfold maxLen; omega
  ·show (p.bs.take 20).length ≤ maxLen; rw [tl_]; unfold maxLen; omega
  ·show (p.cs.take 20).length ≤ maxLen; rw [tl_]; unfold maxLen; omega
  ·exact ⟨en_new hrow (HP.fresh _ (List.mem_of_getElem? (i := 0) rfl) rfl), rfl, (ownR_cap hrow)⟩
end Go.Proofs.YteeillphhiaopaaGreatDoor
namespace Go.Proofs.YteeillphhiaopaaGreatDoor
open Go.ChangeShapes Go.WideShapes Go.ChangeAt Go.RowKit
set_option linter.unusedVariables false
set_option linter.unusedSimpArgs false
def exPl (i e : Nat) (lat bk : Int) (B : Option Addr) (bc : Nat) (bs : List Bkg) : Pln := ⟨0, 25, 1, 0, none, 0, [], 0, 2, 100, 1, some ⟨i, 0, none⟩, 2, [⟨1, 5, 10, 0, 0⟩, ⟨2, 2, 20, 0, 0⟩], some ⟨e, 0, none⟩, 1, [⟨5, 2, 20, 0, lat, bk, none, 0, []⟩], B, bc, bs, none, 0, []⟩
def exS : List UInt8 := [] ++ encInts [0, 25, 1, 0, 0, 0, 2, 100, 1, 2, 1, 5, 10, 0, 0, 2, 2, 20, 0, 0, 1, 5, 2, 20, 0, 80, 0, 0, 0, 0]
theorem dec_exS : decN exS = ((exPl 0 0 80 0 none 0 []).nv, 0) := dec_enc (p := exPl 0 0 80 0 none 0 []) (by kernel_rfl)
theorem dec_nil : decN [] = (zeroN, 10) := by kernel_rfl
theorem IsRow.box {α : Type} {k : Nat} {cs : α → Array Value} (hk : ∀ e, (cs e).size = k) {w : World} {b t : Nat} {vs : List Value} {l : List α} (h : Box w b t vs.toArray) (hv : vs = flat cs l) : IsRow k cs w (some ⟨b, 0, none⟩) l := by
 subst hv
 refine ⟨flat_len hk l, .inr ⟨b, 0, rfl, h.lt, fun i hi => ?_⟩⟩
 have hi' : i < (flat cs l).length := by rw [flat_len hk l]; exact hi
 rw [Nat.zero_add, List.getElem?_eq_getElem hi']
 exact h.cell (by simp [hi'])
theorem isEx {w : World} {i e : Nat} {lat bk : Int} (h1 : Box w i 38 [(.int .i64 1), (.int .i64 5), (.int .i64 10), (.int .i64 0), (.int .i64 0), (.int .i64 2), (.int .i64 2), (.int .i64 20), (.int .i64 0), (.int .i64 0)].toArray) (h2 : Box w e 43 [.int .i64 5, .int .i64 2, .int .i64 20, .int .i64 0, .int .i64 lat, .int .i64 bk, .slice none 0 0].toArray) : IsPln w (exPl i e lat bk none 0 []) :=
 ⟨IsRow.nil _ _, IsRow.box itC_size h1 rfl, ⟨IsRow.box enC_size h2 rfl, fun x hx => by rcases List.mem_singleton.1 hx with rfl; exact ⟨IsRow.nil _ _, Nat.zero_le _⟩⟩, IsRow.nil _ _, IsRow.nil _ _, Nat.zero_le _, by show 2 ≤ maxLen; unfold maxLen; omega, by show 1 ≤ maxLen; unfold maxLen; omega, Nat.zero_le _, Nat.zero_le _⟩
theorem isExB {w : World} {i e b : Nat} {lat bk : Int} (h1 : Box w i 38 [(.int .i64 1), (.int .i64 5), (.int .i64 10), (.int .i64 0), (.int .i64 0), (.int .i64 2), (.int .i64 2), (.int .i64 20), (.int .i64 0), (.int .i64 0)].toArray) (h2 : Box w e 43 [.int .i64 5, .int .i64 2, .int .i64 20, .int .i64 0, .int .i64 lat, .int .i64 bk, .slice none 0 0].toArray) (h3 : Box w b 47 [(.int .i64 1), (.int .i64 2), (.int .i64 1), (.int .i64 0), (.int .i64 50), (.int .i64 90), (.int .i64 0)].toArray) : IsPln w (exPl i e lat bk (some ⟨b, 0, none⟩) 1 [⟨1, 2, 1, 0, 50, 90, 0⟩]) :=
 ⟨IsRow.nil _ _, IsRow.box itC_size h1 rfl, ⟨IsRow.box enC_size h2 rfl, fun x hx => by rcases List.mem_singleton.1 hx with rfl; exact ⟨IsRow.nil _ _, Nat.zero_le _⟩⟩, IsRow.box bkC_size h3 rfl, IsRow.nil _ _, Nat.zero_le _, by show 2 ≤ maxLen; unfold maxLen; omega, by show 1 ≤ maxLen; unfold maxLen; omega, by show 1 ≤ maxLen; unfold maxLen; omega, Nat.zero_le _⟩
theorem Hp.gain2 {w0 w w' : World} {L : List HB} {K : List FK} (H : Hp w0 w L K) (hb : Below w.heap.size w w') {b c t u : Nat} {vs us : List Value} (h1 : Box w' b t vs.toArray) (h2 : Box w' c u us.toArray) (n1 : w.heap.size ≤ b) (n2 : w.heap.size ≤ c) (hne : b ≠ c) : Hp w0 w' (bx b t vs true :: bx c u us true :: L) K := by
 have H2 := H.gain hb (bx c u us true) h2 (bx_ok _ _ _ _) (fun k hk => by cases hk; exact h2.lt) (fun k hk => by cases hk; exact n2)
 refine H2.add (bx b t vs true) h1 (bx_ok _ _ _ _) (fun k hk => by cases hk; exact h1.lt) (fun k hk => ⟨fun y hy hyk => ?_, fun p hp hpk => ?_⟩) (fun _ k hk => by cases hk; exact Nat.le_trans H.size n1)
 ·cases hk
  rcases List.mem_cons.1 hy with rfl | hy
  ·exact hne hyk
  ·have := (H.res y hy).2.2 _ hyk; omega
 ·cases hk
  have := ((H.kept p hp).2.2 _ hpk).1
  omega
set_option maxRecDepth 100000 in
set_option maxHeartbeats 4000000 in
theorem example_any (w : World) : Calls Tryz.prog 30 #[] w fun e w' => ∃ b1 b2, e = .returned (.agg (plC (exPl b1 b2 80 0 none 0 [])).toArray) ∧ Box w' b1 38 [(ii 1), (ii 5), (ii 10), (ii 0), (ii 0), (ii 2), (ii 2), (ii 20), (ii 0), (ii 0)].toArray ∧ Box w' b2 43 [(ii 5), (ii 2), (ii 20), (ii 0), (ii 80), (ii 0), (.slice none 0 0)].toArray ∧ w.heap.size ≤ b1 ∧ w.heap.size ≤ b2 ∧ b1 ≠ b2 ∧ Below w.heap.size w w' := by
 have HP := Hp.start w
 refine w_enter 8 [] Tryz.func30 rfl Tryz.ntmps30 (by kernel_rfl) (by kernel_rfl) fun a H => ?_
 refine wp_seq (w_region ?_)
 refine H.alloc HP 0 (fun b => (pt b 0)) 32 [(ii 0), (ii 0), (ii 0), (ii 0), (.slice none 0 0), (ii 0), (ii 0), (ii 0), (ii 0), (.slice none 0 0), (.slice none 0 0), (.slice none 0 0), (.slice none 0 0)] (by kernel_rfl) (fun w => by kernel_rfl) fun b_1 w_2 a H HP => ?_
 refine wpList_nil (then_normal (wp_seq (w_region ?_)))
 refine H.v 1 (.agg #[(ii 25), (ii 1)]) fun a H => ?_
 refine H.v 2 (.agg #[(ii 1), (ii 5), (ii 10), (ii 0), (ii 0)]) fun a H => ?_
 refine H.v 3 (.agg #[(ii 2), (ii 2), (ii 20), (ii 0), (ii 0)]) fun a H => ?_
 refine H.alloc HP 4 (fun b => (.slice (some ⟨b, 0, none⟩) 2 2)) 38 [(ii 1), (ii 5), (ii 10), (ii 0), (ii 0), (ii 2), (ii 2), (ii 20), (ii 0), (ii 0)] (by kernel_rfl) (fun w => by kernel_rfl) fun b_3 w_4 a H HP => ?_
 refine H.v 5 (.agg #[(ii 5), (ii 2), (ii 20), (ii 0), (ii 80), (ii 0), (.slice none 0 0)]) fun a H => ?_
 refine H.alloc HP 6 (fun b => (.slice (some ⟨b, 0, none⟩) 1 1)) 43 [(ii 5), (ii 2), (ii 20), (ii 0), (ii 80), (ii 0), (.slice none 0 0)] (by kernel_rfl) (fun w => by kernel_rfl) fun b_5 w_6 a H HP => ?_
 refine H.v 7 (.agg #[(ii 0), (ii 25), (ii 1), (ii 0), (.slice none 0 0), (ii 0), (ii 2), (ii 100), (ii 1), (.slice (some ⟨b_3, 0, none⟩) 2 2), (.slice (some ⟨b_5, 0, none⟩) 1 1), (.slice none 0 0), (.slice none 0 0)]) fun a H => ?_
 refine H.store HP 2 b_1 0 13 32 _ true (.agg #[(ii 0), (ii 25), (ii 1), (ii 0), (.slice none 0 0), (ii 0), (ii 2), (ii 100), (ii 1), (.slice (some ⟨b_3, 0, none⟩) 2 2), (.slice (some ⟨b_5, 0, none⟩) 1 1), (.slice none 0 0), (.slice none 0 0)]) [bx b_5 43 [(ii 5), (ii 2), (ii 20), (ii 0), (ii 80), (ii 0), (.slice none 0 0)] true, bx b_3 38 [(ii 1), (ii 5), (ii 10), (ii 0), (ii 0), (ii 2), (ii 2), (ii 20), (ii 0), (ii 0)] true, bx b_1 32 [(ii 0), (ii 25), (ii 1), (ii 0), (.slice none 0 0), (ii 0), (ii 2), (ii 100), (ii 1), (.slice (some ⟨b_3, 0, none⟩) 2 2), (.slice (some ⟨b_5, 0, none⟩) 1 1), (.slice none 0 0), (.slice none 0 0)] true] (by kernel_rfl) (by kernel_rfl) (by kernel_rfl) rfl (by kernel_rfl) (by kernel_rfl) (by kernel_rfl) (by kernel_rfl) (by kernel_rfl) fun w_7 a H HP => ?_
 refine wpList_nil (then_normal (wp_ret ?_))
 refine H.ret1 (fn := Tryz.f30) Tryz.results30 (RV.cellN (vs := [(ii 0), (ii 25), (ii 1), (ii 0), (.slice none 0 0), (ii 0), (ii 2), (ii 100), (ii 1), (.slice (some ⟨b_3, 0, none⟩) 2 2), (.slice (some ⟨b_5, 0, none⟩) 1 1), (.slice none 0 0), (.slice none 0 0)]) (b := b_1) (off := 0) (k := 13) (by kernel_rfl) (by kernel_rfl) (by kernel_rfl) rfl (HP.cells 2 rfl 0 13 (by kernel_rfl))) ?_
 exact ⟨b_3, b_5, rfl, HP.at_ 1 rfl, HP.at_ 0 rfl, HP.fresh _ (List.mem_of_getElem? (i := 1) rfl) rfl _ rfl, HP.fresh _ (List.mem_of_getElem? (i := 0) rfl) rfl _ rfl, (HP.neB 0 1 rfl rfl (by decide)).symm, HP.bl⟩
set_option maxRecDepth 100000 in
set_option maxHeartbeats 4000000 in
theorem sane_any (a0 a1 : Addr) (w : World) (hL : LaidP a0 a1 w) : Calls Tryz.prog 12 #[] w fun e w' => e = .returned (.bool true) ∧ Below w.heap.size w w' := by
 have HP := Hp.start w
 refine w_enter 146 [] Tryz.func12 rfl Tryz.ntmps12 (by kernel_rfl) (by kernel_rfl) fun a H => ?_
 refine wp_seq (w_region ?_)
 refine H.v 0 (.bool false) fun a H => ?_
 refine wpList_nil (then_normal (wp_seq (w_region ?_)))
 refine H.call 21 (by kernel_rfl) (Eq.trans (by kernel_rfl : _ = (callFunc 30 #[]).run Tryz.prog w) (Tryz.call30 _ _)) (example_any w) ?_
 rintro e w_1 ⟨bi1, be1, rfl, hx1, hx2, hn1, hn2, hne, hb⟩
 refine ⟨_, rfl, ?_⟩
 intro a H
 have HP := HP.gain2 hb hx1 hx2 hn1 hn2 hne
 refine H.alloc HP 1 (fun b => (pt b 0)) 32 [(ii 0), (ii 0), (ii 0), (ii 0), (.slice none 0 0), (ii 0), (ii 0), (ii 0), (ii 0), (.slice none 0 0), (.slice none 0 0), (.slice none 0 0), (.slice none 0 0)] (by kernel_rfl) (fun w => by kernel_rfl) fun b_2 w_3 a H HP => ?_
 refine H.store HP 0 b_2 0 13 32 _ true (.agg #[(ii 0), (ii 25), (ii 1), (ii 0), (.slice none 0 0), (ii 0), (ii 2), (ii 100), (ii 1), (.slice (some ⟨bi1, 0, none⟩) 2 2), (.slice (some ⟨be1, 0, none⟩) 1 1), (.slice none 0 0), (.slice none 0 0)]) [bx b_2 32 [(ii 0), (ii 25), (ii 1), (ii 0), (.slice none 0 0), (ii 0), (ii 2), (ii 100), (ii 1), (.slice (some ⟨bi1, 0, none⟩) 2 2), (.slice (some ⟨be1, 0, none⟩) 1 1), (.slice none 0 0), (.slice none 0 0)] true, bx bi1 38 [(ii 1), (ii 5), (ii 10), (ii 0), (ii 0), (ii 2), (ii 2), (ii 20), (ii 0), (ii 0)] true, bx be1 43 [(ii 5), (ii 2), (ii 20), (ii 0), (ii 80), (ii 0), (.slice none 0 0)] true] (by kernel_rfl) (by kernel_rfl) (by kernel_rfl) rfl (by kernel_rfl) (by kernel_rfl) (by kernel_rfl) (by kernel_rfl) (by kernel_rfl) fun w_4 a H HP => ?_
 refine wpList_nil (then_normal (wp_seq (w_region ?_)))
 refine H.call 22 (by kernel_rfl) (Eq.trans (by kernel_rfl : _ = (callFunc 30 #[]).run Tryz.prog w_4) (Tryz.call30 _ _)) (example_any w_4) ?_
 rintro e w_5 ⟨bi2, be2, rfl, hx1, hx2, hn1, hn2, hne, hb⟩
 refine ⟨_, rfl, ?_⟩
 intro a H
 have HP := HP.gain2 hb hx1 hx2 hn1 hn2 hne
 refine H.alloc HP 2 (fun b => (pt b 0)) 32 [(ii 0), (ii 0), (ii 0), (ii 0), (.slice none 0 0), (ii 0), (ii 0), (ii 0), (ii 0), (.slice none 0 0), (.slice none 0 0), (.slice none 0 0), (.slice none 0 0)] (by kernel_rfl) (fun w => by kernel_rfl) fun b_6 w_7 a H HP => ?_
 refine H.store HP 0 b_6 0 13 32 _ true (.agg #[(ii 0), (ii 25), (ii 1), (ii 0), (.slice none 0 0), (ii 0), (ii 2), (ii 100), (ii 1), (.slice (some ⟨bi2, 0, none⟩) 2 2), (.slice (some ⟨be2, 0, none⟩) 1 1), (.slice none 0 0), (.slice none 0 0)]) [bx b_6 32 [(ii 0), (ii 25), (ii 1), (ii 0), (.slice none 0 0), (ii 0), (ii 2), (ii 100), (ii 1), (.slice (some ⟨bi2, 0, none⟩) 2 2), (.slice (some ⟨be2, 0, none⟩) 1 1), (.slice none 0 0), (.slice none 0 0)] true, bx bi2 38 [(ii 1), (ii 5), (ii 10), (ii 0), (ii 0), (ii 2), (ii 2), (ii 20), (ii 0), (ii 0)] true, bx be2 43 [(ii 5), (ii 2), (ii 20), (ii 0), (ii 80), (ii 0), (.slice none 0 0)] true, bx b_2 32 [(ii 0), (ii 25), (ii 1), (ii 0), (.slice none 0 0), (ii 0), (ii 2), (ii 100), (ii 1), (.slice (some ⟨bi1, 0, none⟩) 2 2), (.slice (some ⟨be1, 0, none⟩) 1 1), (.slice none 0 0), (.slice none 0 0)] true, bx bi1 38 [(ii 1), (ii 5), (ii 10), (ii 0), (ii 0), (ii 2), (ii 2), (ii 20), (ii 0), (ii 0)] true, bx be1 43 [(ii 5), (ii 2), (ii 20), (ii 0), (ii 80), (ii 0), (.slice none 0 0)] true] (by kernel_rfl) (by kernel_rfl) (by kernel_rfl) rfl (by kernel_rfl) (by kernel_rfl) (by kernel_rfl) (by kernel_rfl) (by kernel_rfl) fun w_8 a H HP => ?_
 refine wpList_nil (then_normal (wp_seq (w_region ?_)))
 refine H.v 23 (pt b_6 10) fun a H => ?_
 refine H.u 24 (.slice (some ⟨be2, 0, none⟩) 1 1) (ex_l1 (HP.cell 0 rfl 10 rfl)) fun a H => ?_
 refine H.u 25 (pt be2 0) (ex_index (b := be2) (off := 0) (len := 1) (cap := 1) (e := 43) (k := 7) (ik := .i64) (i := 0) (m := 0) (by kernel_rfl) (by kernel_rfl) (by omega) (by omega) (by kernel_rfl) (by kernel_rfl)) fun a H => ?_
 refine H.v 26 (pt be2 4) fun a H => ?_
 refine H.store HP 2 be2 4 1 43 _ true (ii 81) [bx b_6 32 [(ii 0), (ii 25), (ii 1), (ii 0), (.slice none 0 0), (ii 0), (ii 2), (ii 100), (ii 1), (.slice (some ⟨bi2, 0, none⟩) 2 2), (.slice (some ⟨be2, 0, none⟩) 1 1), (.slice none 0 0), (.slice none 0 0)] true, bx bi2 38 [(ii 1), (ii 5), (ii 10), (ii 0), (ii 0), (ii 2), (ii 2), (ii 20), (ii 0), (ii 0)] true, bx be2 43 [(ii 5), (ii 2), (ii 20), (ii 0), (ii 81), (ii 0), (.slice none 0 0)] true, bx b_2 32 [(ii 0), (ii 25), (ii 1), (ii 0), (.slice none 0 0), (ii 0), (ii 2), (ii 100), (ii 1), (.slice (some ⟨bi1, 0, none⟩) 2 2), (.slice (some ⟨be1, 0, none⟩) 1 1), (.slice none 0 0), (.slice none 0 0)] true, bx bi1 38 [(ii 1), (ii 5), (ii 10), (ii 0), (ii 0), (ii 2), (ii 2), (ii 20), (ii 0), (ii 0)] true, bx be1 43 [(ii 5), (ii 2), (ii 20), (ii 0), (ii 80), (ii 0), (.slice none 0 0)] true] (by kernel_rfl) (by kernel_rfl) (by kernel_rfl) rfl (by kernel_rfl) (by kernel_rfl) (by kernel_rfl) (by kernel_rfl) (by kernel_rfl) fun w_9 a H HP => ?_
 refine wpList_nil (then_normal (wp_seq (w_region ?_)))
 refine H.call 27 (by kernel_rfl) (Eq.trans (by kernel_rfl : _ = (callFunc 30 #[]).run Tryz.prog w_9) (Tryz.call30 _ _)) (example_any w_9) ?_
 rintro e w_10 ⟨bi3, be3, rfl, hx1, hx2, hn1, hn2, hne, hb⟩
 refine ⟨_, rfl, ?_⟩
 intro a H
 have HP := HP.gain2 hb hx1 hx2 hn1 hn2 hne
 refine H.alloc HP 3 (fun b => (pt b 0)) 32 [(ii 0), (ii 0), (ii 0), (ii 0), (.slice none 0 0), (ii 0), (ii 0), (ii 0), (ii 0), (.slice none 0 0), (.slice none 0 0), (.slice none 0 0), (.slice none 0 0)] (by kernel_rfl) (fun w => by kernel_rfl) fun b_11 w_12 a H HP => ?_
 refine H.store HP 0 b_11 0 13 32 _ true (.agg #[(ii 0), (ii 25), (ii 1), (ii 0), (.slice none 0 0), (ii 0), (ii 2), (ii 100), (ii 1), (.slice (some ⟨bi3, 0, none⟩) 2 2), (.slice (some ⟨be3, 0, none⟩) 1 1), (.slice none 0 0), (.slice none 0 0)]) [bx b_11 32 [(ii 0), (ii 25), (ii 1), (ii 0), (.slice none 0 0), (ii 0), (ii 2), (ii 100), (ii 1), (.slice (some ⟨bi3, 0, none⟩) 2 2), (.slice (some ⟨be3, 0, none⟩) 1 1), (.slice none 0 0), (.slice none 0 0)] true, bx bi3 38 [(ii 1), (ii 5), (ii 10), (ii 0), (ii 0), (ii 2), (ii 2), (ii 20), (ii 0), (ii 0)] true, bx be3 43 [(ii 5), (ii 2), (ii 20), (ii 0), (ii 80), (ii 0), (.slice none 0 0)] true, bx b_6 32 [(ii 0), (ii 25), (ii 1), (ii 0), (.slice none 0 0), (ii 0), (ii 2), (ii 100), (ii 1), (.slice (some ⟨bi2, 0, none⟩) 2 2), (.slice (some ⟨be2, 0, none⟩) 1 1), (.slice none 0 0), (.slice none 0 0)] true, bx bi2 38 [(ii 1), (ii 5), (ii 10), (ii 0), (ii 0), (ii 2), (ii 2), (ii 20), (ii 0), (ii 0)] true, bx be2 43 [(ii 5), (ii 2), (ii 20), (ii 0), (ii 81), (ii 0), (.slice none 0 0)] true, bx b_2 32 [(ii 0), (ii 25), (ii 1), (ii 0), (.slice none 0 0), (ii 0), (ii 2), (ii 100), (ii 1), (.slice (some ⟨bi1, 0, none⟩) 2 2), (.slice (some ⟨be1, 0, none⟩) 1 1), (.slice none 0 0), (.slice none 0 0)] true, bx bi1 38 [(ii 1), (ii 5), (ii 10), (ii 0), (ii 0), (ii 2), (ii 2), (ii 20), (ii 0), (ii 0)] true, bx be1 43 [(ii 5), (ii 2), (ii 20), (ii 0), (ii 80), (ii 0), (.slice none 0 0)] true] (by kernel_rfl) (by kernel_rfl) (by kernel_rfl) rfl (by kernel_rfl) (by kernel_rfl) (by kernel_rfl) (by kernel_rfl) (by kernel_rfl) fun w_13 a H HP => ?_
 refine wpList_nil (then_normal (wp_seq (w_region ?_)))
 refine H.v 28 (.agg #[(ii 1), (ii 2), (ii 1), (ii 0), (ii 50), (ii 90), (ii 0)]) fun a H => ?_
 refine H.alloc HP 29 (fun b => (.slice (some ⟨b, 0, none⟩) 1 1)) 47 [(ii 1), (ii 2), (ii 1), (ii 0), (ii 50), (ii 90), (ii 0)] (by kernel_rfl) (fun w => by kernel_rfl) fun b_14 w_15 a H HP => ?_
 refine H.v 30 (pt b_11 11) fun a H => ?_
 refine H.store HP 1 b_11 11 1 32 _ true (.slice (some ⟨b_14, 0, none⟩) 1 1) [bx b_14 47 [(ii 1), (ii 2), (ii 1), (ii 0), (ii 50), (ii 90), (ii 0)] true, bx b_11 32 [(ii 0), (ii 25), (ii 1), (ii 0), (.slice none 0 0), (ii 0), (ii 2), (ii 100), (ii 1), (.slice (some ⟨bi3, 0, none⟩) 2 2), (.slice (some ⟨be3, 0, none⟩) 1 1), (.slice (some ⟨b_14, 0, none⟩) 1 1), (.slice none 0 0)] true, bx bi3 38 [(ii 1), (ii 5), (ii 10), (ii 0), (ii 0), (ii 2), (ii 2), (ii 20), (ii 0), (ii 0)] true, bx be3 43 [(ii 5), (ii 2), (ii 20), (ii 0), (ii 80), (ii 0), (.slice none 0 0)] true, bx b_6 32 [(ii 0), (ii 25), (ii 1), (ii 0), (.slice none 0 0), (ii 0), (ii 2), (ii 100), (ii 1), (.slice (some ⟨bi2, 0, none⟩) 2 2), (.slice (some ⟨be2, 0, none⟩) 1 1), (.slice none 0 0), (.slice none 0 0)] true, bx bi2 38 [(ii 1), (ii 5), (ii 10), (ii 0), (ii 0), (ii 2), (ii 2), (ii 20), (ii 0), (ii 0)] true, bx be2 43 [(ii 5), (ii 2), (ii 20), (ii 0), (ii 81), (ii 0), (.slice none 0 0)] true, bx b_2 32 [(ii 0), (ii 25), (ii 1), (ii 0), (.slice none 0 0), (ii 0), (ii 2), (ii 100), (ii 1), (.slice (some ⟨bi1, 0, none⟩) 2 2), (.slice (some ⟨be1, 0, none⟩) 1 1), (.slice none 0 0), (.slice none 0 0)] true, bx bi1 38 [(ii 1), (ii 5), (ii 10), (ii 0), (ii 0), (ii 2), (ii 2), (ii 20), (ii 0), (ii 0)] true, bx be1 43 [(ii 5), (ii 2), (ii 20), (ii 0), (ii 80), (ii 0), (.slice none 0 0)] true] (by kernel_rfl) (by kernel_rfl) (by kernel_rfl) rfl (by kernel_rfl) (by kernel_rfl) (by kernel_rfl) (by kernel_rfl) (by kernel_rfl) fun w_16 a H HP => ?_
 refine wpList_nil (then_normal (wp_seq (w_region ?_)))
 refine H.u 31 (.agg #[(ii 0), (ii 25), (ii 1), (ii 0), (.slice none 0 0), (ii 0), (ii 2), (ii 100), (ii 1), (.slice (some ⟨bi3, 0, none⟩) 2 2), (.slice (some ⟨be3, 0, none⟩) 1 1), (.slice (some ⟨b_14, 0, none⟩) 1 1), (.slice none 0 0)]) (ex_loadN (vs := [(ii 0), (ii 25), (ii 1), (ii 0), (.slice none 0 0), (ii 0), (ii 2), (ii 100), (ii 1), (.slice (some ⟨bi3, 0, none⟩) 2 2), (.slice (some ⟨be3, 0, none⟩) 1 1), (.slice (some ⟨b_14, 0, none⟩) 1 1), (.slice none 0 0)]) (by kernel_rfl) (by kernel_rfl) (by kernel_rfl) rfl (HP.cells 1 rfl 0 13 (by kernel_rfl))) fun a H => ?_
 refine H.call 32 (by kernel_rfl) (Eq.trans (by kernel_rfl : _ = (callFunc 14 #[(.agg #[(ii 0), (ii 25), (ii 1), (ii 0), (.slice none 0 0), (ii 0), (ii 2), (ii 100), (ii 1), (.slice (some ⟨bi3, 0, none⟩) 2 2), (.slice (some ⟨be3, 0, none⟩) 1 1), (.slice (some ⟨b_14, 0, none⟩) 1 1), (.slice none 0 0)])]).run Tryz.prog w_16) (Tryz.call14 _ _)) ((by have hh := valid_any (exPl bi3 be3 80 0 (some ⟨b_14, 0, none⟩) 1 [⟨1, 2, 1, 0, 50, 90, 0⟩]) w_16 (isExB (HP.at_ 2 rfl) (HP.at_ 3 rfl) (HP.at_ 0 rfl)) (hL.below HP.bl).rates; rw [show validPl (exPl bi3 be3 80 0 (some ⟨b_14, 0, none⟩) 1 [⟨1, 2, 1, 0, 50, 90, 0⟩]) = true from by kernel_rfl] at hh; exact hh)) ?_
 rintro e w_17 ⟨rfl, hb⟩
 refine ⟨_, rfl, ?_⟩
 intro a H
 have HP := HP.next hb
 refine H.v 4 (.bool true) fun a H => ?_
 refine wpList_nil (then_normal (wp_seq (w_region ?_)))
 refine H.v 33 (pt b_11 10) fun a H => ?_
 refine H.u 34 (.slice (some ⟨be3, 0, none⟩) 1 1) (ex_l1 (HP.cell 1 rfl 10 rfl)) fun a H => ?_
 refine H.u 35 (pt be3 0) (ex_index (b := be3) (off := 0) (len := 1) (cap := 1) (e := 43) (k := 7) (ik := .i64) (i := 0) (m := 0) (by kernel_rfl) (by kernel_rfl) (by omega) (by omega) (by kernel_rfl) (by kernel_rfl)) fun a H => ?_
 refine H.v 36 (pt be3 5) fun a H => ?_
 refine H.store HP 3 be3 5 1 43 _ true (ii 1) [bx b_14 47 [(ii 1), (ii 2), (ii 1), (ii 0), (ii 50), (ii 90), (ii 0)] true, bx b_11 32 [(ii 0), (ii 25), (ii 1), (ii 0), (.slice none 0 0), (ii 0), (ii 2), (ii 100), (ii 1), (.slice (some ⟨bi3, 0, none⟩) 2 2), (.slice (some ⟨be3, 0, none⟩) 1 1), (.slice (some ⟨b_14, 0, none⟩) 1 1), (.slice none 0 0)] true, bx bi3 38 [(ii 1), (ii 5), (ii 10), (ii 0), (ii 0), (ii 2), (ii 2), (ii 20), (ii 0), (ii 0)] true, bx be3 43 [(ii 5), (ii 2), (ii 20), (ii 0), (ii 80), (ii 1), (.slice none 0 0)] true, bx b_6 32 [(ii 0), (ii 25), (ii 1), (ii 0), (.slice none 0 0), (ii 0), (ii 2), (ii 100), (ii 1), (.slice (some ⟨bi2, 0, none⟩) 2 2), (.slice (some ⟨be2, 0, none⟩) 1 1), (.slice none 0 0), (.slice none 0 0)] true, bx bi2 38 [(ii 1), (ii 5), (ii 10), (ii 0), (ii 0), (ii 2), (ii 2), (ii 20), (ii 0), (ii 0)] true, bx be2 43 [(ii 5), (ii 2), (ii 20), (ii 0), (ii 81), (ii 0), (.slice none 0 0)] true, bx b_2 32 [(ii 0), (ii 25), (ii 1), (ii 0), (.slice none 0 0), (ii 0), (ii 2), (ii 100), (ii 1), (.slice (some ⟨bi1, 0, none⟩) 2 2), (.slice (some ⟨be1, 0, none⟩) 1 1), (.slice none 0 0), (.slice none 0 0)] true, bx bi1 38 [(ii 1), (ii 5), (ii 10), (ii 0), (ii 0), (ii 2), (ii 2), (ii 20), (ii 0), (ii 0)] true, bx be1 43 [(ii 5), (ii 2), (ii 20), (ii 0), (ii 80), (ii 0), (.slice none 0 0)] true] (by kernel_rfl) (by kernel_rfl) (by kernel_rfl) rfl (by kernel_rfl) (by kernel_rfl) (by kernel_rfl) (by kernel_rfl) (by kernel_rfl) fun w_18 a H HP => ?_
 refine wpList_nil (then_normal (wp_seq (w_region ?_)))
 refine H.u 38 (.agg #[(ii 0), (ii 25), (ii 1), (ii 0), (.slice none 0 0), (ii 0), (ii 2), (ii 100), (ii 1), (.slice (some ⟨bi1, 0, none⟩) 2 2), (.slice (some ⟨be1, 0, none⟩) 1 1), (.slice none 0 0), (.slice none 0 0)]) (ex_loadN (vs := [(ii 0), (ii 25), (ii 1), (ii 0), (.slice none 0 0), (ii 0), (ii 2), (ii 100), (ii 1), (.slice (some ⟨bi1, 0, none⟩) 2 2), (.slice (some ⟨be1, 0, none⟩) 1 1), (.slice none 0 0), (.slice none 0 0)]) (by kernel_rfl) (by kernel_rfl) (by kernel_rfl) rfl (HP.cells 7 rfl 0 13 (by kernel_rfl))) fun a H => ?_
 refine H.call 39 (by kernel_rfl) (Eq.trans (by kernel_rfl : _ = (callFunc 25 #[(.agg #[(ii 0), (ii 25), (ii 1), (ii 0), (.slice none 0 0), (ii 0), (ii 2), (ii 100), (ii 1), (.slice (some ⟨bi1, 0, none⟩) 2 2), (.slice (some ⟨be1, 0, none⟩) 1 1), (.slice none 0 0), (.slice none 0 0)])]).run Tryz.prog w_18) (Tryz.call25 _ _)) ((by have hh := encode_any (exPl bi1 be1 80 0 none 0 []) w_18 (isEx (HP.at_ 8 rfl) (HP.at_ 9 rfl)) (hL.below HP.bl).rates; rw [show encV (exPl bi1 be1 80 0 none 0 []) = .tuple #[.string (bstr exS), .int .i64 0] from by kernel_rfl] at hh; exact hh)) ?_
 rintro e w_19 ⟨rfl, hb⟩
 refine ⟨_, rfl, ?_⟩
 intro a H
 have HP := HP.next hb
 refine H.v 37 (.tuple #[(.string (bstr exS)), (ii 0)]) fun a H => ?_
 refine H.v 40 (.string (bstr exS)) fun a H => ?_
 refine H.v 41 (ii 0) fun a H => ?_
 refine H.v 5 (.string (bstr exS)) fun a H => ?_
 refine H.v 6 (ii 0) fun a H => ?_
 refine wpList_nil (then_normal (wp_seq (w_region ?_)))
 refine H.v 43 (.string (bstr exS)) fun a H => ?_
 have hlt0 := HP.lt
 refine H.call 44 (by kernel_rfl) (Eq.trans (by kernel_rfl : _ = (callFunc 27 #[(.string (bstr exS))]).run Tryz.prog w_19) (Tryz.call27 _ _)) ((by have hh := decode_any a0 a1 exS w_19 (hL.below HP.bl) (by decide +kernel); unfold DecPost at hh; simp only [dec_exS] at hh; exact hh)) ?_
 rintro e w_20 ⟨pd, rfl, hnv, hpd, hnew, hb⟩
 refine ⟨_, rfl, ?_⟩
 intro a H
 have HP := HP.next hb
 have HP := HP.keepF (plnK pd) hpd (plnK_ok pd) (fun j hj => ⟨hpd.lt j hj, fun y hy hyk => by simp only [List.mem_cons, List.not_mem_nil, or_false] at hy; rcases hy with rfl | rfl | rfl | rfl | rfl | rfl | rfl | rfl | rfl | rfl <;> (first | exact Nat.lt_irrefl _ (Nat.lt_of_lt_of_le (hlt0 _ (List.mem_of_getElem? (i := 0) rfl) j hyk) (hnew j hj)) | exact Nat.lt_irrefl _ (Nat.lt_of_lt_of_le (hlt0 _ (List.mem_of_getElem? (i := 1) rfl) j hyk) (hnew j hj)) | exact Nat.lt_irrefl _ (Nat.lt_of_lt_of_le (hlt0 _ (List.mem_of_getElem? (i := 2) rfl) j hyk) (hnew j hj)) | exact Nat.lt_irrefl _ (Nat.lt_of_lt_of_le (hlt0 _ (List.mem_of_getElem? (i := 3) rfl) j hyk) (hnew j hj)) | exact Nat.lt_irrefl _ (Nat.lt_of_lt_of_le (hlt0 _ (List.mem_of_getElem? (i := 4) rfl) j hyk) (hnew j hj)) | exact Nat.lt_irrefl _ (Nat.lt_of_lt_of_le (hlt0 _ (List.mem_of_getElem? (i := 5) rfl) j hyk) (hnew j hj)) | exact Nat.lt_irrefl _ (Nat.lt_of_lt_of_le (hlt0 _ (List.mem_of_getElem? (i := 6) rfl) j hyk) (hnew j hj)) | exact Nat.lt_irrefl _ (Nat.lt_of_lt_of_le (hlt0 _ (List.mem_of_getElem? (i := 7) rfl) j hyk) (hnew j hj)) | exact Nat.lt_irrefl _ (Nat.lt_of_lt_of_le (hlt0 _ (List.mem_of_getElem? (i := 8) rfl) j hyk) (hnew j hj)) | exact Nat.lt_irrefl _ (Nat.lt_of_lt_of_le (hlt0 _ (List.mem_of_getElem? (i := 9) rfl) j hyk) (hnew j hj)))⟩)
 refine H.v 42 (.tuple #[(plV pd), (ii 0)]) fun a H => ?_
 refine H.v 45 (plV pd) fun a H => ?_
 refine H.v 46 (ii 0) fun a H => ?_
 refine H.alloc HP 7 (fun b => (pt b 0)) 32 [(ii 0), (ii 0), (ii 0), (ii 0), (.slice none 0 0), (ii 0), (ii 0), (ii 0), (ii 0), (.slice none 0 0), (.slice none 0 0), (.slice none 0 0), (.slice none 0 0)] (by kernel_rfl) (fun w => by kernel_rfl) fun b_21 w_22 a H HP => ?_
 refine H.store HP 0 b_21 0 13 32 _ true (plV pd) [bx b_21 32 (plL pd) true, bx b_14 47 [(ii 1), (ii 2), (ii 1), (ii 0), (ii 50), (ii 90), (ii 0)] true, bx b_11 32 [(ii 0), (ii 25), (ii 1), (ii 0), (.slice none 0 0), (ii 0), (ii 2), (ii 100), (ii 1), (.slice (some ⟨bi3, 0, none⟩) 2 2), (.slice (some ⟨be3, 0, none⟩) 1 1), (.slice (some ⟨b_14, 0, none⟩) 1 1), (.slice none 0 0)] true, bx bi3 38 [(ii 1), (ii 5), (ii 10), (ii 0), (ii 0), (ii 2), (ii 2), (ii 20), (ii 0), (ii 0)] true, bx be3 43 [(ii 5), (ii 2), (ii 20), (ii 0), (ii 80), (ii 1), (.slice none 0 0)] true, bx b_6 32 [(ii 0), (ii 25), (ii 1), (ii 0), (.slice none 0 0), (ii 0), (ii 2), (ii 100), (ii 1), (.slice (some ⟨bi2, 0, none⟩) 2 2), (.slice (some ⟨be2, 0, none⟩) 1 1), (.slice none 0 0), (.slice none 0 0)] true, bx bi2 38 [(ii 1), (ii 5), (ii 10), (ii 0), (ii 0), (ii 2), (ii 2), (ii 20), (ii 0), (ii 0)] true, bx be2 43 [(ii 5), (ii 2), (ii 20), (ii 0), (ii 81), (ii 0), (.slice none 0 0)] true, bx b_2 32 [(ii 0), (ii 25), (ii 1), (ii 0), (.slice none 0 0), (ii 0), (ii 2), (ii 100), (ii 1), (.slice (some ⟨bi1, 0, none⟩) 2 2), (.slice (some ⟨be1, 0, none⟩) 1 1), (.slice none 0 0), (.slice none 0 0)] true, bx bi1 38 [(ii 1), (ii 5), (ii 10), (ii 0), (ii 0), (ii 2), (ii 2), (ii 20), (ii 0), (ii 0)] true, bx be1 43 [(ii 5), (ii 2), (ii 20), (ii 0), (ii 80), (ii 0), (.slice none 0 0)] true] (by kernel_rfl) (by kernel_rfl) (by kernel_rfl) rfl (by kernel_rfl) (by kernel_rfl) (by kernel_rfl) (by kernel_rfl) (by kernel_rfl) fun w_23 a H HP => ?_
 refine H.v 8 (ii 0) fun a H => ?_
 refine wpList_nil (then_normal (wp_seq (w_region ?_)))
 refine H.u 48 (.agg #[(ii 0), (ii 25), (ii 1), (ii 0), (.slice none 0 0), (ii 0), (ii 2), (ii 100), (ii 1), (.slice (some ⟨bi2, 0, none⟩) 2 2), (.slice (some ⟨be2, 0, none⟩) 1 1), (.slice none 0 0), (.slice none 0 0)]) (ex_loadN (vs := [(ii 0), (ii 25), (ii 1), (ii 0), (.slice none 0 0), (ii 0), (ii 2), (ii 100), (ii 1), (.slice (some ⟨bi2, 0, none⟩) 2 2), (.slice (some ⟨be2, 0, none⟩) 1 1), (.slice none 0 0), (.slice none 0 0)]) (by kernel_rfl) (by kernel_rfl) (by kernel_rfl) rfl (HP.cells 5 rfl 0 13 (by kernel_rfl))) fun a H => ?_
 refine H.call 49 (by kernel_rfl) (Eq.trans (by kernel_rfl : _ = (callFunc 25 #[(.agg #[(ii 0), (ii 25), (ii 1), (ii 0), (.slice none 0 0), (ii 0), (ii 2), (ii 100), (ii 1), (.slice (some ⟨bi2, 0, none⟩) 2 2), (.slice (some ⟨be2, 0, none⟩) 1 1), (.slice none 0 0), (.slice none 0 0)])]).run Tryz.prog w_23) (Tryz.call25 _ _)) ((by have hh := encode_any (exPl bi2 be2 81 0 none 0 []) w_23 (isEx (HP.at_ 6 rfl) (HP.at_ 7 rfl)) (hL.below HP.bl).rates; rw [show encV (exPl bi2 be2 81 0 none 0 []) = .tuple #[.string (bstr []), .int .i64 80] from by kernel_rfl] at hh; exact hh)) ?_
 rintro e w_24 ⟨rfl, hb⟩
 refine ⟨_, rfl, ?_⟩
 intro a H
 have HP := HP.next hb
 refine H.v 47 (.tuple #[(.string (bstr ([]))), (ii 80)]) fun a H => ?_
 refine H.v 50 (.string (bstr ([]))) fun a H => ?_
 refine H.v 51 (ii 80) fun a H => ?_
 refine H.v 9 (.string (bstr ([]))) fun a H => ?_
 refine H.v 10 (ii 80) fun a H => ?_
 refine wpList_nil (then_normal (wp_seq (w_region ?_)))
 refine H.call 53 (by kernel_rfl) (Eq.trans (by kernel_rfl : _ = (callFunc 27 #[(.string (bstr ([])))]).run Tryz.prog w_24) (Tryz.call27 _ _)) ((by have hh := decode_any a0 a1 [] w_24 (hL.below HP.bl) (by decide); unfold DecPost at hh; simp only [dec_nil] at hh; exact hh)) ?_
 rintro e w_25 ⟨p2, rfl, _, _, _, hb⟩
 refine ⟨_, rfl, ?_⟩
 intro a H
 have HP := HP.next hb
 refine H.v 52 (.tuple #[(plV p2), (ii 10)]) fun a H => ?_
 refine H.v 54 (plV p2) fun a H => ?_
 refine H.v 55 (ii 10) fun a H => ?_
 refine H.alloc HP 11 (fun b => (pt b 0)) 32 [(ii 0), (ii 0), (ii 0), (ii 0), (.slice none 0 0), (ii 0), (ii 0), (ii 0), (ii 0), (.slice none 0 0), (.slice none 0 0), (.slice none 0 0), (.slice none 0 0)] (by kernel_rfl) (fun w => by kernel_rfl) fun b_26 w_27 a H HP => ?_
 refine H.store HP 0 b_26 0 13 32 _ true (plV p2) [bx b_26 32 (plL p2) true, bx b_21 32 (plL pd) true, bx b_14 47 [(ii 1), (ii 2), (ii 1), (ii 0), (ii 50), (ii 90), (ii 0)] true, bx b_11 32 [(ii 0), (ii 25), (ii 1), (ii 0), (.slice none 0 0), (ii 0), (ii 2), (ii 100), (ii 1), (.slice (some ⟨bi3, 0, none⟩) 2 2), (.slice (some ⟨be3, 0, none⟩) 1 1), (.slice (some ⟨b_14, 0, none⟩) 1 1), (.slice none 0 0)] true, bx bi3 38 [(ii 1), (ii 5), (ii 10), (ii 0), (ii 0), (ii 2), (ii 2), (ii 20), (ii 0), (ii 0)] true, bx be3 43 [(ii 5), (ii 2), (ii 20), (ii 0), (ii 80), (ii 1), (.slice none 0 0)] true, bx b_6 32 [(ii 0), (ii 25), (ii 1), (ii 0), (.slice none 0 0), (ii 0), (ii 2), (ii 100), (ii 1), (.slice (some ⟨bi2, 0, none⟩) 2 2), (.slice (some ⟨be2, 0, none⟩) 1 1), (.slice none 0 0), (.slice none 0 0)] true, bx bi2 38 [(ii 1), (ii 5), (ii 10), (ii 0), (ii 0), (ii 2), (ii 2), (ii 20), (ii 0), (ii 0)] true, bx be2 43 [(ii 5), (ii 2), (ii 20), (ii 0), (ii 81), (ii 0), (.slice none 0 0)] true, bx b_2 32 [(ii 0), (ii 25), (ii 1), (ii 0), (.slice none 0 0), (ii 0), (ii 2), (ii 100), (ii 1), (.slice (some ⟨bi1, 0, none⟩) 2 2), (.slice (some ⟨be1, 0, none⟩) 1 1), (.slice none 0 0), (.slice none 0 0)] true, bx bi1 38 [(ii 1), (ii 5), (ii 10), (ii 0), (ii 0), (ii 2), (ii 2), (ii 20), (ii 0), (ii 0)] true, bx be1 43 [(ii 5), (ii 2), (ii 20), (ii 0), (ii 80), (ii 0), (.slice none 0 0)] true] (by kernel_rfl) (by kernel_rfl) (by kernel_rfl) rfl (by kernel_rfl) (by kernel_rfl) (by kernel_rfl) (by kernel_rfl) (by kernel_rfl) fun w_28 a H HP => ?_
 refine H.v 12 (ii 10) fun a H => ?_
 refine wpList_nil (then_normal (wp_seq (w_region ?_)))
 refine H.u 57 (.agg #[(ii 0), (ii 25), (ii 1), (ii 0), (.slice none 0 0), (ii 0), (ii 2), (ii 100), (ii 1), (.slice (some ⟨bi1, 0, none⟩) 2 2), (.slice (some ⟨be1, 0, none⟩) 1 1), (.slice none 0 0), (.slice none 0 0)]) (ex_loadN (vs := [(ii 0), (ii 25), (ii 1), (ii 0), (.slice none 0 0), (ii 0), (ii 2), (ii 100), (ii 1), (.slice (some ⟨bi1, 0, none⟩) 2 2), (.slice (some ⟨be1, 0, none⟩) 1 1), (.slice none 0 0), (.slice none 0 0)]) (by kernel_rfl) (by kernel_rfl) (by kernel_rfl) rfl (HP.cells 9 rfl 0 13 (by kernel_rfl))) fun a H => ?_
 refine H.call 58 (by kernel_rfl) (Eq.trans (by kernel_rfl : _ = (callFunc 18 #[(.agg #[(ii 0), (ii 25), (ii 1), (ii 0), (.slice none 0 0), (ii 0), (ii 2), (ii 100), (ii 1), (.slice (some ⟨bi1, 0, none⟩) 2 2), (.slice (some ⟨be1, 0, none⟩) 1 1), (.slice none 0 0), (.slice none 0 0)]), (ii 2)]).run Tryz.prog w_28) (Tryz.call18 _ _)) (item_any (exPl bi1 be1 80 0 none 0 []) 2 w_28 (isEx (HP.at_ 10 rfl) (HP.at_ 11 rfl))) ?_
 rintro e w_29 ⟨rfl, hb⟩
 refine ⟨_, rfl, ?_⟩
 intro a H
 have HP := HP.next hb
 refine H.v 56 (.tuple #[(.agg #[(ii 2), (ii 2), (ii 20), (ii 0), (ii 0)]), (.bool true)]) fun a H => ?_
 refine H.v 59 (.agg #[(ii 2), (ii 2), (ii 20), (ii 0), (ii 0)]) fun a H => ?_
 refine H.v 60 (.bool true) fun a H => ?_
 refine H.alloc HP 13 (fun b => (pt b 0)) 38 [(ii 0), (ii 0), (ii 0), (ii 0), (ii 0)] (by kernel_rfl) (fun w => by kernel_rfl) fun b_30 w_31 a H HP => ?_
 refine H.store HP 0 b_30 0 5 38 _ true (.agg #[(ii 2), (ii 2), (ii 20), (ii 0), (ii 0)]) [bx b_30 38 [(ii 2), (ii 2), (ii 20), (ii 0), (ii 0)] true, bx b_26 32 (plL p2) true, bx b_21 32 (plL pd) true, bx b_14 47 [(ii 1), (ii 2), (ii 1), (ii 0), (ii 50), (ii 90), (ii 0)] true, bx b_11 32 [(ii 0), (ii 25), (ii 1), (ii 0), (.slice none 0 0), (ii 0), (ii 2), (ii 100), (ii 1), (.slice (some ⟨bi3, 0, none⟩) 2 2), (.slice (some ⟨be3, 0, none⟩) 1 1), (.slice (some ⟨b_14, 0, none⟩) 1 1), (.slice none 0 0)] true, bx bi3 38 [(ii 1), (ii 5), (ii 10), (ii 0), (ii 0), (ii 2), (ii 2), (ii 20), (ii 0), (ii 0)] true, bx be3 43 [(ii 5), (ii 2), (ii 20), (ii 0), (ii 80), (ii 1), (.slice none 0 0)] true, bx b_6 32 [(ii 0), (ii 25), (ii 1), (ii 0), (.slice none 0 0), (ii 0), (ii 2), (ii 100), (ii 1), (.slice (some ⟨bi2, 0, none⟩) 2 2), (.slice (some ⟨be2, 0, none⟩) 1 1), (.slice none 0 0), (.slice none 0 0)] true, bx bi2 38 [(ii 1), (ii 5), (ii 10), (ii 0), (ii 0), (ii 2), (ii 2), (ii 20), (ii 0), (ii 0)] true, bx be2 43 [(ii 5), (ii 2), (ii 20), (ii 0), (ii 81), (ii 0), (.slice none 0 0)] true, bx b_2 32 [(ii 0), (ii 25), (ii 1), (ii 0), (.slice none 0 0), (ii 0), (ii 2), (ii 100), (ii 1), (.slice (some ⟨bi1, 0, none⟩) 2 2), (.slice (some ⟨be1, 0, none⟩) 1 1), (.slice none 0 0), (.slice none 0 0)] true, bx bi1 38 [(ii 1), (ii 5), (ii 10), (ii 0), (ii 0), (ii 2), (ii 2), (ii 20), (ii 0), (ii 0)] true, bx be1 43 [(ii 5), (ii 2), (ii 20), (ii 0), (ii 80), (ii 0), (.slice none 0 0)] true] (by kernel_rfl) (by kernel_rfl) (by kernel_rfl) rfl (by kernel_rfl) (by kernel_rfl) (by kernel_rfl) (by kernel_rfl) (by kernel_rfl) fun w_32 a H HP => ?_
 refine H.v 14 (.bool true) fun a H => ?_
 refine wpList_nil (then_normal (wp_seq (w_region ?_)))
 refine H.u 62 (.agg #[(ii 0), (ii 25), (ii 1), (ii 0), (.slice none 0 0), (ii 0), (ii 2), (ii 100), (ii 1), (.slice (some ⟨bi1, 0, none⟩) 2 2), (.slice (some ⟨be1, 0, none⟩) 1 1), (.slice none 0 0), (.slice none 0 0)]) (ex_loadN (vs := [(ii 0), (ii 25), (ii 1), (ii 0), (.slice none 0 0), (ii 0), (ii 2), (ii 100), (ii 1), (.slice (some ⟨bi1, 0, none⟩) 2 2), (.slice (some ⟨be1, 0, none⟩) 1 1), (.slice none 0 0), (.slice none 0 0)]) (by kernel_rfl) (by kernel_rfl) (by kernel_rfl) rfl (HP.cells 10 rfl 0 13 (by kernel_rfl))) fun a H => ?_
 refine H.call 63 (by kernel_rfl) (Eq.trans (by kernel_rfl : _ = (callFunc 20 #[(.agg #[(ii 0), (ii 25), (ii 1), (ii 0), (.slice none 0 0), (ii 0), (ii 2), (ii 100), (ii 1), (.slice (some ⟨bi1, 0, none⟩) 2 2), (.slice (some ⟨be1, 0, none⟩) 1 1), (.slice none 0 0), (.slice none 0 0)]), (ii 2)]).run Tryz.prog w_32) (Tryz.call20 _ _)) (entry_any (exPl bi1 be1 80 0 none 0 []) 2 w_32 (isEx (HP.at_ 11 rfl) (HP.at_ 12 rfl)) (by first | decide | exact (by decide : (0:Nat) ≤ 1000000000))) ?_
 rintro e w_35 ⟨Be_33, ce_34, rfl, _, hb⟩
 refine ⟨_, rfl, ?_⟩
 intro a H
 have HP := HP.next hb
 refine H.v 61 (.tuple #[(.agg #[(ii 0), (ii 0), (ii 0), (ii 0), (ii 0), (ii 0), (.slice Be_33 0 ce_34)]), (.bool false)]) fun a H => ?_
 refine H.v 64 (.agg #[(ii 0), (ii 0), (ii 0), (ii 0), (ii 0), (ii 0), (.slice Be_33 0 ce_34)]) fun a H => ?_
 refine H.v 65 (.bool false) fun a H => ?_
 refine H.alloc HP 15 (fun b => (pt b 0)) 43 [(ii 0), (ii 0), (ii 0), (ii 0), (ii 0), (ii 0), (.slice none 0 0)] (by kernel_rfl) (fun w => by kernel_rfl) fun b_36 w_37 a H HP => ?_
 refine H.store HP 0 b_36 0 7 43 _ true (.agg #[(ii 0), (ii 0), (ii 0), (ii 0), (ii 0), (ii 0), (.slice Be_33 0 ce_34)]) [bx b_36 43 [(ii 0), (ii 0), (ii 0), (ii 0), (ii 0), (ii 0), (.slice Be_33 0 ce_34)] true, bx b_30 38 [(ii 2), (ii 2), (ii 20), (ii 0), (ii 0)] true, bx b_26 32 (plL p2) true, bx b_21 32 (plL pd) true, bx b_14 47 [(ii 1), (ii 2), (ii 1), (ii 0), (ii 50), (ii 90), (ii 0)] true, bx b_11 32 [(ii 0), (ii 25), (ii 1), (ii 0), (.slice none 0 0), (ii 0), (ii 2), (ii 100), (ii 1), (.slice (some ⟨bi3, 0, none⟩) 2 2), (.slice (some ⟨be3, 0, none⟩) 1 1), (.slice (some ⟨b_14, 0, none⟩) 1 1), (.slice none 0 0)] true, bx bi3 38 [(ii 1), (ii 5), (ii 10), (ii 0), (ii 0), (ii 2), (ii 2), (ii 20), (ii 0), (ii 0)] true, bx be3 43 [(ii 5), (ii 2), (ii 20), (ii 0), (ii 80), (ii 1), (.slice none 0 0)] true, bx b_6 32 [(ii 0), (ii 25), (ii 1), (ii 0), (.slice none 0 0), (ii 0), (ii 2), (ii 100), (ii 1), (.slice (some ⟨bi2, 0, none⟩) 2 2), (.slice (some ⟨be2, 0, none⟩) 1 1), (.slice none 0 0), (.slice none 0 0)] true, bx bi2 38 [(ii 1), (ii 5), (ii 10), (ii 0), (ii 0), (ii 2), (ii 2), (ii 20), (ii 0), (ii 0)] true, bx be2 43 [(ii 5), (ii 2), (ii 20), (ii 0), (ii 81), (ii 0), (.slice none 0 0)] true, bx b_2 32 [(ii 0), (ii 25), (ii 1), (ii 0), (.slice none 0 0), (ii 0), (ii 2), (ii 100), (ii 1), (.slice (some ⟨bi1, 0, none⟩) 2 2), (.slice (some ⟨be1, 0, none⟩) 1 1), (.slice none 0 0), (.slice none 0 0)] true, bx bi1 38 [(ii 1), (ii 5), (ii 10), (ii 0), (ii 0), (ii 2), (ii 2), (ii 20), (ii 0), (ii 0)] true, bx be1 43 [(ii 5), (ii 2), (ii 20), (ii 0), (ii 80), (ii 0), (.slice none 0 0)] true] (by kernel_rfl) (by kernel_rfl) (by kernel_rfl) rfl (by kernel_rfl) (by kernel_rfl) (by kernel_rfl) (by kernel_rfl) (by kernel_rfl) fun w_38 a H HP => ?_
 refine H.v 16 (.bool false) fun a H => ?_
 refine wpList_nil (then_normal (wp_seq (w_region ?_)))
 refine H.u 67 (.agg #[(ii 0), (ii 25), (ii 1), (ii 0), (.slice none 0 0), (ii 0), (ii 2), (ii 100), (ii 1), (.slice (some ⟨bi1, 0, none⟩) 2 2), (.slice (some ⟨be1, 0, none⟩) 1 1), (.slice none 0 0), (.slice none 0 0)]) (ex_loadN (vs := [(ii 0), (ii 25), (ii 1), (ii 0), (.slice none 0 0), (ii 0), (ii 2), (ii 100), (ii 1), (.slice (some ⟨bi1, 0, none⟩) 2 2), (.slice (some ⟨be1, 0, none⟩) 1 1), (.slice none 0 0), (.slice none 0 0)]) (by kernel_rfl) (by kernel_rfl) (by kernel_rfl) rfl (HP.cells 11 rfl 0 13 (by kernel_rfl))) fun a H => ?_
 refine H.call 68 (by kernel_rfl) (Eq.trans (by kernel_rfl : _ = (callFunc 20 #[(.agg #[(ii 0), (ii 25), (ii 1), (ii 0), (.slice none 0 0), (ii 0), (ii 2), (ii 100), (ii 1), (.slice (some ⟨bi1, 0, none⟩) 2 2), (.slice (some ⟨be1, 0, none⟩) 1 1), (.slice none 0 0), (.slice none 0 0)]), (ii 5)]).run Tryz.prog w_38) (Tryz.call20 _ _)) (entry_any (exPl bi1 be1 80 0 none 0 []) 5 w_38 (isEx (HP.at_ 12 rfl) (HP.at_ 13 rfl)) (by first | decide | exact (by decide : (0:Nat) ≤ 1000000000))) ?_
 rintro e w_41 ⟨Be_39, ce_40, rfl, _, hb⟩
 refine ⟨_, rfl, ?_⟩
 intro a H
 have HP := HP.next hb
 refine H.v 66 (.tuple #[(.agg #[(ii 5), (ii 2), (ii 20), (ii 0), (ii 80), (ii 0), (.slice Be_39 0 ce_40)]), (.bool true)]) fun a H => ?_
 refine H.v 69 (.agg #[(ii 5), (ii 2), (ii 20), (ii 0), (ii 80), (ii 0), (.slice Be_39 0 ce_40)]) fun a H => ?_
 refine H.v 70 (.bool true) fun a H => ?_
 refine H.alloc HP 17 (fun b => (pt b 0)) 43 [(ii 0), (ii 0), (ii 0), (ii 0), (ii 0), (ii 0), (.slice none 0 0)] (by kernel_rfl) (fun w => by kernel_rfl) fun b_42 w_43 a H HP => ?_
 refine H.store HP 0 b_42 0 7 43 _ true (.agg #[(ii 5), (ii 2), (ii 20), (ii 0), (ii 80), (ii 0), (.slice Be_39 0 ce_40)]) [bx b_42 43 [(ii 5), (ii 2), (ii 20), (ii 0), (ii 80), (ii 0), (.slice Be_39 0 ce_40)] true, bx b_36 43 [(ii 0), (ii 0), (ii 0), (ii 0), (ii 0), (ii 0), (.slice Be_33 0 ce_34)] true, bx b_30 38 [(ii 2), (ii 2), (ii 20), (ii 0), (ii 0)] true, bx b_26 32 (plL p2) true, bx b_21 32 (plL pd) true, bx b_14 47 [(ii 1), (ii 2), (ii 1), (ii 0), (ii 50), (ii 90), (ii 0)] true, bx b_11 32 [(ii 0), (ii 25), (ii 1), (ii 0), (.slice none 0 0), (ii 0), (ii 2), (ii 100), (ii 1), (.slice (some ⟨bi3, 0, none⟩) 2 2), (.slice (some ⟨be3, 0, none⟩) 1 1), (.slice (some ⟨b_14, 0, none⟩) 1 1), (.slice none 0 0)] true, bx bi3 38 [(ii 1), (ii 5), (ii 10), (ii 0), (ii 0), (ii 2), (ii 2), (ii 20), (ii 0), (ii 0)] true, bx be3 43 [(ii 5), (ii 2), (ii 20), (ii 0), (ii 80), (ii 1), (.slice none 0 0)] true, bx b_6 32 [(ii 0), (ii 25), (ii 1), (ii 0), (.slice none 0 0), (ii 0), (ii 2), (ii 100), (ii 1), (.slice (some ⟨bi2, 0, none⟩) 2 2), (.slice (some ⟨be2, 0, none⟩) 1 1), (.slice none 0 0), (.slice none 0 0)] true, bx bi2 38 [(ii 1), (ii 5), (ii 10), (ii 0), (ii 0), (ii 2), (ii 2), (ii 20), (ii 0), (ii 0)] true, bx be2 43 [(ii 5), (ii 2), (ii 20), (ii 0), (ii 81), (ii 0), (.slice none 0 0)] true, bx b_2 32 [(ii 0), (ii 25), (ii 1), (ii 0), (.slice none 0 0), (ii 0), (ii 2), (ii 100), (ii 1), (.slice (some ⟨bi1, 0, none⟩) 2 2), (.slice (some ⟨be1, 0, none⟩) 1 1), (.slice none 0 0), (.slice none 0 0)] true, bx bi1 38 [(ii 1), (ii 5), (ii 10), (ii 0), (ii 0), (ii 2), (ii 2), (ii 20), (ii 0), (ii 0)] true, bx be1 43 [(ii 5), (ii 2), (ii 20), (ii 0), (ii 80), (ii 0), (.slice none 0 0)] true] (by kernel_rfl) (by kernel_rfl) (by kernel_rfl) rfl (by kernel_rfl) (by kernel_rfl) (by kernel_rfl) (by kernel_rfl) (by kernel_rfl) fun w_44 a H HP => ?_
 refine H.v 18 (.bool true) fun a H => ?_
 refine wpList_nil (then_normal (wp_seq (w_region ?_)))
 refine H.u 72 (.agg #[(ii 0), (ii 25), (ii 1), (ii 0), (.slice none 0 0), (ii 0), (ii 2), (ii 100), (ii 1), (.slice (some ⟨bi3, 0, none⟩) 2 2), (.slice (some ⟨be3, 0, none⟩) 1 1), (.slice (some ⟨b_14, 0, none⟩) 1 1), (.slice none 0 0)]) (ex_loadN (vs := [(ii 0), (ii 25), (ii 1), (ii 0), (.slice none 0 0), (ii 0), (ii 2), (ii 100), (ii 1), (.slice (some ⟨bi3, 0, none⟩) 2 2), (.slice (some ⟨be3, 0, none⟩) 1 1), (.slice (some ⟨b_14, 0, none⟩) 1 1), (.slice none 0 0)]) (by kernel_rfl) (by kernel_rfl) (by kernel_rfl) rfl (HP.cells 6 rfl 0 13 (by kernel_rfl))) fun a H => ?_
 refine H.call 73 (by kernel_rfl) (Eq.trans (by kernel_rfl : _ = (callFunc 22 #[(.agg #[(ii 0), (ii 25), (ii 1), (ii 0), (.slice none 0 0), (ii 0), (ii 2), (ii 100), (ii 1), (.slice (some ⟨bi3, 0, none⟩) 2 2), (.slice (some ⟨be3, 0, none⟩) 1 1), (.slice (some ⟨b_14, 0, none⟩) 1 1), (.slice none 0 0)]), (ii 1)]).run Tryz.prog w_44) (Tryz.call22 _ _)) (booking_any (exPl bi3 be3 80 1 (some ⟨b_14, 0, none⟩) 1 [⟨1, 2, 1, 0, 50, 90, 0⟩]) 1 w_44 (isExB (HP.at_ 7 rfl) (HP.at_ 8 rfl) (HP.at_ 5 rfl))) ?_
 rintro e w_45 ⟨rfl, hb⟩
 refine ⟨_, rfl, ?_⟩
 intro a H
 have HP := HP.next hb
 refine H.v 71 (.tuple #[(.agg #[(ii 1), (ii 2), (ii 1), (ii 0), (ii 50), (ii 90), (ii 0)]), (.bool true)]) fun a H => ?_
 refine H.v 74 (.agg #[(ii 1), (ii 2), (ii 1), (ii 0), (ii 50), (ii 90), (ii 0)]) fun a H => ?_
 refine H.v 75 (.bool true) fun a H => ?_
 refine H.alloc HP 19 (fun b => (pt b 0)) 47 [(ii 0), (ii 0), (ii 0), (ii 0), (ii 0), (ii 0), (ii 0)] (by kernel_rfl) (fun w => by kernel_rfl) fun b_46 w_47 a H HP => ?_
 refine H.store HP 0 b_46 0 7 47 _ true (.agg #[(ii 1), (ii 2), (ii 1), (ii 0), (ii 50), (ii 90), (ii 0)]) [bx b_46 47 [(ii 1), (ii 2), (ii 1), (ii 0), (ii 50), (ii 90), (ii 0)] true, bx b_42 43 [(ii 5), (ii 2), (ii 20), (ii 0), (ii 80), (ii 0), (.slice Be_39 0 ce_40)] true, bx b_36 43 [(ii 0), (ii 0), (ii 0), (ii 0), (ii 0), (ii 0), (.slice Be_33 0 ce_34)] true, bx b_30 38 [(ii 2), (ii 2), (ii 20), (ii 0), (ii 0)] true, bx b_26 32 (plL p2) true, bx b_21 32 (plL pd) true, bx b_14 47 [(ii 1), (ii 2), (ii 1), (ii 0), (ii 50), (ii 90), (ii 0)] true, bx b_11 32 [(ii 0), (ii 25), (ii 1), (ii 0), (.slice none 0 0), (ii 0), (ii 2), (ii 100), (ii 1), (.slice (some ⟨bi3, 0, none⟩) 2 2), (.slice (some ⟨be3, 0, none⟩) 1 1), (.slice (some ⟨b_14, 0, none⟩) 1 1), (.slice none 0 0)] true, bx bi3 38 [(ii 1), (ii 5), (ii 10), (ii 0), (ii 0), (ii 2), (ii 2), (ii 20), (ii 0), (ii 0)] true, bx be3 43 [(ii 5), (ii 2), (ii 20), (ii 0), (ii 80), (ii 1), (.slice none 0 0)] true, bx b_6 32 [(ii 0), (ii 25), (ii 1), (ii 0), (.slice none 0 0), (ii 0), (ii 2), (ii 100), (ii 1), (.slice (some ⟨bi2, 0, none⟩) 2 2), (.slice (some ⟨be2, 0, none⟩) 1 1), (.slice none 0 0), (.slice none 0 0)] true, bx bi2 38 [(ii 1), (ii 5), (ii 10), (ii 0), (ii 0), (ii 2), (ii 2), (ii 20), (ii 0), (ii 0)] true, bx be2 43 [(ii 5), (ii 2), (ii 20), (ii 0), (ii 81), (ii 0), (.slice none 0 0)] true, bx b_2 32 [(ii 0), (ii 25), (ii 1), (ii 0), (.slice none 0 0), (ii 0), (ii 2), (ii 100), (ii 1), (.slice (some ⟨bi1, 0, none⟩) 2 2), (.slice (some ⟨be1, 0, none⟩) 1 1), (.slice none 0 0), (.slice none 0 0)] true, bx bi1 38 [(ii 1), (ii 5), (ii 10), (ii 0), (ii 0), (ii 2), (ii 2), (ii 20), (ii 0), (ii 0)] true, bx be1 43 [(ii 5), (ii 2), (ii 20), (ii 0), (ii 80), (ii 0), (.slice none 0 0)] true] (by kernel_rfl) (by kernel_rfl) (by kernel_rfl) rfl (by kernel_rfl) (by kernel_rfl) (by kernel_rfl) (by kernel_rfl) (by kernel_rfl) fun w_48 a H HP => ?_
 refine H.v 20 (.bool true) fun a H => ?_
 refine wpList_nil (then_normal (wp_seq (w_region ?_)))
 refine H.u 76 (.agg #[(ii 0), (ii 25), (ii 1), (ii 0), (.slice none 0 0), (ii 0), (ii 2), (ii 100), (ii 1), (.slice (some ⟨bi1, 0, none⟩) 2 2), (.slice (some ⟨be1, 0, none⟩) 1 1), (.slice none 0 0), (.slice none 0 0)]) (ex_loadN (vs := [(ii 0), (ii 25), (ii 1), (ii 0), (.slice none 0 0), (ii 0), (ii 2), (ii 100), (ii 1), (.slice (some ⟨bi1, 0, none⟩) 2 2), (.slice (some ⟨be1, 0, none⟩) 1 1), (.slice none 0 0), (.slice none 0 0)]) (by kernel_rfl) (by kernel_rfl) (by kernel_rfl) rfl (HP.cells 13 rfl 0 13 (by kernel_rfl))) fun a H => ?_
 refine H.call 77 (by kernel_rfl) (Eq.trans (by kernel_rfl : _ = (callFunc 14 #[(.agg #[(ii 0), (ii 25), (ii 1), (ii 0), (.slice none 0 0), (ii 0), (ii 2), (ii 100), (ii 1), (.slice (some ⟨bi1, 0, none⟩) 2 2), (.slice (some ⟨be1, 0, none⟩) 1 1), (.slice none 0 0), (.slice none 0 0)])]).run Tryz.prog w_48) (Tryz.call14 _ _)) ((by have hh := valid_any (exPl bi1 be1 80 0 none 0 []) w_48 (isEx (HP.at_ 14 rfl) (HP.at_ 15 rfl)) (hL.below HP.bl).rates; rw [show validPl (exPl bi1 be1 80 0 none 0 []) = true from by kernel_rfl] at hh; exact hh)) ?_
 rintro e w_49 ⟨rfl, hb⟩
 refine ⟨_, rfl, ?_⟩
 intro a H
 have HP := HP.next hb
 refine H.v 78 (.bool true) fun a H => ?_
 refine H.u 79 (.agg #[(ii 0), (ii 25), (ii 1), (ii 0), (.slice none 0 0), (ii 0), (ii 2), (ii 100), (ii 1), (.slice (some ⟨bi2, 0, none⟩) 2 2), (.slice (some ⟨be2, 0, none⟩) 1 1), (.slice none 0 0), (.slice none 0 0)]) (ex_loadN (vs := [(ii 0), (ii 25), (ii 1), (ii 0), (.slice none 0 0), (ii 0), (ii 2), (ii 100), (ii 1), (.slice (some ⟨bi2, 0, none⟩) 2 2), (.slice (some ⟨be2, 0, none⟩) 1 1), (.slice none 0 0), (.slice none 0 0)]) (by kernel_rfl) (by kernel_rfl) (by kernel_rfl) rfl (HP.cells 10 rfl 0 13 (by kernel_rfl))) fun a H => ?_
 refine H.call 80 (by kernel_rfl) (Eq.trans (by kernel_rfl : _ = (callFunc 14 #[(.agg #[(ii 0), (ii 25), (ii 1), (ii 0), (.slice none 0 0), (ii 0), (ii 2), (ii 100), (ii 1), (.slice (some ⟨bi2, 0, none⟩) 2 2), (.slice (some ⟨be2, 0, none⟩) 1 1), (.slice none 0 0), (.slice none 0 0)])]).run Tryz.prog w_49) (Tryz.call14 _ _)) ((by have hh := valid_any (exPl bi2 be2 81 0 none 0 []) w_49 (isEx (HP.at_ 11 rfl) (HP.at_ 12 rfl)) (hL.below HP.bl).rates; rw [show validPl (exPl bi2 be2 81 0 none 0 []) = false from by kernel_rfl] at hh; exact hh)) ?_
 rintro e w_50 ⟨rfl, hb⟩
 refine ⟨_, rfl, ?_⟩
 intro a H
 have HP := HP.next hb
 refine H.v 81 (.bool true) fun a H => ?_
 refine H.v 82 (.bool true) fun a H => ?_
 refine H.v 83 (.bool true) fun a H => ?_
 refine H.v 84 (.bool true) fun a H => ?_
 refine H.v 85 (.bool true) fun a H => ?_
 refine H.v 86 (.bool true) fun a H => ?_
 refine H.u 87 (.agg #[(ii 0), (ii 25), (ii 1), (ii 0), (.slice none 0 0), (ii 0), (ii 2), (ii 100), (ii 1), (.slice (some ⟨bi3, 0, none⟩) 2 2), (.slice (some ⟨be3, 0, none⟩) 1 1), (.slice (some ⟨b_14, 0, none⟩) 1 1), (.slice none 0 0)]) (ex_loadN (vs := [(ii 0), (ii 25), (ii 1), (ii 0), (.slice none 0 0), (ii 0), (ii 2), (ii 100), (ii 1), (.slice (some ⟨bi3, 0, none⟩) 2 2), (.slice (some ⟨be3, 0, none⟩) 1 1), (.slice (some ⟨b_14, 0, none⟩) 1 1), (.slice none 0 0)]) (by kernel_rfl) (by kernel_rfl) (by kernel_rfl) rfl (HP.cells 7 rfl 0 13 (by kernel_rfl))) fun a H => ?_
 refine H.call 88 (by kernel_rfl) (Eq.trans (by kernel_rfl : _ = (callFunc 14 #[(.agg #[(ii 0), (ii 25), (ii 1), (ii 0), (.slice none 0 0), (ii 0), (ii 2), (ii 100), (ii 1), (.slice (some ⟨bi3, 0, none⟩) 2 2), (.slice (some ⟨be3, 0, none⟩) 1 1), (.slice (some ⟨b_14, 0, none⟩) 1 1), (.slice none 0 0)])]).run Tryz.prog w_50) (Tryz.call14 _ _)) ((by have hh := valid_any (exPl bi3 be3 80 1 (some ⟨b_14, 0, none⟩) 1 [⟨1, 2, 1, 0, 50, 90, 0⟩]) w_50 (isExB (HP.at_ 8 rfl) (HP.at_ 9 rfl) (HP.at_ 6 rfl)) (hL.below HP.bl).rates; rw [show validPl (exPl bi3 be3 80 1 (some ⟨b_14, 0, none⟩) 1 [⟨1, 2, 1, 0, 50, 90, 0⟩]) = false from by kernel_rfl] at hh; exact hh)) ?_
 rintro e w_51 ⟨rfl, hb⟩
 refine ⟨_, rfl, ?_⟩
 intro a H
 have HP := HP.next hb
 refine H.v 89 (.bool true) fun a H => ?_
 refine H.v 90 (.bool true) fun a H => ?_
 refine H.v 91 (.bool true) fun a H => ?_
 refine H.v 92 (ii 0) fun a H => ?_
 refine H.v 93 (.bool true) fun a H => ?_
 refine H.v 94 (.bool true) fun a H => ?_
 refine H.v 95 (.bool true) fun a H => ?_
 refine H.v 96 (ii 0) fun a H => ?_
 refine H.v 97 (.bool true) fun a H => ?_
 refine H.v 98 (.bool true) fun a H => ?_
 refine H.v 99 (.bool true) fun a H => ?_
 refine H.u 100 (.agg #[(ii 0), (ii 25), (ii 1), (ii 0), (.slice none 0 0), (ii 0), (ii 2), (ii 100), (ii 1), (.slice (some ⟨bi1, 0, none⟩) 2 2), (.slice (some ⟨be1, 0, none⟩) 1 1), (.slice none 0 0), (.slice none 0 0)]) (ex_loadN (vs := [(ii 0), (ii 25), (ii 1), (ii 0), (.slice none 0 0), (ii 0), (ii 2), (ii 100), (ii 1), (.slice (some ⟨bi1, 0, none⟩) 2 2), (.slice (some ⟨be1, 0, none⟩) 1 1), (.slice none 0 0), (.slice none 0 0)]) (by kernel_rfl) (by kernel_rfl) (by kernel_rfl) rfl (HP.cells 13 rfl 0 13 (by kernel_rfl))) fun a H => ?_
 refine H.u 101 (plV pd) (ex_loadN (vs := (plL pd)) (by kernel_rfl) (by kernel_rfl) (by kernel_rfl) rfl (HP.cells 5 rfl 0 13 (by kernel_rfl))) fun a H => ?_
 refine H.call 102 (by kernel_rfl) (Eq.trans (by kernel_rfl : _ = (callFunc 16 #[(.agg #[(ii 0), (ii 25), (ii 1), (ii 0), (.slice none 0 0), (ii 0), (ii 2), (ii 100), (ii 1), (.slice (some ⟨bi1, 0, none⟩) 2 2), (.slice (some ⟨be1, 0, none⟩) 1 1), (.slice none 0 0), (.slice none 0 0)]), (plV pd)]).run Tryz.prog w_51) (Tryz.call16 _ _)) ((by have hh := same_any (exPl bi1 be1 80 0 none 0 []) pd w_51 (isEx (HP.at_ 14 rfl) (HP.at_ 15 rfl)) (HP.fact 0 rfl : IsPln _ pd); rw [show decide ((exPl bi1 be1 80 0 none 0 []).nv = pd.nv) = true from (by rw [hnv]; exact decide_eq_true rfl)] at hh; exact hh)) ?_
 rintro e w_52 ⟨rfl, hb⟩
 refine ⟨_, rfl, ?_⟩
 intro a H
 have HP := HP.next hb
 refine H.v 103 (.bool true) fun a H => ?_
 refine H.v 104 (.bool true) fun a H => ?_
 refine H.u 105 (.agg #[(ii 0), (ii 25), (ii 1), (ii 0), (.slice none 0 0), (ii 0), (ii 2), (ii 100), (ii 1), (.slice (some ⟨bi1, 0, none⟩) 2 2), (.slice (some ⟨be1, 0, none⟩) 1 1), (.slice none 0 0), (.slice none 0 0)]) (ex_loadN (vs := [(ii 0), (ii 25), (ii 1), (ii 0), (.slice none 0 0), (ii 0), (ii 2), (ii 100), (ii 1), (.slice (some ⟨bi1, 0, none⟩) 2 2), (.slice (some ⟨be1, 0, none⟩) 1 1), (.slice none 0 0), (.slice none 0 0)]) (by kernel_rfl) (by kernel_rfl) (by kernel_rfl) rfl (HP.cells 13 rfl 0 13 (by kernel_rfl))) fun a H => ?_
 refine H.u 106 (.agg #[(ii 0), (ii 25), (ii 1), (ii 0), (.slice none 0 0), (ii 0), (ii 2), (ii 100), (ii 1), (.slice (some ⟨bi2, 0, none⟩) 2 2), (.slice (some ⟨be2, 0, none⟩) 1 1), (.slice none 0 0), (.slice none 0 0)]) (ex_loadN (vs := [(ii 0), (ii 25), (ii 1), (ii 0), (.slice none 0 0), (ii 0), (ii 2), (ii 100), (ii 1), (.slice (some ⟨bi2, 0, none⟩) 2 2), (.slice (some ⟨be2, 0, none⟩) 1 1), (.slice none 0 0), (.slice none 0 0)]) (by kernel_rfl) (by kernel_rfl) (by kernel_rfl) rfl (HP.cells 10 rfl 0 13 (by kernel_rfl))) fun a H => ?_
 refine H.call 107 (by kernel_rfl) (Eq.trans (by kernel_rfl : _ = (callFunc 16 #[(.agg #[(ii 0), (ii 25), (ii 1), (ii 0), (.slice none 0 0), (ii 0), (ii 2), (ii 100), (ii 1), (.slice (some ⟨bi1, 0, none⟩) 2 2), (.slice (some ⟨be1, 0, none⟩) 1 1), (.slice none 0 0), (.slice none 0 0)]), (.agg #[(ii 0), (ii 25), (ii 1), (ii 0), (.slice none 0 0), (ii 0), (ii 2), (ii 100), (ii 1), (.slice (some ⟨bi2, 0, none⟩) 2 2), (.slice (some ⟨be2, 0, none⟩) 1 1), (.slice none 0 0), (.slice none 0 0)])]).run Tryz.prog w_52) (Tryz.call16 _ _)) ((by have hh := same_any (exPl bi1 be1 80 0 none 0 []) (exPl bi2 be2 81 0 none 0 []) w_52 (isEx (HP.at_ 14 rfl) (HP.at_ 15 rfl)) (isEx (HP.at_ 11 rfl) (HP.at_ 12 rfl)); rw [show decide ((exPl bi1 be1 80 0 none 0 []).nv = (exPl bi2 be2 81 0 none 0 []).nv) = false from (by kernel_rfl)] at hh; exact hh)) ?_
 rintro e w_53 ⟨rfl, hb⟩
 refine ⟨_, rfl, ?_⟩
 intro a H
 have HP := HP.next hb
 refine H.v 108 (.bool true) fun a H => ?_
 refine H.v 109 (.bool true) fun a H => ?_
 refine H.v 110 (.bool true) fun a H => ?_
 refine H.v 111 (ii 80) fun a H => ?_
 refine H.v 112 (.bool true) fun a H => ?_
 refine H.v 113 (.bool true) fun a H => ?_
 refine H.v 114 (.bool true) fun a H => ?_
 refine H.v 115 (ii 10) fun a H => ?_
 refine H.v 116 (.bool true) fun a H => ?_
 refine H.v 117 (.bool true) fun a H => ?_
 refine H.v 118 (.bool true) fun a H => ?_
 refine H.v 119 (.bool true) fun a H => ?_
 refine H.v 120 (.bool true) fun a H => ?_
 refine H.v 121 (.bool true) fun a H => ?_
 refine H.v 122 (pt b_30 2) fun a H => ?_
 refine H.u 123 (ii 20) (ex_l1 (HP.cell 3 rfl 2 rfl)) fun a H => ?_
 refine H.v 124 (.bool true) fun a H => ?_
 refine H.v 125 (.bool true) fun a H => ?_
 refine H.v 126 (.bool true) fun a H => ?_
 refine H.v 127 (.bool false) fun a H => ?_
 refine H.v 128 (.bool true) fun a H => ?_
 refine H.v 129 (.bool true) fun a H => ?_
 refine H.v 130 (.bool true) fun a H => ?_
 refine H.v 131 (.bool true) fun a H => ?_
 refine H.v 132 (.bool true) fun a H => ?_
 refine H.v 133 (.bool true) fun a H => ?_
 refine H.v 134 (pt b_42 4) fun a H => ?_
 refine H.u 135 (ii 80) (ex_l1 (HP.cell 1 rfl 4 rfl)) fun a H => ?_
 refine H.v 136 (.bool true) fun a H => ?_
 refine H.v 137 (.bool true) fun a H => ?_
 refine H.v 138 (.bool true) fun a H => ?_
 refine H.v 139 (.bool true) fun a H => ?_
 refine H.v 140 (.bool true) fun a H => ?_
 refine H.v 141 (.bool true) fun a H => ?_
 refine H.v 142 (pt b_46 5) fun a H => ?_
 refine H.u 143 (ii 90) (ex_l1 (HP.cell 0 rfl 5 rfl)) fun a H => ?_
 refine H.v 144 (.bool true) fun a H => ?_
 refine H.v 145 (.bool true) fun a H => ?_
 refine H.v 0 (.bool true) fun a H => ?_
 refine wpList_nil (then_normal (wp_ret ?_))
 refine H.ret1 (fn := Tryz.f12) Tryz.results12 (RV.tmp_ (v := (.bool true)) (by kernel_rfl)) ?_
 exact ⟨rfl, HP.bl⟩
end Go.Proofs.YteeillphhiaopaaGreatDoor
namespace Go.Proofs.YteeillphhiaopaaGreatDoor
open Go.ChangeShapes Go.WideShapes Go.ChangeAt Go.RowKit
set_option linter.unusedVariables false
structure PlFit (p : Pln) : Prop where
  sh : p.sh.length ≤ p.sc
  its : p.its.length ≤ p.ic
  bs : p.bs.length ≤ p.bc
  cs : p.cs.length ≤ p.cc
  en : ∀ e ∈ p.es, e.al.length ≤ e.c ∧ (e.A = none → e.c = 0)
structure Small (q : Pln) : Prop where
  sh : q.sh.length ≤ 45
  its : q.its.length ≤ 30
  es : q.es.length ≤ 30
  bs : q.bs.length ≤ 20
  cs : q.cs.length ≤ 20
  al : ∀ e ∈ q.es, e.al.length ≤ 9
  cap : q.its.length ≤ q.ic ∧ q.es.length ≤ q.ec ∧ q.bs.length ≤ q.bc ∧ q.cs.length ≤ q.cc
theorem small_of {p q : Pln} (h : q.nv = shN p.nv) (hf : PlFit p) (hc : (q.SA, q.sc, q.IA, q.ic, q.BA, q.bc, q.CA, q.cc) = (p.SA, p.sc, p.IA, p.ic, p.BA, p.bc, p.CA, p.cc) ∧ q.es.length ≤ q.ec ∧ (q.EA = none → q.ec = 0)) : Small q := by
  have e1 : q.sh = p.sh.take 45 := congrArg PlN.sh h
  have e2 : q.its = p.its.take 30 := congrArg PlN.its h
  have e3 : q.es.map Ent.nv = ((p.es.map Ent.nv).take 30).map sh9N := congrArg PlN.es h
  have e4 : q.bs = p.bs.take 20 := congrArg PlN.bs h
  have e5 : q.cs = p.cs.take 20 := congrArg PlN.cs h
  have l3 := congrArg List.length e3
  simp only [List.length_map, List.length_take] at l3
  simp only [Prod.mk.injEq] at hc
  obtain ⟨⟨_, _, _, c1, _, c2, _, c3⟩, c4, _⟩ := hc
  refine ⟨by rw [e1, tl_]; omega, by rw [e2, tl_]; omega, by omega, by rw [e4, tl_]; omega, by rw [e5, tl_]; omega, fun e he => ?_, by rw [e2, tl_, c1]; have := hf.its; omega, c4, by rw [e4, tl_, c2]; have := hf.bs; omega, by rw [e5, tl_, c3]; have := hf.cs; omega⟩
  have hm : e.nv ∈ q.es.map Ent.nv := List.mem_map_of_mem he
  rw [e3] at hm
  obtain ⟨x, _, hx⟩ := List.mem_map.1 hm
  have hx' := congrArg EnN.al hx
  have : e.al = x.al.take 9 := hx'.symm
  rw [this, tl_]
  omega
theorem rowFp_take {n m : Nat} {A : Option Addr} {j : Nat} (h : rowFp n A j) (hn : n ≤ m) : rowFp m A j := ⟨Nat.lt_of_lt_of_le h.1 hn, h.2⟩
theorem short_law (p : Pln) (w0 w : World) (hpl : IsPln w0 p) (hb : Below w0.heap.size w0 w) (hf : PlFit p) :
    Calls Tryz.prog 13 #[plV p] w fun e w' => ∃ q : Pln, e = .returned (plV q) ∧ q.nv = shN p.nv ∧ IsPln w' q ∧ (∀ j, q.fp j → j < w0.heap.size ∨ w.heap.size ≤ j) ∧ Small q ∧ Below w.heap.size w w' := by
  refine (short_any p w (hpl.below hb) ⟨hf.sh, hf.its, hf.bs, hf.cs⟩ hf.en).mono ?_
  rintro e w' ⟨q, rfl, hnv, hq, ⟨hen, hc⟩, hb'⟩
  refine ⟨q, rfl, hnv, hq, fun j hj => ?_, small_of hnv hf hc, hb'⟩
  have e1 : q.sh = p.sh.take 45 := congrArg PlN.sh hnv
  have e2 : q.its = p.its.take 30 := congrArg PlN.its hnv
  have e4 : q.bs = p.bs.take 20 := congrArg PlN.bs hnv
  have e5 : q.cs = p.cs.take 20 := congrArg PlN.cs hnv
  have hc1 := hc.1
  simp only [Prod.mk.injEq] at hc1
  obtain ⟨c1, _, c2, _, c3, _, c4, _⟩ := hc1
  rcases hj with h | h | h | h | h
  · rw [c1, e1] at h; exact .inl (hpl.lt j (.inl (rowFp_take h (by rw [tl_]; omega))))
  · rw [c2, e2] at h; exact .inl (hpl.lt j (.inr (.inl (rowFp_take h (by rw [tl_]; omega)))))
  · exact .inr (hen j h)
  · rw [c3, e4] at h; exact .inl (hpl.lt j (.inr (.inr (.inr (.inl (rowFp_take h (by rw [tl_]; omega)))))))
  · rw [c4, e5] at h; exact .inl (hpl.lt j (.inr (.inr (.inr (.inr (rowFp_take h (by rw [tl_]; omega)))))))
theorem Hp.keepQ {w0 w w' : World} {L : List HB} {K : List FK} (H : Hp w0 w L K) (hb : Below w.heap.size w w') (hL : (L.all fun x => x.fresh) = true) (q : Pln) (hq : IsPln w' q) (hfr : ∀ j, q.fp j → j < w0.heap.size ∨ w.heap.size ≤ j) : Hp w0 w' L (plnK q :: K) :=
  (H.next hb).keepF (plnK q) hq (plnK_ok q) fun j hj => ⟨hq.lt j hj, fun x hx hxk => by
    rcases hfr j hj with h | h
    · have := H.fresh x hx (List.all_eq_true.1 hL x hx) j hxk; omega
    · have := H.lt x hx j hxk; omega⟩
theorem encV_some {p : Pln} (h : validPl p = true) : encV p = .tuple #[.string (bstr (encInts (numsP p))), .int .i64 0] := by
  unfold encV; rw [if_pos h, List.nil_append]
theorem encV_none {p : Pln} (h : validPl p = false) : encV p = .tuple #[.string (bstr []), .int .i64 80] := by
  unfold encV; rw [h]; rfl
end Go.Proofs.YteeillphhiaopaaGreatDoor
namespace Go.Proofs.YteeillphhiaopaaGreatDoor
open Go.ChangeShapes Go.WideShapes Go.ChangeAt Go.RowKit
set_option linter.unusedVariables false
def enS (v : PlN) : List UInt8 := encInts (numsN v)
theorem encV_on {p : Pln} {v : PlN} (h : p.nv = v) (hv : validN v = true) : encV p = .tuple #[.string (bstr (enS v)), .int .i64 0] := by
  subst h
  rw [encV_some (by rw [validPl_nv]; exact hv), numsP_nv]
  rfl
theorem encV_off {p : Pln} {v : PlN} (h : p.nv = v) (hv : validN v = false) : encV p = .tuple #[.string (bstr []), .int .i64 80] := by
  subst h
  exact encV_none (by rw [validPl_nv]; exact hv)
theorem valid_on {p : Pln} {v : PlN} {b : Bool} (h : p.nv = v) (hv : validN v = b) : validPl p = b := by subst h; rw [validPl_nv]; exact hv
theorem flat_le {α : Type} {f : α → List Int} {k : Nat} : ∀ {l : List α}, (∀ x ∈ l, (f x).length ≤ k) → (l.flatMap f).length ≤ k * l.length
  | [], _ => Nat.zero_le _
  | x :: l, h => by
    have h1 := h x List.mem_cons_self
    have h2 := flat_le (l := l) fun y hy => h y (List.mem_cons_of_mem _ hy)
    rw [List.flatMap_cons, List.length_append, List.length_cons, Nat.mul_succ]
    omega
theorem enS_len (v : PlN) : (enS (shN v)).length ≤ 20000 := by
  have h0 := encInts_len (numsN (shN v))
  have l1 : ((shN v).sh.flatMap altNs).length ≤ 2 * 45 := Nat.le_trans (flat_le (k := 2) fun x _ => Nat.le_refl _) (Nat.mul_le_mul_left _ (by show (v.sh.take 45).length ≤ 45; rw [tl_]; omega))
  have l2 : ((shN v).its.flatMap itNs).length ≤ 5 * 30 := Nat.le_trans (flat_le (k := 5) fun x _ => Nat.le_refl _) (Nat.mul_le_mul_left _ (by show (v.its.take 30).length ≤ 30; rw [tl_]; omega))
  have l3 : ((shN v).es.flatMap enNn).length ≤ 25 * 30 := Nat.le_trans (flat_le (k := 25) fun x hx => by
    obtain ⟨y, _, rfl⟩ := List.mem_map.1 hx
    have : ((sh9N y).al.flatMap altNs).length ≤ 2 * 9 := Nat.le_trans (flat_le (k := 2) fun x _ => Nat.le_refl _) (Nat.mul_le_mul_left _ (by show (y.al.take 9).length ≤ 9; rw [tl_]; omega))
    unfold enNn
    simp only [List.length_append, List.length_cons, List.length_nil]
    omega) (Nat.mul_le_mul_left _ (by show ((v.es.take 30).map sh9N).length ≤ 30; rw [List.length_map, tl_]; omega))
  have l4 : ((shN v).bs.flatMap bkNs).length ≤ 7 * 20 := Nat.le_trans (flat_le (k := 7) fun x _ => Nat.le_refl _) (Nat.mul_le_mul_left _ (by show (v.bs.take 20).length ≤ 20; rw [tl_]; omega))
  have l5 : ((shN v).cs.flatMap clNs).length ≤ 8 * 20 := Nat.le_trans (flat_le (k := 8) fun x _ => Nat.le_refl _) (Nat.mul_le_mul_left _ (by show (v.cs.take 20).length ≤ 20; rw [tl_]; omega))
  have h1 : (numsN (shN v)).length ≤ 1400 := by
    unfold numsN
    simp only [List.length_append, List.length_cons, List.length_nil]
    omega
  unfold enS
  omega
theorem encE {v : PlN} : encInts (numsP v.pl) = enS v := by rw [numsP_nv, PlN.nv_pl]; rfl
theorem vE {v : PlN} (h : validN v = true) : validPl v.pl = true := by rw [validPl_nv, PlN.nv_pl]; exact h
theorem dec_on {v : PlN} (h : validN v = true) : decN (enS v) = (v, 0) := by
  have := dec_enc (vE h)
  rw [encE, PlN.nv_pl] at this
  exact this
theorem dec_longer {v : PlN} (h : validN v = true) {b : List UInt8} (hb : b ≠ []) : decN (enS v ++ b) = (zeroN, 10) := by
  have := dec_more (vE h) hb
  rw [encE] at this
  exact this
theorem dec_shorter {v : PlN} (h : validN v = true) {k : Nat} (hk : k < (enS v).length) : decN ((enS v).take k) = (zeroN, 10) :=
  dec_less (p := v.pl) (t := (enS v).take k) (u := (enS v).drop k) (vE h) (by rw [List.take_append_drop, encE]) fun h => by
    have := congrArg List.length h
    simp at this
    omega
theorem enS_ne (v : PlN) : enS v ≠ [] := by have := enc_some v.pl; rw [encE] at this; exact this
theorem str_eq (a b : List UInt8) : ((bstr a).toList == (bstr b).toList) = decide (a = b) := by rw [bstr_eq, Bool.eq_iff_iff]; simp
theorem take_min {α : Type} (s : List α) (k : Nat) : s.take (min s.length k) = s.take k := by
  rcases Nat.le_total s.length k with h | h
  · rw [Nat.min_eq_left h, List.take_of_length_le h, List.take_of_length_le (Nat.le_refl _)]
  · rw [Nat.min_eq_right h]
def zP : Pln := ⟨0, 0, 0, 0, none, 0, [], 0, 0, 0, 0, none, 0, [], none, 0, [], none, 0, [], none, 0, []⟩
theorem isZ (w : World) : IsPln w zP := ⟨IsRow.nil _ _, IsRow.nil _ _, ⟨IsRow.nil _ _, fun x hx => by cases hx⟩, IsRow.nil _ _, IsRow.nil _ _, Nat.zero_le _, Nat.zero_le _, Nat.zero_le _, Nat.zero_le _, Nat.zero_le _⟩
theorem small_gE {q : Pln} (h : Small q) (k : Int) : (gE q.es k).al.length ≤ 1000000000 := by
  unfold gE fE
  cases hf : q.es.find? fun x => x.id == k with
  | none => exact Nat.zero_le _
  | some x => exact Nat.le_trans (h.al x (List.mem_of_find?_eq_some hf)) (by decide)
theorem Hp.keepA {w0 w w' : World} {L : List HB} {K : List FK} (H : Hp w0 w L K) (hb : Below w.heap.size w w') (B : Option Addr) (al : Alts) (h : IsAl w' B al) (hn : ∀ j, rowFp al.length B j → w.heap.size ≤ j) : Hp w0 w' L (alK B al :: K) :=
  (H.next hb).keepF (alK B al) h (alK_ok _ _) fun j hj => ⟨h.lt j hj, fun x hx hxk => by have := H.lt x hx j hxk; have := hn j hj; omega⟩
end Go.Proofs.YteeillphhiaopaaGreatDoor
namespace Go.Proofs.YteeillphhiaopaaGreatDoor
open Go.ChangeShapes Go.WideShapes Go.ChangeAt Go.RowKit Go.Deep
set_option linter.unusedVariables false
structure Op (P : Program) (t : TypeId) (α : Type) where
  size : Nat
  cells : α → List Value
  ok : World → α → Prop
  csize : P.cellsOf t = size
  len : ∀ a, (cells a).length = size
  opens : ∀ {H : Type} {enc : TypeId × Value → H} {w : World} {base : Nat} {held : Bool} {fuel : Nat} {cs : List Value} {x : DataW H × List MemPlace},
    DataW.trod enc P w base (fun _ => true) held fuel t cs = some x → (∀ n ∈ x.1.weights P t, n ≤ reachBytes) → ∃ a, cs = cells a ∧ ok w a
structure SlA (α : Type) where
  A : Option Addr
  c : Nat
  l : List α
section
variable {P : Program} {t e : TypeId} {α β : Type}
noncomputable def opInt (k : IntKind) (hu : P.underlying t = some (.int k)) (hc : P.cellsOf t = 1) : Op P t Int where
  size := 1
  cells n := [.int k n]
  ok _ n := (Lit.int k n).wf = true
  csize := hc
  len _ := rfl
  opens h _ := by
    obtain ⟨n, rfl, rfl, hw⟩ := DataW.trod_int hu h
    exact ⟨n, rfl, hw⟩
theorem weightsAll_mem {H : Type} {d : DataW H} {l : List (DataW H)} (h : d ∈ l) : ∀ n ∈ d.weights P e, n ∈ DataW.weightsAll P e l := by
  induction l with
  | nil => cases h
  | cons y l ih =>
    intro n hn
    rw [DataW.weightsAll]
    rcases List.mem_cons.1 h with rfl | h
    · exact List.mem_append_left _ hn
    · exact List.mem_append_right _ (ih h n hn)
theorem choose_list {Q : Nat → α → Prop} : ∀ n : Nat, (∀ i, i < n → ∃ a, Q i a) → ∃ l : List α, l.length = n ∧ ∀ i a, l[i]? = some a → Q i a := by
  intro n
  induction n with
  | zero => intro _; exact ⟨[], rfl, by simp⟩
  | succ n ih =>
    intro h
    obtain ⟨l, hl, hq⟩ := ih (fun i hi => h i (by omega))
    obtain ⟨a, ha⟩ := h n (by omega)
    refine ⟨l ++ [a], by simp [hl], fun i b hb => ?_⟩
    by_cases hi : i < l.length
    · rw [List.getElem?_append_left hi] at hb
      exact hq i b hb
    · rw [List.getElem?_append_right (by omega)] at hb
      have h0 : i - l.length = 0 := by
        have := (List.getElem?_eq_some_iff.1 hb).1
        simp at this
        omega
      rw [h0] at hb
      simp at hb
      subst hb
      obtain rfl : i = n := by omega
      exact ha
theorem flatO_get {f : α → List Value} {s : Nat} (hf : ∀ a, (f a).length = s) : ∀ (l : List α) (i j : Nat) (a : α), l[i]? = some a → j < s → (l.flatMap f)[i * s + j]? = (f a)[j]? := by
  intro l
  induction l with
  | nil => intro i j a h; simp at h
  | cons y l ih =>
    intro i j a h hj
    cases i with
    | zero =>
      simp at h
      subst h
      simp only [List.flatMap_cons, Nat.zero_mul, Nat.zero_add]
      rw [List.getElem?_append_left (by rw [hf]; exact hj)]
    | succ i =>
      simp only [List.flatMap_cons]
      rw [List.getElem?_append_right (by rw [hf, Nat.add_mul]; omega), hf, show (i + 1) * s + j - s = i * s + j by rw [Nat.add_mul]; omega]
      exact ih i j a (by simpa using h) hj
theorem flatO_len {f : α → List Value} {s : Nat} (hf : ∀ a, (f a).length = s) : ∀ l : List α, (l.flatMap f).length = l.length * s := by
  intro l
  induction l with
  | nil => simp
  | cons y l ih => simp only [List.flatMap_cons, List.length_append, List.length_cons, ih, hf, Nat.add_mul]; omega
theorem rd_of_cells {w : World} {a : Addr} {s : Nat} {f : α → List Value} (hf : ∀ x, (f x).length = s) (hs : 0 < s) {l : List α}
    (h : ∀ i x, l[i]? = some x → ∀ j, j < s → w.cell? ((a.add (i * s)).add j) = (f x)[j]?) : Rd w s (some a) l.length (l.flatMap f) := by
  refine ⟨flatO_len hf l, ?_⟩
  by_cases hn : l.length = 0
  · exact .inl hn
  · have hl : 0 < l.length := by omega
    have h0 := h 0 l[0] (List.getElem?_eq_getElem hl) 0 hs
    have hv : ∃ v, (f l[0])[0]? = some v := ⟨_, List.getElem?_eq_getElem (by rw [hf]; exact hs)⟩
    obtain ⟨v, hv⟩ := hv
    rw [hv] at h0
    have hsp : a.spot = none := by
      unfold World.cell? at h0
      split at h0
      · by_cases hs : a.spot.isSome = true
        · simp [Addr.add, hs] at h0
        · simpa using hs
      · simp at h0
    obtain ⟨b, off, sp⟩ := a
    simp only at hsp
    subst hsp
    have e0 : (((⟨b, off, none⟩ : Addr).add (0 * s)).add 0) = ⟨b, off, none⟩ := by simp [Addr.add]
    rw [e0] at h0
    refine .inr ⟨b, off, rfl, World.block_lt_of_cell? w _ h0, fun i hi => ?_⟩
    have hq : i / s < l.length := Nat.div_lt_of_lt_mul (by rw [Nat.mul_comm]; exact hi)
    have hm : i % s < s := Nat.mod_lt _ hs
    have hx := h (i / s) l[i / s] (List.getElem?_eq_getElem hq) (i % s) hm
    have hg := flatO_get hf l (i / s) (i % s) _ (List.getElem?_eq_getElem hq) hm
    have hi2 : i / s * s + i % s = i := by rw [Nat.mul_comm]; exact Nat.div_add_mod i s
    rw [hi2] at hg
    rw [hg, ← hx]
    congr 1
    simp only [Addr.add]
    split <;> split <;> simp <;> omega
noncomputable def opSlice (o : Op P e α) (bytes : Nat) (hu : P.underlying t = some (.slice e)) (hb : P.bytesOf e = bytes) (hc : P.cellsOf t = 1) (hs : 0 < o.size) : Op P t (SlA α) where
  size := 1
  cells s := [.slice s.A s.l.length s.c]
  ok w s := Rd w o.size s.A s.l.length (s.l.flatMap o.cells) ∧ (∀ a ∈ s.l, o.ok w a) ∧ s.l.length ≤ s.c ∧ s.c ≤ maxLen ∧ (s.A = none → s.c = 0) ∧ s.c * bytes ≤ reachBytes
  csize := hc
  len _ := rfl
  opens {H enc w base held fuel cs x} h hw := by
    rcases open_slice hu h with ⟨rfl, rfl⟩ | ⟨a, len, cap, m, n, D, Pl, rfl, hba, hl, hm, hmm, rfl, hi⟩
    · exact ⟨⟨none, 0, []⟩, rfl, Rd.nil _ _ _, by simp, Nat.le_refl _, Nat.zero_le _, fun _ => rfl, by simp⟩
    · simp only [if_true] at hmm
      subst hmm
      have hwt : ∀ k ∈ ((len + (m - len)) * bytes) :: DataW.weightsAll P e ((List.range len).map D), k ≤ reachBytes := by
        intro k hk
        simp only [DataW.weights, hu, hb] at hw
        rcases List.mem_cons.1 hk with rfl | hk
        · exact hw _ (by simp)
        · exact hw k (by simp [hk])
      obtain ⟨l, hll, hq⟩ := choose_list (Q := fun i x => (∀ j, j < o.size → w.cell? ((a.add (i * o.size)).add j) = (o.cells x)[j]?) ∧ o.ok w x) len (fun i hi' => by
        obtain ⟨cs', hcs, htr⟩ := hi i (by omega)
        obtain ⟨x, rfl, hok⟩ := o.opens htr (fun k hk => hwt k (List.mem_cons_of_mem _ (weightsAll_mem (d := D i) (List.mem_map.2 ⟨i, by simpa using hi', rfl⟩) k hk)))
        rw [o.csize] at hcs
        obtain ⟨_, _, hat⟩ := World.cells?_some hcs
        exact ⟨x, hat, hok⟩)
      subst hll
      refine ⟨⟨some a, m, l⟩, rfl, rd_of_cells o.len hs (fun i x hx => (hq i x hx).1), fun x hx => ?_, hl, hm, (fun h => by cases h), ?_⟩
      · obtain ⟨i, hi', hx'⟩ := List.getElem_of_mem hx
        exact (hq i x (by rw [List.getElem?_eq_getElem hi', hx'])).2
      · have := hwt _ (List.mem_cons_self ..)
        rwa [Nat.add_sub_cancel' hl] at this
structure OpF (P : Program) (fs : List Field) (off : Nat) (α : Type) where
  size : Nat
  cells : α → List Value
  ok : World → α → Prop
  len : ∀ a, (cells a).length = size
  opens : ∀ {H : Type} {enc : TypeId × Value → H} {w : World} {base : Nat} {held : Bool} {fuel : Nat} {cs : List Value} {ys : List (DataW H × List MemPlace)},
    cs.length = off + size → (∀ (i : Nat) (f : Field), fs[i]? = some f → DataW.trod enc P w base (fun _ => true) held fuel f.type ((cs.drop f.offset).take (P.cellsOf f.type)) = ys[i]?) → ys.length = fs.length →
    (∀ n ∈ DataW.weightsEach P (fs.map (·.type)) (ys.map (·.1)), n ≤ reachBytes) → ∃ a, cs.drop off = cells a ∧ ok w a
noncomputable def opNil (off : Nat) : OpF P [] off Unit where
  size := 0
  cells _ := []
  ok _ _ := True
  len _ := rfl
  opens h _ _ _ := ⟨(), by rw [List.drop_of_length_le (by omega)], trivial⟩
noncomputable def opCons {f : Field} {fs : List Field} {off : Nat} (o : Op P f.type α) (r : OpF P fs (off + o.size) β) (hoff : f.offset = off) : OpF P (f :: fs) off (α × β) where
  size := o.size + r.size
  cells p := o.cells p.1 ++ r.cells p.2
  ok w p := o.ok w p.1 ∧ r.ok w p.2
  len p := by rw [List.length_append, o.len, r.len]
  opens {H enc w base held fuel cs ys} h hf hl hw := by
    match ys, hl with
    | y :: ys, hl =>
      have h0 := hf 0 f rfl
      simp only [hoff, o.csize, List.getElem?_cons_zero] at h0
      obtain ⟨a, ha, hok⟩ := o.opens h0 (fun n hn => hw n (by simp [DataW.weightsEach, hn]))
      obtain ⟨b, hb, hok2⟩ := r.opens (cs := cs) (ys := ys) (by omega) (fun i g hg => by simpa using hf (i + 1) g (by simpa using hg)) (by simpa using hl) (fun n hn => hw n (by simp only [List.map_cons, DataW.weightsEach]; exact List.mem_append_right _ hn))
      refine ⟨(a, b), ?_, hok, hok2⟩
      simp only
      rw [← ha, ← hb, ← List.drop_drop]
      exact (List.take_append_drop _ _).symm
noncomputable def opStruct {fs : Array Field} (r : OpF P fs.toList 0 α) (hu : P.underlying t = some (.struct fs)) (hc : P.cellsOf t = r.size) : Op P t α where
  size := r.size
  cells := r.cells
  ok := r.ok
  csize := hc
  len := r.len
  opens {H enc w base held fuel cs x} h hw := by
    obtain ⟨xs, n, _, rfl, hlen, hxl, hg⟩ := DataW.trod_struct hu h
    obtain ⟨a, ha, hok⟩ := r.opens (cs := cs) (ys := xs) (by rw [hlen, hc]; omega) (fun i f hf => hg i f (by simpa using hf)) (by simpa using hxl) (fun k hk => hw k (by simpa [DataW.weights, hu] using hk))
    exact ⟨a, by simpa using ha, hok⟩
noncomputable def opMap (o : Op P t α) (f : α → β) (cells' : β → List Value) (ok' : World → β → Prop) (h1 : ∀ a, o.cells a = cells' (f a)) (h2 : ∀ w a, o.ok w a → ok' w (f a)) (h3 : ∀ b, (cells' b).length = o.size) : Op P t β where
  size := o.size
  cells := cells'
  ok := ok'
  csize := o.csize
  len := h3
  opens h hw := by
    obtain ⟨a, ha, hok⟩ := o.opens h hw
    exact ⟨f a, by rw [ha, h1], h2 _ _ hok⟩
end
end Go.Proofs.YteeillphhiaopaaGreatDoor
namespace Go.Proofs.YteeillphhiaopaaGreatDoor
open Go.ChangeShapes Go.WideShapes Go.ChangeAt Go.RowKit
set_option linter.unusedVariables false
noncomputable def opI : Op Tryz.prog 3 Int := opInt .i64 Tryz.underlying3 (by kernel_rfl)
noncomputable def opSh : Op Tryz.prog 76 (Int × Int) := opMap (opStruct (opCons opI (opCons opI (opNil _) rfl) rfl) Tryz.underlying76 (by kernel_rfl)) (fun p => (p.1, p.2.1)) (fun a => (altC a).toList) (fun _ a => True) (fun a => rfl) (fun w a h => trivial) (fun _ => rfl)
noncomputable def opAl : Op Tryz.prog 62 (Int × Int) := opMap (opStruct (opCons opI (opCons opI (opNil _) rfl) rfl) Tryz.underlying62 (by kernel_rfl)) (fun p => (p.1, p.2.1)) (fun a => (altC a).toList) (fun _ a => True) (fun a => rfl) (fun w a h => trivial) (fun _ => rfl)
noncomputable def opIt : Op Tryz.prog 38 Itm := opMap (opStruct (opCons opI (opCons opI (opCons opI (opCons opI (opCons opI (opNil _) rfl) rfl) rfl) rfl) rfl) Tryz.underlying38 (by kernel_rfl)) (fun ⟨a, b, c, d, e, _⟩ => ⟨a, b, c, d, e⟩) (fun a => (itC a).toList) (fun _ a => True) (fun a => rfl) (fun w a h => trivial) (fun _ => rfl)
noncomputable def opBk : Op Tryz.prog 47 Bkg := opMap (opStruct (opCons opI (opCons opI (opCons opI (opCons opI (opCons opI (opCons opI (opCons opI (opNil _) rfl) rfl) rfl) rfl) rfl) rfl) rfl) Tryz.underlying47 (by kernel_rfl)) (fun ⟨a, b, c, d, e, f, g, _⟩ => ⟨a, b, c, d, e, f, g⟩) (fun a => (bkC a).toList) (fun _ a => True) (fun a => rfl) (fun w a h => trivial) (fun _ => rfl)
noncomputable def opCl : Op Tryz.prog 73 Cls := opMap (opStruct (opCons opI (opCons opI (opCons opI (opCons opI (opCons opI (opCons opI (opCons opI (opCons opI (opNil _) rfl) rfl) rfl) rfl) rfl) rfl) rfl) rfl) Tryz.underlying73 (by kernel_rfl)) (fun ⟨a, b, c, d, e, f, g, h, _⟩ => ⟨a, b, c, d, e, f, g, h⟩) (fun a => (clC a).toList) (fun _ a => True) (fun a => rfl) (fun w a h => trivial) (fun _ => rfl)
noncomputable def opAls : Op Tryz.prog 41 (SlA (Int × Int)) := opSlice opAl 16 Tryz.underlying41 (by kernel_rfl) (by kernel_rfl) (by decide)
noncomputable def opEn : Op Tryz.prog 43 Ent := opMap (opStruct (opCons opI (opCons opI (opCons opI (opCons opI (opCons opI (opCons opI (opCons opAls (opNil _) rfl) rfl) rfl) rfl) rfl) rfl) rfl) Tryz.underlying43 (by kernel_rfl)) (fun ⟨a, b, c, d, e, f, s, _⟩ => ⟨a, b, c, d, e, f, s.A, s.c, s.l⟩) (fun a => (enC a).toList)
  (fun w x => x.ok w ∧ x.al.length ≤ x.c ∧ (x.A = none → x.c = 0)) (fun a => rfl)
  (fun w a h => by
    obtain ⟨a1, a2, a3, a4, a5, a6, s, _⟩ := a
    obtain ⟨_, _, _, _, _, _, ⟨p1, p2, p3, p4, p5, p6⟩, _⟩ := h
    exact ⟨⟨p1, Nat.le_trans p3 p4⟩, p3, p5⟩) (fun _ => rfl)
noncomputable def opShs : Op Tryz.prog 24 (SlA (Int × Int)) := opSlice opSh 16 Tryz.underlying24 (by kernel_rfl) (by kernel_rfl) (by decide)
noncomputable def opIts : Op Tryz.prog 27 (SlA Itm) := opSlice opIt 40 Tryz.underlying27 (by kernel_rfl) (by kernel_rfl) (by decide)
noncomputable def opEns : Op Tryz.prog 28 (SlA Ent) := opSlice opEn 72 Tryz.underlying28 (by kernel_rfl) (by kernel_rfl) (by decide)
noncomputable def opBks : Op Tryz.prog 29 (SlA Bkg) := opSlice opBk 56 Tryz.underlying29 (by kernel_rfl) (by kernel_rfl) (by decide)
noncomputable def opCls : Op Tryz.prog 30 (SlA Cls) := opSlice opCl 64 Tryz.underlying30 (by kernel_rfl) (by kernel_rfl) (by decide)
noncomputable def opRate : Op Tryz.prog 23 (Int × (Int × Unit)) := opStruct (opCons opI (opCons opI (opNil _) rfl) rfl) Tryz.underlying23 (by kernel_rfl)
noncomputable def opZone : Op Tryz.prog 26 (Int × (SlA (Int × Int) × Unit)) := opStruct (opCons opI (opCons opShs (opNil _) rfl) rfl) Tryz.underlying26 (by kernel_rfl)
noncomputable def opPl0 : Op Tryz.prog 32 (Int × ((Int × (Int × Unit)) × ((Int × (SlA (Int × Int) × Unit)) × (Int × (Int × (Int × (Int × (SlA Itm × (SlA Ent × (SlA Bkg × (SlA Cls × Unit))))))))))) :=
  opStruct (opCons opI (opCons opRate (opCons opZone (opCons opI (opCons opI (opCons opI (opCons opI (opCons opIts (opCons opEns (opCons opBks (opCons opCls (opNil _) rfl) rfl) rfl) rfl) rfl) rfl) rfl) rfl) rfl) rfl) rfl) Tryz.underlying32 (by kernel_rfl)
noncomputable def opPl : Op Tryz.prog 32 Pln := opMap opPl0 (fun ⟨a, b, c, d, e, f, g, i, n, k, l, _⟩ => ⟨a, b.1, b.2.1, c.1, c.2.1.A, c.2.1.c, c.2.1.l, d, e, f, g, i.A, i.c, i.l, n.A, n.c, n.l, k.A, k.c, k.l, l.A, l.c, l.l⟩) (fun p => plC p) (fun w p => IsPln w p ∧ PlFit p) (fun a => rfl)
  (fun w a h => by
    obtain ⟨a1, b, ⟨c1, c2, _⟩, d, e, f, g, i, n, k, l, _⟩ := a
    obtain ⟨_, _, ⟨_, ⟨s1, s2, s3, s4, s5, s6⟩, _⟩, _, _, _, _, ⟨i1, i2, i3, i4, i5, i6⟩, ⟨n1, n2, n3, n4, n5, n6⟩, ⟨k1, k2, k3, k4, k5, k6⟩, ⟨l1, l2, l3, l4, l5, l6⟩, _⟩ := h
    exact ⟨⟨s1, i1, ⟨n1, fun x hx => (n2 x hx).1⟩, k1, l1, Nat.le_trans s3 s4, Nat.le_trans i3 i4, Nat.le_trans n3 n4, Nat.le_trans k3 k4, Nat.le_trans l3 l4⟩, ⟨s3, i3, k3, l3, fun x hx => (n2 x hx).2⟩⟩) (fun _ => rfl)
theorem i64_of {n : Int} (h : (Lit.int .i64 n).wf = true) : -9223372036854775808 ≤ n ∧ n ≤ 9223372036854775807 := by
  simp [Lit.wf, IntKind.min, IntKind.max, IntKind.signed, IntKind.bits] at h
  omega
end Go.Proofs.YteeillphhiaopaaGreatDoor
