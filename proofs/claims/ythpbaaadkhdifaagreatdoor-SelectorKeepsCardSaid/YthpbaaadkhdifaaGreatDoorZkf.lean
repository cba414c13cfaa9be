/- Part 6 of the proofs: SeP, SymG, SymH, SeQ, SymAb, SeR, SeS, SeT. -/
import Derived.Laws.IdiomStrings
import Derived.Lib.FrozenHead
import Derived.Test.YthpbaaadkhdifaaGreatDoorZke
namespace Go.Proofs.YthpbaaadkhdifaaGreatDoor
set_option maxRecDepth 100000
set_option maxHeartbeats 4000000
open Go.ChangeShapes Go.WideShapes Go.ChangeAt Go.RowKit Go.Shelf
set_option linter.unusedVariables false
set_option linter.unusedSimpArgs false
def its3 : List Itm := [⟨1, 5, 30, 0, 0⟩, ⟨7, 1, 40, 0, 0⟩, ⟨8, 2, 20, 0, 0⟩]
abbrev planC (c nm len : Int) (IA : Option Addr) (ic : Nat) : Array Value := #[(.int .i64 c), (.int .i64 nm), (.int .i64 1), (.int .i64 0), (.slice none 0 0), (.int .i64 0), (.int .i64 2), (.int .i64 len), (.int .i64 1), (.slice IA 3 ic), (.slice none 0 0), (.slice none 0 0), (.slice none 0 0)]
theorem box_map {w : World} {b m : Nat} {t : TypeId} {vs : Array Value} {l : List (Int × Value)} (h : Box w b t vs) (h' : MapAt w m l) : b ≠ m := fun e => by
 subst e
 unfold Box at h
 unfold MapAt at h'
 rw [h] at h'
 cases h'
theorem take_snocI {α : Type} {l : List α} {i : Nat} {x : α} (hx : l[i]? = some x) : l.take (i + 1) = l.take i ++ [x] := by
 obtain ⟨h, rfl⟩ := List.getElem?_eq_some_iff.1 hx
 exact List.take_succ_eq_append_getElem h
theorem itM_snoc {l : List Itm} {i : Nat} {x : Itm} (hx : l[i]? = some x) : itM (l.take i) ++ [(x.id, .agg (itC x))] = itM (l.take (i + 1)) := by
 rw [take_snocI hx]; simp [itM]
theorem fr_it {l : List Itm} {k : Int} (h : ∀ y ∈ l, y.id ≠ k) : ∀ z ∈ itM l, z.1 ≠ k := by
 intro z hz
 simp only [itM, List.mem_map] at hz
 obtain ⟨y, hy, rfl⟩ := hz
 exact h y hy
theorem Hp.fp_new {w0 w : World} {L : List HB} {K : List FK} (H : Hp w0 w L K) (i : Nat) {b : Nat} {l : List (Int × Value)} (hi : L[i]? = some (mapB b l true)) {k : Nat} (hk : k < w0.heap.size) : k ≠ b := fun e => by
 have := H.fresh _ (List.mem_of_getElem? hi) rfl b rfl
 omega
theorem itfresh3 {i : Nat} {x : Itm} (hx : its3[i]? = some x) : ∀ y ∈ its3.take i, y.id ≠ x.id := by
 match i, hx with
 | 0, hx => intro y hy; cases hy
 | 1, hx => cases hx; decide
 | 2, hx => cases hx; decide
 | i + 3, hx => simp [its3] at hx
theorem isOffset0_any (w : World) :
  Calls Tryz.prog 156 #[.int .i64 0] w fun e w' => e = .returned (.bool true) ∧ Below w.heap.size w w' := by
 have HP := Hp.start w
 refine w_enter 9 [(0, (ii 0))] Tryz.func156 rfl Tryz.ntmps156 (by kernel_rfl) (by kernel_rfl) fun a H => ?_
 refine zsq (zrg ?_)
 refine H.ge HP [(2, (.bool false))] [] fun a H => ?_
 refine ztn (zsq (zrg ?_))
 refine H.ge HP [(3, (ii 0)), (4, (.bool true)), (5, (.bool true)), (2, (.bool true))] [] fun a H => ?_
 refine ztn (zrt ?_)
 refine H.r1 (.bool true) Tryz.results156 ?_
 exact ⟨rfl, HP.bl⟩
theorem zone0_any (w : World) :
  Calls Tryz.prog 107 #[.agg #[.int .i64 0, .slice none 0 0]] w fun e w' => e = .returned (.bool true) ∧ Below w.heap.size w w' := by
 have HP := Hp.start w
 refine w_enter 41 [(0, (.agg #[(ii 0), (.slice none 0 0)]))] Tryz.func107 rfl Tryz.ntmps107 (by kernel_rfl) (by kernel_rfl) fun a H => ?_
 refine zsq (zrg ?_)
 refine H.al HP 1 61 [(ii 0), (.slice none 0 0)] fun b_1 w_2 a H HP => ?_
 refine H.ge HP [(2, (.bool false))] [] fun a H => ?_
 refine ztn (zsq (zsq (zrg ?_)))
 refine H.go HP 7 [(10, (.bool false)), (12, (ii 0))] [0, 0] fun a H => H.cb HP 13 (Tryz.call156 _ _) (isOffset0_any w_2) fun w_3 hb a H HP => ?_
 refine H.ge HP [(15, (.bool false))] [] fun a H => ?_
 refine ztn ?_
 refine w_iff H rfl ?_
 refine zsk (ztn (zsq (zrg ?_)))
 refine H.ge HP [(3, (ii (-1)))] [] fun a H => ?_
 refine ztn (zsq (zsq (zrg ?_)))
 refine H.ge HP [(17, (.slice none 0 0)), (18, (ii 0)), (19, (ii 0))] [0] fun a H => ?_
 refine ztn (zbk ?_)
 refine w_loop (fun mm a wv => 0 = mm ∧ Sl 41 [(17, (.slice none 0 0)), (18, (ii 0)), (19, (ii 0)), (3, (ii (-1))), (15, (.bool false)), (13, (.bool true)), (10, (.bool false)), (12, (ii 0)), (2, (.bool false)), (1, (pt b_1 0)), (0, (.agg #[(ii 0), (.slice none 0 0)]))] a ∧ Hp w wv [bx b_1 61 [(ii 0), (.slice none 0 0)] true] []) (0) ?_ ?_
 ·exact ⟨(by omega), H.keep (by kernel_rfl), HP⟩
 rintro mm a w_4 ⟨hmeas, H, HP⟩
 refine zsq (zrg ?_)
 refine H.ge HP [(20, (.bool false))] [] fun a H => ?_
 refine ztn (zsq ?_)
 refine w_iff H rfl ?_
 refine wp_exit (then_exit (then_exit ?_))
 refine w_exit_here ?_
 refine ztn (zsq (zrg ?_))
 refine H.ge HP [(2, (.bool true))] [] fun a H => ?_
 refine ztn (zrt ?_)
 refine H.r1 (.bool true) Tryz.results107 ?_
 exact ⟨rfl, HP.bl⟩
theorem sound_any (b m1 m2 : Nat) (c nm len : Int) (IA : Option Addr) (ic : Nat) (w : World) (hc : 0 ≤ c ∧ c ≤ 39) (hr : rateOk nm 1 = true) (hL : Laid w) (hb : Box w b 161 [(ii c), (ii nm), (ii 1), (ii 0), (.slice none 0 0), (ii 0), (ii 2), (ii len), (ii 1), (.slice IA 3 ic), (.slice none 0 0), (.slice none 0 0), (.slice none 0 0), (.map (some m1)), (.map (some m2))].toArray) :
  Calls Tryz.prog 62 #[.pointer (some ⟨b, 0, none⟩)] w fun e w' => e = .returned (.bool (inR len 1 100000000)) ∧ Below w.heap.size w w' := by
 have HP := (((Hp.start w).keepF (boxK b 161 [(ii c), (ii nm), (ii 1), (ii 0), (.slice none 0 0), (ii 0), (ii 2), (ii len), (ii 1), (.slice IA 3 ic), (.slice none 0 0), (.slice none 0 0), (.slice none 0 0), (.map (some m1)), (.map (some m2))]) hb (boxK_ok _ _ _) (fun k hk => ⟨boxK_lt hb hk, fun x hx => by cases hx⟩)).keepF (laidK) hL laidK_ok (fun k hk => ⟨hL.lt k hk, fun x hx => by cases hx⟩))
 refine w_enter 49 [(0, (pt b 0))] Tryz.func62 rfl Tryz.ntmps62 (by kernel_rfl) (by kernel_rfl) fun a H => ?_
 refine zsq (zrg ?_)
 refine H.ge HP [(2, (.bool false))] [] fun a H => ?_
 refine ztn (zsq (zrg ?_))
 refine H.go HP 4 [(3, (pt b 0)), (4, (pt b 0)), (5, (pt b 0)), (6, (pt b 0))] [] fun a H => H.u 7 (ii c) (ex_l1 (Box.cell (i := 0) (HP.fact 1 rfl : Box _ b 161 _) rfl)) fun a H => H.cb HP 8 (Tryz.call106 _ _) ((by have hh := within_any c 0 39 w; rw [show inR c 0 39 = true from inR_iff.2 (by omega)] at hh; exact hh)) fun w_1 hb a H HP => H.go HP 5 [(9, (.bool true)), (13, (pt b 1))] [] fun a H => H.u 14 (.agg #[(ii nm), (ii 1)]) (ex_lN [(ii nm), (ii 1)] (cells2 (Box.cell (i := 1) (HP.fact 1 rfl : Box _ b 161 _) rfl) (Box.cell (i := 2) (HP.fact 1 rfl : Box _ b 161 _) rfl))) fun a H => H.cb HP 15 (Tryz.call49 _ _) ((by have hh := tvalid_any nm 1 w_1 (HP.fact 0 rfl); rw [hr] at hh; exact hh)) fun w_2 hb a H HP => H.go HP 6 [(17, (.bool true)), (21, (pt b 3))] [] fun a H => H.u 22 (.agg #[(ii 0), (.slice none 0 0)]) (ex_lN [(ii 0), (.slice none 0 0)] (cells2 (Box.cell (i := 3) (HP.fact 1 rfl : Box _ b 161 _) rfl) (Box.cell (i := 4) (HP.fact 1 rfl : Box _ b 161 _) rfl))) fun a H => H.cb HP 23 (Tryz.call107 _ _) (zone0_any w_2) fun w_3 hb a H HP => H.go HP 6 [(25, (.bool true)), (29, (pt b 5))] [] fun a H => H.u 30 (ii 0) (ex_l1 (Box.cell (i := 5) (HP.fact 1 rfl : Box _ b 161 _) rfl)) fun a H => H.cb HP 31 (Tryz.call106 _ _) ((by have hh := within_any 0 0 9000000000 w_3; rw [show inR 0 0 9000000000 = true from rfl] at hh; exact hh)) fun w_4 hb a H HP => H.go HP 6 [(33, (.bool true)), (37, (pt b 6))] [] fun a H => H.u 38 (ii 2) (ex_l1 (Box.cell (i := 6) (HP.fact 1 rfl : Box _ b 161 _) rfl)) fun a H => H.cb HP 39 (Tryz.call106 _ _) ((by have hh := within_any 2 1 8 w_4; rw [show inR 2 1 8 = true from rfl] at hh; exact hh)) fun w_5 hb a H HP => H.go HP 6 [(41, (.bool true)), (45, (pt b 7))] [] fun a H => ?_
 refine H.u 46 (ii len) (ex_l1 (Box.cell (i := 7) (HP.fact 1 rfl : Box _ b 161 _) rfl)) fun a H => H.cb HP 47 (Tryz.call106 _ _) (within_any len 1 100000000 w_5) fun w_6 hb a H HP => ?_
 refine H.ge HP [(2, (.bool (inR len 1 100000000)))] [] fun a H => ?_
 refine ztn (zrt ?_)
 refine H.r1 (.bool (inR len 1 100000000)) Tryz.results62 ?_
 exact ⟨rfl, HP.bl⟩
theorem hasItems_any (b m1 m2 : Nat) (c nm len : Int) (IA : Option Addr) (ic : Nat) (w : World) (hm : MapAt w m1 []) (hfi : ¬ rowFp 3 IA m1) (hb : Box w b 161 [(ii c), (ii nm), (ii 1), (ii 0), (.slice none 0 0), (ii 0), (ii 2), (ii len), (ii 1), (.slice IA 3 ic), (.slice none 0 0), (.slice none 0 0), (.slice none 0 0), (.map (some m1)), (.map (some m2))].toArray) (hi : IsRow 5 itC w IA its3) :
  Calls Tryz.prog 63 #[.pointer (some ⟨b, 0, none⟩)] w fun e w' => e = .returned (.bool true) ∧ MapAt w' m1 (itM its3) ∧ w.grownBy w' (some m1) := by
 have hl3 : its3.length = 3 := rfl
 have hne : b ≠ m1 := box_map hb hm
 have HP : Hp w w [mapB m1 (itM []) false] [boxK b 161 [(ii c), (ii nm), (ii 1), (ii 0), (.slice none 0 0), (ii 0), (ii 2), (ii len), (ii 1), (.slice IA 3 ic), (.slice none 0 0), (.slice none 0 0), (.slice none 0 0), (.map (some m1)), (.map (some m2))], rowF 5 itC IA its3] := ((Hp.ownM hm).keepF (rowF 5 itC IA its3) hi (rowF_ok _ _ _ _) (fun k hk => ⟨hi.lt k hk, by simp only [List.mem_singleton, forall_eq, mapB]; intro e; exact hfi (e ▸ hk)⟩)).keepF (boxK b 161 [(ii c), (ii nm), (ii 1), (ii 0), (.slice none 0 0), (ii 0), (ii 2), (ii len), (ii 1), (.slice IA 3 ic), (.slice none 0 0), (.slice none 0 0), (.slice none 0 0), (.map (some m1)), (.map (some m2))]) hb (boxK_ok _ _ _) (fun k hk => ⟨boxK_lt hb hk, by cases hk; simpa [mapB] using hne⟩)
 refine w_enter 73 [(0, (pt b 0))] Tryz.func63 rfl Tryz.ntmps63 (by kernel_rfl) (by kernel_rfl) fun a H => ?_
 refine zsq (zrg ?_)
 refine H.ge HP [(2, (.bool false))] [] fun a H => ?_
 refine ztn (zsq (zsq (zrg ?_)))
 refine H.go HP 4 [(5, (pt b 0)), (8, (pt b 9))] [] fun a H => H.u 9 (.slice IA 3 ic) (ex_l1 (Box.cell (i := 9) (HP.fact 0 rfl : Box _ b 161 _) rfl)) fun a H => H.go HP 7 [(12, (.bool false)), (16, (pt b 9))] [] fun a H => H.u 17 (.slice IA 3 ic) (ex_l1 (Box.cell (i := 9) (HP.fact 0 rfl : Box _ b 161 _) rfl)) fun a H => H.cb HP 18 (Tryz.call108 _ _) (ascI_any IA ic its3 1 1000000 w ((HP.fact 1 rfl : IsRow 5 itC _ IA its3)) (by decide) (by omega)) fun w_1 hb a H HP => ?_
 refine H.ge HP [(20, (.bool (!(asc (1 - 1) 1000000 (its3.map (fun x => x.id))))))] [] fun a H => ?_
 refine ztn ?_
 refine w_if H rfl (fun g20 => ?_) (fun g20 => ?_)
 ·have g20p := not_is_true g20
  refine zsq (zrg ?_)
  refine H.ge HP [(2, (.bool false))] [] fun a H => ?_
  refine ztn (zrt (ztr ?_))
  refine H.r1 (.bool false) Tryz.results63 ?_
  exact absurd g20 (by decide)
 have g20p := not_is_false g20
 refine zsk (ztn (zsq (zsq (zrg ?_))))
 refine H.go HP 4 [(24, (pt b 9))] [] fun a H => H.u 25 (.slice IA 3 ic) (ex_l1 (Box.cell (i := 9) (HP.fact 0 rfl : Box _ b 161 _) rfl)) fun a H => ?_
 refine H.ge HP [(26, (ii 3)), (27, (ii 0))] [] fun a H => ?_
 refine ztn (zbk ?_)
 refine w_loop (fun mm a wv => ∃ (i : Nat), its3.length - i = mm ∧ Sl 73 [(27, (ii i)), (26, (ii 3)), (25, (.slice IA 3 ic)), (24, (pt b 9)), (20, (.bool (!(asc (1 - 1) 1000000 (its3.map (fun x => x.id)))))), (18, (.bool (asc (1 - 1) 1000000 (its3.map (fun x => x.id))))), (17, (.slice IA 3 ic)), (12, (.bool false)), (16, (pt b 9)), (9, (.slice IA 3 ic)), (5, (pt b 0)), (8, (pt b 9)), (0, (pt b 0))] a ∧ Hp w wv [(mapB m1 (itM (its3.take i)) false)] [boxK b 161 [(ii c), (ii nm), (ii 1), (ii 0), (.slice none 0 0), (ii 0), (ii 2), (ii len), (ii 1), (.slice IA 3 ic), (.slice none 0 0), (.slice none 0 0), (.slice none 0 0), (.map (some m1)), (.map (some m2))], rowF 5 itC IA its3] ∧ (i ≤ its3.length) ∧ (its3.all itmP = (its3.drop i).all itmP)) (its3.length - 0) ?_ ?_
 ·exact ⟨0, (by omega), H.keep (by kernel_rfl), HP, (Nat.zero_le _), rfl⟩
 rintro mm a w_2 ⟨i, hmeas, H, HP, hib, hrel⟩
 refine zsq (zrg ?_)
 refine H.ge HP [(28, (.bool (decide ((i : Int) < 3))))] [] fun a H => ?_
 refine ztn (zsq ?_)
 refine w_if H rfl (fun g28 => ?_) (fun g28 => ?_)
 ·have g28p := of_decide_eq_true g28
  refine zsk (ztn (zsq (zbk (zsq ?_))))
  obtain ⟨bu_4, ou_5, x_3, hA_6, _, hd_8, hx_7, hm_9, _⟩ := IsRow.get itC_size (HP.fact 1 rfl : IsRow 5 itC _ IA its3) (i := i) (by omega)
  have hfr := itfresh3 hx_7
  refine zrg ?_
  refine H.u 29 (.pointer (some ⟨bu_4, ou_5 + i * 5, none⟩)) (ex_indexA (b := bu_4) (off := ou_5) (len := 3) (cap := ic) (e := 108) (k := 5) (ik := .i64) (i := (i : Int)) (m := i) hA_6 (by kernel_rfl) (by kernel_rfl) (by omega) (by omega) (by kernel_rfl) (by kernel_rfl)) fun a H => H.u 30 (.agg #[(ii x_3.id), (ii x_3.kind), (ii x_3.frames), (ii x_3.sponsor), (ii x_3.rating)]) (ex_lN [(ii x_3.id), (ii x_3.kind), (ii x_3.frames), (ii x_3.sponsor), (ii x_3.rating)] (IsRow.cells itC_size (HP.fact 1 rfl : IsRow 5 itC _ IA its3) hA_6 hx_7)) fun a H => H.al HP 4 108 [(ii 0), (ii 0), (ii 0), (ii 0), (ii 0)] fun b_10 w_11 a H HP => H.sh HP 0 0 (.agg #[(ii x_3.id), (ii x_3.kind), (ii x_3.frames), (ii x_3.sponsor), (ii x_3.rating)]) rfl fun w_12 a H HP => ?_
  refine znl (ztn (zsq (zsq (zrg ?_))))
  refine H.go HP 2 [(32, (ii x_3.kind))] [0] fun a H => H.cb HP 33 (Tryz.call106 _ _) (within_any x_3.kind 1 5 w_12) fun w_13 hb a H HP => H.go HP 2 [(35, (.bool (!(inR x_3.kind 1 5))))] [] fun a H => ?_
  refine H.split 35 rfl (fun g35 H => ?_) (fun g35 H => ?_)
  ·have g35p := inR_not.1 (not_is_true g35)
   refine H.ge HP [(52, (.bool true))] [] fun a H => ?_
   refine ztn ?_
   refine w_ift H rfl ?_
   refine zsq (zrg ?_)
   refine H.ge HP [(2, (.bool false))] [] fun a H => ?_
   refine ztn (zrt (ztr (zibr (ztr (ztr (zibr (ztr ?_)))))))
   refine H.r1 (.bool false) Tryz.results63 ?_
   have hv : its3.all itmP = false := by rw [hrel, hd_8, List.all_cons, show itmP x_3 = false from by (first | (rw [Bool.eq_iff_iff]; (try simp only [itmP, g20, g20p, g28, g28p, g35, g35p]); (try simp only [Bool.and_eq_true, Bool.or_eq_true, Bool.not_eq_true', Bool.false_eq_true, decide_eq_true_eq, decide_eq_false_iff_not, inR_iff, inR_not, beq_iff_eq, bne_iff_ne, beq_eq_false_iff_ne, ne_eq, Bool.true_and, Bool.and_true, Bool.false_and, Bool.and_false, Bool.true_or, Bool.or_true, Bool.false_or, Bool.or_false, Bool.not_true, Bool.not_false, and_true, true_and, iff_true, true_iff, iff_false, false_iff, or_true, true_or, or_false, false_or, not_true_eq_false, not_false_eq_true, and_false, false_and]); first | omega | (simp; done) | (simp; omega)) | (simp [itmP, g20, g20p, g28, g28p, g35, g35p]; done) | (simp [itmP, g20, g20p, g28, g28p, g35, g35p] <;> simp [bne]))]; simp
   exact absurd hv (by decide)
  have g35p := inR_iff.1 (not_is_false g35)
  refine H.go HP 2 [(37, (ii x_3.frames))] [0] fun a H => H.cb HP 38 (Tryz.call106 _ _) (within_any x_3.frames 1 100000000 w_13) fun w_14 hb a H HP => H.go HP 3 [(41, (.bool (!(inR x_3.frames 1 100000000))))] [] fun a H => ?_
  refine H.split 41 rfl (fun g41 H => ?_) (fun g41 H => ?_)
  ·have g41p := inR_not.1 (not_is_true g41)
   refine H.ge HP [(52, (.bool true))] [] fun a H => ?_
   refine ztn ?_
   refine w_ift H rfl ?_
   refine zsq (zrg ?_)
   refine H.ge HP [(2, (.bool false))] [] fun a H => ?_
   refine ztn (zrt (ztr (zibr (ztr (ztr (zibr (ztr ?_)))))))
   refine H.r1 (.bool false) Tryz.results63 ?_
   have hv : its3.all itmP = false := by rw [hrel, hd_8, List.all_cons, show itmP x_3 = false from by (first | (rw [Bool.eq_iff_iff]; (try simp only [itmP, g20, g20p, g28, g28p, g35, g35p, g41, g41p]); (try simp only [Bool.and_eq_true, Bool.or_eq_true, Bool.not_eq_true', Bool.false_eq_true, decide_eq_true_eq, decide_eq_false_iff_not, inR_iff, inR_not, beq_iff_eq, bne_iff_ne, beq_eq_false_iff_ne, ne_eq, Bool.true_and, Bool.and_true, Bool.false_and, Bool.and_false, Bool.true_or, Bool.or_true, Bool.false_or, Bool.or_false, Bool.not_true, Bool.not_false, and_true, true_and, iff_true, true_iff, iff_false, false_iff, or_true, true_or, or_false, false_or, not_true_eq_false, not_false_eq_true, and_false, false_and]); first | omega | (simp; done) | (simp; omega)) | (simp [itmP, g20, g20p, g28, g28p, g35, g35p, g41, g41p]; done) | (simp [itmP, g20, g20p, g28, g28p, g35, g35p, g41, g41p] <;> simp [bne]))]; simp
   exact absurd hv (by decide)
  have g41p := inR_iff.1 (not_is_false g41)
  refine H.go HP 2 [(43, (ii x_3.sponsor))] [0] fun a H => H.cb HP 44 (Tryz.call106 _ _) (within_any x_3.sponsor 0 200 w_14) fun w_15 hb a H HP => H.go HP 3 [(47, (.bool (!(inR x_3.sponsor 0 200))))] [] fun a H => ?_
  refine H.split 47 rfl (fun g47 H => ?_) (fun g47 H => ?_)
  ·have g47p := inR_not.1 (not_is_true g47)
   refine H.ge HP [(52, (.bool true))] [] fun a H => ?_
   refine ztn ?_
   refine w_ift H rfl ?_
   refine zsq (zrg ?_)
   refine H.ge HP [(2, (.bool false))] [] fun a H => ?_
   refine ztn (zrt (ztr (zibr (ztr (ztr (zibr (ztr ?_)))))))
   refine H.r1 (.bool false) Tryz.results63 ?_
   have hv : its3.all itmP = false := by rw [hrel, hd_8, List.all_cons, show itmP x_3 = false from by (first | (rw [Bool.eq_iff_iff]; (try simp only [itmP, g20, g20p, g28, g28p, g35, g35p, g41, g41p, g47, g47p]); (try simp only [Bool.and_eq_true, Bool.or_eq_true, Bool.not_eq_true', Bool.false_eq_true, decide_eq_true_eq, decide_eq_false_iff_not, inR_iff, inR_not, beq_iff_eq, bne_iff_ne, beq_eq_false_iff_ne, ne_eq, Bool.true_and, Bool.and_true, Bool.false_and, Bool.and_false, Bool.true_or, Bool.or_true, Bool.false_or, Bool.or_false, Bool.not_true, Bool.not_false, and_true, true_and, iff_true, true_iff, iff_false, false_iff, or_true, true_or, or_false, false_or, not_true_eq_false, not_false_eq_true, and_false, false_and]); first | omega | (simp; done) | (simp; omega)) | (simp [itmP, g20, g20p, g28, g28p, g35, g35p, g41, g41p, g47, g47p]; done) | (simp [itmP, g20, g20p, g28, g28p, g35, g35p, g41, g41p, g47, g47p] <;> simp [bne]))]; simp
   exact absurd hv (by decide)
  have g47p := inR_iff.1 (not_is_false g47)
  refine H.go HP 2 [(49, (ii x_3.rating))] [0] fun a H => H.cb HP 50 (Tryz.call106 _ _) (within_any x_3.rating 0 3 w_15) fun w_16 hb a H HP => ?_
  refine H.ge HP [(52, (.bool (!(inR x_3.rating 0 3))))] [] fun a H => ?_
  refine ztn ?_
  refine w_if H rfl (fun g52 => ?_) (fun g52 => ?_)
  ·have g52p := inR_not.1 (not_is_true g52)
   refine zsq (zrg ?_)
   refine H.ge HP [(2, (.bool false))] [] fun a H => ?_
   refine ztn (zrt (ztr (zibr (ztr (ztr (zibr (ztr ?_)))))))
   refine H.r1 (.bool false) Tryz.results63 ?_
   have hv : its3.all itmP = false := by rw [hrel, hd_8, List.all_cons, show itmP x_3 = false from by (first | (rw [Bool.eq_iff_iff]; (try simp only [itmP, g20, g20p, g28, g28p, g35, g35p, g41, g41p, g47, g47p, g52, g52p]); (try simp only [Bool.and_eq_true, Bool.or_eq_true, Bool.not_eq_true', Bool.false_eq_true, decide_eq_true_eq, decide_eq_false_iff_not, inR_iff, inR_not, beq_iff_eq, bne_iff_ne, beq_eq_false_iff_ne, ne_eq, Bool.true_and, Bool.and_true, Bool.false_and, Bool.and_false, Bool.true_or, Bool.or_true, Bool.false_or, Bool.or_false, Bool.not_true, Bool.not_false, and_true, true_and, iff_true, true_iff, iff_false, false_iff, or_true, true_or, or_false, false_or, not_true_eq_false, not_false_eq_true, and_false, false_and]); first | omega | (simp; done) | (simp; omega)) | (simp [itmP, g20, g20p, g28, g28p, g35, g35p, g41, g41p, g47, g47p, g52, g52p]; done) | (simp [itmP, g20, g20p, g28, g28p, g35, g35p, g41, g41p, g47, g47p, g52, g52p] <;> simp [bne]))]; simp
   exact absurd hv (by decide)
  have g52p := inR_iff.1 (not_is_false g52)
  refine zsk (ztn ?_)
  refine An.start (fun v => Hp w v [bx b_10 108 [(ii x_3.id), (ii x_3.kind), (ii x_3.frames), (ii x_3.sponsor), (ii x_3.rating)] true, (mapB m1 (itM (its3.take i)) false)] [boxK b 161 [(ii c), (ii nm), (ii 1), (ii 0), (.slice none 0 0), (ii 0), (ii 2), (ii len), (ii 1), (.slice IA 3 ic), (.slice none 0 0), (.slice none 0 0), (.slice none 0 0), (.map (some m1)), (.map (some m2))], rowF 5 itC IA its3]) 7 8 HP wide_follows rfl fun w_17 HP => ?_
  refine An.go H (.inr (HP)) 5 [0, 1, 2] [(55, (pt b 13))] [] fun a H => ?_
  refine An.vw H (HP) 3 56 (.map (some m1)) (fun _ hS => ex_l1 (Box.cell (i := 13) (hS.fact 0 rfl : Box _ b 161 _) rfl)) fun a H => ?_
  refine An.go H (.inr (HP)) 1 [4, 5, 6] [(58, (ii x_3.id)), (59, (.agg #[(ii x_3.id), (ii x_3.kind), (ii x_3.frames), (ii x_3.sponsor), (ii x_3.rating)]))] [0, 0] fun a H => ?_
  refine An.one 7 (by kernel_rfl) ?_
  refine Op.pushM (kt := 3) (et := 108) (k := x_3.id) (v := (.agg #[(ii x_3.id), (ii x_3.kind), (ii x_3.frames), (ii x_3.sponsor), (ii x_3.rating)])) H HP 1 [bx b_10 108 [(ii x_3.id), (ii x_3.kind), (ii x_3.frames), (ii x_3.sponsor), (ii x_3.rating)] true, (mapB m1 ((itM (its3.take i)) ++ [(x_3.id, (.agg #[(ii x_3.id), (ii x_3.kind), (ii x_3.frames), (ii x_3.sponsor), (ii x_3.rating)]))]) false)] rfl (by kernel_rfl) (by kernel_rfl) (by kernel_rfl) (by kernel_rfl) (by kernel_rfl) (by kernel_rfl) rfl (mget_none (fr_it hfr)) (by kernel_rfl) fun w_18 a H HP => ?_
  have HP : Hp w w_18 [bx b_10 108 [(ii x_3.id), (ii x_3.kind), (ii x_3.frames), (ii x_3.sponsor), (ii x_3.rating)] true, (mapB m1 (itM (its3.take (i + 1))) false)] [boxK b 161 [(ii c), (ii nm), (ii 1), (ii 0), (.slice none 0 0), (ii 0), (ii 2), (ii len), (ii 1), (.slice IA 3 ic), (.slice none 0 0), (.slice none 0 0), (.slice none 0 0), (.map (some m1)), (.map (some m2))], rowF 5 itC IA its3] := by have hh := HP; rw [show (itM (its3.take i)) ++ [(x_3.id, (.agg #[(ii x_3.id), (ii x_3.kind), (ii x_3.frames), (ii x_3.sponsor), (ii x_3.rating)]))] = (itM (its3.take (i + 1))) from itM_snoc hx_7] at hh; exact hh
  refine ⟨.inl (by kernel_rfl), ?_⟩
  refine An.done (by kernel_rfl) ?_
  refine zibn (ztn (zrg ?_))
  refine H.wi 60 ((i : Int) + 1) fun a H => ?_
  refine H.ge HP [(27, (ii ((i : Int) + 1)))] [] fun a H => ?_
  refine ztn ?_
  have H := H.as 27 (ii ((i + 1 : Nat) : Int)) rfl rfl
  refine ⟨_, ?_, i + 1, rfl, H.keep (by kernel_rfl), (HP.tail rfl), (by omega), (by rw [hrel, hd_8, List.all_cons, show itmP x_3 = true from by (first | (rw [Bool.eq_iff_iff]; (try simp only [itmP, g20, g20p, g28, g28p, g35, g35p, g41, g41p, g47, g47p, g52, g52p]); (try simp only [Bool.and_eq_true, Bool.or_eq_true, Bool.not_eq_true', Bool.false_eq_true, decide_eq_true_eq, decide_eq_false_iff_not, inR_iff, inR_not, beq_iff_eq, bne_iff_ne, beq_eq_false_iff_ne, ne_eq, Bool.true_and, Bool.and_true, Bool.false_and, Bool.and_false, Bool.true_or, Bool.or_true, Bool.false_or, Bool.or_false, Bool.not_true, Bool.not_false, and_true, true_and, iff_true, true_iff, iff_false, false_iff, or_true, true_or, or_false, false_or, not_true_eq_false, not_false_eq_true, and_false, false_and]); first | omega | (simp; done) | (simp; omega)) | (simp [itmP, g20, g20p, g28, g28p, g35, g35p, g41, g41p, g47, g47p, g52, g52p]; done) | (simp [itmP, g20, g20p, g28, g28p, g35, g35p, g41, g41p, g47, g47p, g52, g52p] <;> simp [bne]))]; rfl)⟩
  omega
 have g28p := of_decide_eq_false g28
 refine wp_exit (then_exit (then_exit ?_))
 refine w_exit_here ?_
 refine ztn (zsq ?_)
 have ht : its3.take i = its3 := List.take_of_length_le (by omega)
 rw [ht] at HP
 refine An.start (fun v => Hp w v [(mapB m1 (itM its3) false)] [boxK b 161 [(ii c), (ii nm), (ii 1), (ii 0), (.slice none 0 0), (ii 0), (ii 2), (ii len), (ii 1), (.slice IA 3 ic), (.slice none 0 0), (.slice none 0 0), (.slice none 0 0), (.map (some m1)), (.map (some m2))], rowF 5 itC IA its3]) 13 13 HP wide_follows rfl fun w_19 HP => ?_
 refine An.go H (.inr (HP)) 10 [0, 1, 2] [(63, (pt b 13))] [] fun a H => ?_
 refine An.vw H (HP) 3 64 (.map (some m1)) (fun _ hS => ex_l1 (Box.cell (i := 13) (hS.fact 0 rfl : Box _ b 161 _) rfl)) fun a H => ?_
 refine An.go H (.inr (HP)) 5 [4, 5, 6, 7] [(68, (pt b 8))] [] fun a H => ?_
 refine An.vw H (HP) 8 69 (ii 1) (fun _ hS => ex_l1 (Box.cell (i := 8) (hS.fact 0 rfl : Box _ b 161 _) rfl)) fun a H => ?_
 refine An.vw H (HP) 9 70 (.agg #[(ii ((gI its3 1).id)), (ii ((gI its3 1).kind)), (ii ((gI its3 1).frames)), (ii ((gI its3 1).sponsor)), (ii ((gI its3 1).rating))]) (fun _ hS => ex_lookI (l := its3) (kt := 3) (et := 108) (s1 := 5) (s2 := 40) (by kernel_rfl) (by kernel_rfl) (by kernel_rfl) (by kernel_rfl) (by kernel_rfl) (hS.mapAt 0 rfl)) fun a H => ?_
 refine An.go H (.inr (HP)) 0 [10, 11, 12] [(2, (.bool (((gI its3 1).kind) == 5)))] [] fun a H => ?_
 refine An.done (by kernel_rfl) ?_
 refine ztn (zrt ?_)
 refine H.r1 (.bool (((gI its3 1).kind) == 5)) Tryz.results63 ?_
 exact ⟨rfl, HP.mapAt 0 rfl, HP.only m1 (by simp [bx, mapB])⟩
theorem hasBookings_any (b m1 m2 : Nat) (c nm len : Int) (IA : Option Addr) (ic : Nat) (w : World) (hb : Box w b 161 [(ii c), (ii nm), (ii 1), (ii 0), (.slice none 0 0), (ii 0), (ii 2), (ii len), (ii 1), (.slice IA 3 ic), (.slice none 0 0), (.slice none 0 0), (.slice none 0 0), (.map (some m1)), (.map (some m2))].toArray) :
  Calls Tryz.prog 64 #[.pointer (some ⟨b, 0, none⟩)] w fun e w' => e = .returned (.bool true) ∧ Below w.heap.size w w' := by
 have HP := ((Hp.start w).keepF (boxK b 161 [(ii c), (ii nm), (ii 1), (ii 0), (.slice none 0 0), (ii 0), (ii 2), (ii len), (ii 1), (.slice IA 3 ic), (.slice none 0 0), (.slice none 0 0), (.slice none 0 0), (.map (some m1)), (.map (some m2))]) hb (boxK_ok _ _ _) (fun k hk => ⟨boxK_lt hb hk, fun x hx => by cases hx⟩))
 refine w_enter 93 [(0, (pt b 0))] Tryz.func64 rfl Tryz.ntmps64 (by kernel_rfl) (by kernel_rfl) fun a H => ?_
 refine zsq (zrg ?_)
 refine H.ge HP [(2, (.bool false))] [] fun a H => ?_
 refine ztn (zsq (zsq (zrg ?_)))
 refine H.go HP 4 [(9, (pt b 11))] [] fun a H => H.u 10 (.slice none 0 0) (ex_l1 (Box.cell (i := 11) (HP.fact 0 rfl : Box _ b 161 _) rfl)) fun a H => H.go HP 7 [(13, (.bool false)), (17, (pt b 11))] [] fun a H => H.u 18 (.slice none 0 0) (ex_l1 (Box.cell (i := 11) (HP.fact 0 rfl : Box _ b 161 _) rfl)) fun a H => ?_
 refine H.cl 19 (Tryz.call110 _ _) (ascB_any none 0 [] 1 1000000 w (IsRow.nil _ _) (by decide) (by omega)) ?_
 rintro e w_1 ⟨rfl, hb2⟩
 refine ⟨_, rfl, ?_⟩
 intro a H
 have HP := HP.next hb2
 refine H.ge HP [(21, (.bool false))] [] fun a H => ?_
 refine ztn ?_
 refine w_iff H rfl ?_
 refine zsk (ztn (zsq (zsq (zrg ?_))))
 refine H.go HP 4 [(25, (pt b 11))] [] fun a H => H.u 26 (.slice none 0 0) (ex_l1 (Box.cell (i := 11) (HP.fact 0 rfl : Box _ b 161 _) rfl)) fun a H => ?_
 refine H.ge HP [(27, (ii 0)), (28, (ii 0))] [] fun a H => ?_
 refine ztn (zbk ?_)
 refine w_loop (fun mm a wv => 0 = mm ∧ Sl 93 [(27, (ii 0)), (28, (ii 0)), (26, (.slice none 0 0)), (25, (pt b 11)), (21, (.bool false)), (19, (.bool true)), (18, (.slice none 0 0)), (13, (.bool false)), (17, (pt b 11)), (10, (.slice none 0 0)), (9, (pt b 11)), (2, (.bool false)), (0, (pt b 0))] a ∧ Hp w wv [] [boxK b 161 [(ii c), (ii nm), (ii 1), (ii 0), (.slice none 0 0), (ii 0), (ii 2), (ii len), (ii 1), (.slice IA 3 ic), (.slice none 0 0), (.slice none 0 0), (.slice none 0 0), (.map (some m1)), (.map (some m2))]]) (0) ?_ ?_
 ·exact ⟨(by omega), H.keep (by kernel_rfl), HP⟩
 rintro mm a w_2 ⟨hmeas, H, HP⟩
 refine zsq (zrg ?_)
 refine H.ge HP [(29, (.bool false))] [] fun a H => ?_
 refine ztn (zsq ?_)
 refine w_iff H rfl ?_
 refine wp_exit (then_exit (then_exit ?_))
 refine w_exit_here ?_
 refine ztn (zsq (zrg ?_))
 refine H.ge HP [(2, (.bool true))] [] fun a H => ?_
 refine ztn (zrt ?_)
 refine H.r1 (.bool true) Tryz.results64 ?_
 exact ⟨rfl, HP.bl⟩
theorem hasEntries_any (b m1 m2 : Nat) (c nm len : Int) (IA : Option Addr) (ic : Nat) (w : World) (hb : Box w b 161 [(ii c), (ii nm), (ii 1), (ii 0), (.slice none 0 0), (ii 0), (ii 2), (ii len), (ii 1), (.slice IA 3 ic), (.slice none 0 0), (.slice none 0 0), (.slice none 0 0), (.map (some m1)), (.map (some m2))].toArray) :
  Calls Tryz.prog 65 #[.pointer (some ⟨b, 0, none⟩)] w fun e w' => e = .returned (.bool true) ∧ Below w.heap.size w w' := by
 have HP := ((Hp.start w).keepF (boxK b 161 [(ii c), (ii nm), (ii 1), (ii 0), (.slice none 0 0), (ii 0), (ii 2), (ii len), (ii 1), (.slice IA 3 ic), (.slice none 0 0), (.slice none 0 0), (.slice none 0 0), (.map (some m1)), (.map (some m2))]) hb (boxK_ok _ _ _) (fun k hk => ⟨boxK_lt hb hk, fun x hx => by cases hx⟩))
 refine w_enter 56 [(0, (pt b 0))] Tryz.func65 rfl Tryz.ntmps65 (by kernel_rfl) (by kernel_rfl) fun a H => ?_
 refine zsq (zrg ?_)
 refine H.ge HP [(2, (.bool false))] [] fun a H => ?_
 refine ztn (zsq (zsq (zrg ?_)))
 refine H.go HP 4 [(9, (pt b 10))] [] fun a H => H.u 10 (.slice none 0 0) (ex_l1 (Box.cell (i := 10) (HP.fact 0 rfl : Box _ b 161 _) rfl)) fun a H => ?_
 refine H.ge HP [(12, (.bool false))] [] fun a H => ?_
 refine ztn ?_
 refine w_iff H rfl ?_
 refine zsk (ztn (zsq (zrg ?_)))
 refine H.newMap HP 13 (by kernel_rfl) fun m_1 w_2 a H HP => ?_
 have HP : Hp w w_2 [(mapB m_1 (seM ([])) true)] [boxK b 161 [(ii c), (ii nm), (ii 1), (ii 0), (.slice none 0 0), (ii 0), (ii 2), (ii len), (ii 1), (.slice IA 3 ic), (.slice none 0 0), (.slice none 0 0), (.slice none 0 0), (.map (some m1)), (.map (some m2))]] := HP
 refine H.ge HP [(3, (.map (some m_1)))] [] fun a H => ?_
 refine ztn (zsq (zsq (zrg ?_)))
 refine H.go HP 4 [(17, (pt b 10))] [] fun a H => H.u 18 (.slice none 0 0) (ex_l1 (Box.cell (i := 10) (HP.fact 0 rfl : Box _ b 161 _) rfl)) fun a H => ?_
 refine H.ge HP [(19, (ii 0)), (20, (ii 0))] [] fun a H => ?_
 refine ztn (zbk ?_)
 refine w_loop (fun mm a wv => 0 = mm ∧ Sl 56 [(19, (ii 0)), (20, (ii 0)), (18, (.slice none 0 0)), (17, (pt b 10)), (3, (.map (some m_1))), (13, (.map (some m_1))), (12, (.bool false)), (10, (.slice none 0 0)), (9, (pt b 10)), (2, (.bool false)), (0, (pt b 0))] a ∧ Hp w wv [(mapB m_1 (seM ([])) true)] [boxK b 161 [(ii c), (ii nm), (ii 1), (ii 0), (.slice none 0 0), (ii 0), (ii 2), (ii len), (ii 1), (.slice IA 3 ic), (.slice none 0 0), (.slice none 0 0), (.slice none 0 0), (.map (some m1)), (.map (some m2))]]) (0) ?_ ?_
 ·exact ⟨(by omega), H.keep (by kernel_rfl), HP⟩
 rintro mm a w_3 ⟨hmeas, H, HP⟩
 refine zsq (zrg ?_)
 refine H.ge HP [(21, (.bool false))] [] fun a H => ?_
 refine ztn (zsq ?_)
 refine w_iff H rfl ?_
 refine wp_exit (then_exit (then_exit ?_))
 refine w_exit_here ?_
 refine ztn (zsq (zrg ?_))
 refine H.ge HP [(2, (.bool true))] [] fun a H => ?_
 refine ztn (zrt ?_)
 refine H.r1 (.bool true) Tryz.results65 ?_
 exact ⟨rfl, HP.bl⟩
theorem hasClauses_any (b m1 m2 : Nat) (c nm len : Int) (IA : Option Addr) (ic : Nat) (w : World) (hb : Box w b 161 [(ii c), (ii nm), (ii 1), (ii 0), (.slice none 0 0), (ii 0), (ii 2), (ii len), (ii 1), (.slice IA 3 ic), (.slice none 0 0), (.slice none 0 0), (.slice none 0 0), (.map (some m1)), (.map (some m2))].toArray) :
  Calls Tryz.prog 66 #[.pointer (some ⟨b, 0, none⟩)] w fun e w' => e = .returned (.bool true) ∧ Below w.heap.size w w' := by
 have HP := ((Hp.start w).keepF (boxK b 161 [(ii c), (ii nm), (ii 1), (ii 0), (.slice none 0 0), (ii 0), (ii 2), (ii len), (ii 1), (.slice IA 3 ic), (.slice none 0 0), (.slice none 0 0), (.slice none 0 0), (.map (some m1)), (.map (some m2))]) hb (boxK_ok _ _ _) (fun k hk => ⟨boxK_lt hb hk, fun x hx => by cases hx⟩))
 refine w_enter 26 [(0, (pt b 0))] Tryz.func66 rfl Tryz.ntmps66 (by kernel_rfl) (by kernel_rfl) fun a H => ?_
 refine zsq (zrg ?_)
 refine H.ge HP [(2, (.bool false))] [] fun a H => ?_
 refine ztn (zsq (zsq (zrg ?_)))
 refine H.go HP 4 [(5, (pt b 0)), (8, (pt b 12))] [] fun a H => H.u 9 (.slice none 0 0) (ex_l1 (Box.cell (i := 12) (HP.fact 0 rfl : Box _ b 161 _) rfl)) fun a H => ?_
 refine H.ge HP [(11, (.bool false))] [] fun a H => ?_
 refine ztn ?_
 refine w_iff H rfl ?_
 refine zsk (ztn (zsq (zsq (zrg ?_))))
 refine H.go HP 4 [(15, (pt b 12))] [] fun a H => H.u 16 (.slice none 0 0) (ex_l1 (Box.cell (i := 12) (HP.fact 0 rfl : Box _ b 161 _) rfl)) fun a H => ?_
 refine H.ge HP [(17, (ii 0)), (18, (ii 0))] [] fun a H => ?_
 refine ztn (zbk ?_)
 refine w_loop (fun mm a wv => 0 = mm ∧ Sl 26 [(17, (ii 0)), (18, (ii 0)), (16, (.slice none 0 0)), (15, (pt b 12)), (11, (.bool false)), (9, (.slice none 0 0)), (5, (pt b 0)), (8, (pt b 12)), (2, (.bool false)), (0, (pt b 0))] a ∧ Hp w wv [] [boxK b 161 [(ii c), (ii nm), (ii 1), (ii 0), (.slice none 0 0), (ii 0), (ii 2), (ii len), (ii 1), (.slice IA 3 ic), (.slice none 0 0), (.slice none 0 0), (.slice none 0 0), (.map (some m1)), (.map (some m2))]]) (0) ?_ ?_
 ·exact ⟨(by omega), H.keep (by kernel_rfl), HP⟩
 rintro mm a w_1 ⟨hmeas, H, HP⟩
 refine zsq (zrg ?_)
 refine H.ge HP [(19, (.bool false))] [] fun a H => ?_
 refine ztn (zsq ?_)
 refine w_iff H rfl ?_
 refine wp_exit (then_exit (then_exit ?_))
 refine w_exit_here ?_
 refine ztn (zsq (zrg ?_))
 refine H.ge HP [(2, (.bool true))] [] fun a H => ?_
 refine ztn (zrt ?_)
 refine H.r1 (.bool true) Tryz.results66 ?_
 exact ⟨rfl, HP.bl⟩
theorem pvalid_any (c nm len : Int) (IA : Option Addr) (ic : Nat) (w : World) (hc : 0 ≤ c ∧ c ≤ 39) (hr : rateOk nm 1 = true) (hL : Laid w) (hi : IsRow 5 itC w IA its3) :
  Calls Tryz.prog 35 #[.agg (planC c nm len IA ic)] w fun e w' => e = .returned (.bool (inR len 1 100000000)) ∧ Below w.heap.size w w' := by
 have HP := (((Hp.start w).keepF (rowF 5 itC IA its3) hi (rowF_ok _ _ _ _) (fun k hk => ⟨hi.lt k hk, fun x hx => by cases hx⟩)).keepF (laidK) hL laidK_ok (fun k hk => ⟨hL.lt k hk, fun x hx => by cases hx⟩))
 refine w_enter 21 [(0, (.agg #[(ii c), (ii nm), (ii 1), (ii 0), (.slice none 0 0), (ii 0), (ii 2), (ii len), (ii 1), (.slice IA 3 ic), (.slice none 0 0), (.slice none 0 0), (.slice none 0 0)]))] Tryz.func35 rfl Tryz.ntmps35 (by kernel_rfl) (by kernel_rfl) fun a H => ?_
 refine zsq (zrg ?_)
 refine H.al HP 1 67 [(ii c), (ii nm), (ii 1), (ii 0), (.slice none 0 0), (ii 0), (ii 2), (ii len), (ii 1), (.slice IA 3 ic), (.slice none 0 0), (.slice none 0 0), (.slice none 0 0)] fun b_1 w_2 a H HP => ?_
 refine H.ge HP [(2, (.bool false))] [] fun a H => ?_
 refine ztn (zsq (zrg ?_))
 refine H.go HP 1 [(4, (.agg #[(ii c), (ii nm), (ii 1), (ii 0), (.slice none 0 0), (ii 0), (ii 2), (ii len), (ii 1), (.slice IA 3 ic), (.slice none 0 0), (.slice none 0 0), (.slice none 0 0)]))] [0] fun a H => ?_
 refine H.newMap HP 5 (by kernel_rfl) fun m_3 w_4 a H HP => ?_
 have HP : Hp w w_4 [(mapB m_3 (itM ([])) true), bx b_1 67 [(ii c), (ii nm), (ii 1), (ii 0), (.slice none 0 0), (ii 0), (ii 2), (ii len), (ii 1), (.slice IA 3 ic), (.slice none 0 0), (.slice none 0 0), (.slice none 0 0)] true] [laidK, rowF 5 itC IA its3] := HP
 refine H.newMap HP 6 (by kernel_rfl) fun m_5 w_6 a H HP => ?_
 have HP : Hp w w_6 [(mapB m_5 (bkM ([])) true), (mapB m_3 (itM ([])) true), bx b_1 67 [(ii c), (ii nm), (ii 1), (ii 0), (.slice none 0 0), (ii 0), (ii 2), (ii len), (ii 1), (.slice IA 3 ic), (.slice none 0 0), (.slice none 0 0), (.slice none 0 0)] true] [laidK, rowF 5 itC IA its3] := HP
 refine H.go HP 1 [(7, (.agg #[(ii c), (ii nm), (ii 1), (ii 0), (.slice none 0 0), (ii 0), (ii 2), (ii len), (ii 1), (.slice IA 3 ic), (.slice none 0 0), (.slice none 0 0), (.slice none 0 0), (.map (some m_3)), (.map (some m_5))]))] [] fun a H => H.al HP 3 161 [(ii 0), (ii 0), (ii 0), (ii 0), (.slice none 0 0), (ii 0), (ii 0), (ii 0), (ii 0), (.slice none 0 0), (.slice none 0 0), (.slice none 0 0), (.slice none 0 0), (.map none), (.map none)] fun b_7 w_8 a H HP => H.sh HP 0 0 (.agg #[(ii c), (ii nm), (ii 1), (ii 0), (.slice none 0 0), (ii 0), (ii 2), (ii len), (ii 1), (.slice IA 3 ic), (.slice none 0 0), (.slice none 0 0), (.slice none 0 0), (.map (some m_3)), (.map (some m_5))]) rfl fun w_9 a H HP => ?_
 refine znl (ztn (zsq (zrg ?_)))
 refine H.cb HP 8 (Tryz.call62 _ _) (sound_any b_7 m_3 m_5 c nm len IA ic w_9 hc hr (HP.fact 0 rfl) (HP.at_ 0 rfl)) fun w_10 hb a H HP => H.go HP 1 [(9, (.bool (inR len 1 100000000)))] [] fun a H => ?_
 refine H.split 9 rfl (fun g9 H => ?_) (fun g9 H => ?_)
 ·have g9p := g9
  refine H.cl 10 (Tryz.call63 _ _) (hasItems_any b_7 m_3 m_5 c nm len IA ic w_10 (HP.mapAt 2 rfl) (fun hk => HP.fp_new 2 rfl (hi.lt _ hk) rfl) (HP.at_ 0 rfl) (HP.fact 1 rfl)) ?_
  rintro e w_11 ⟨rfl, hml, hg⟩
  refine ⟨_, rfl, ?_⟩
  intro a H
  have HP := HP.changedM 2 rfl (itM its3) [bx b_7 161 [(ii c), (ii nm), (ii 1), (ii 0), (.slice none 0 0), (ii 0), (ii 2), (ii len), (ii 1), (.slice IA 3 ic), (.slice none 0 0), (.slice none 0 0), (.slice none 0 0), (.map (some m_3)), (.map (some m_5))] true, (mapB m_5 (bkM ([])) true), (mapB m_3 (itM its3) true), bx b_1 67 [(ii c), (ii nm), (ii 1), (ii 0), (.slice none 0 0), (ii 0), (ii 2), (ii len), (ii 1), (.slice IA 3 ic), (.slice none 0 0), (.slice none 0 0), (.slice none 0 0)] true] (by kernel_rfl) hg hml
  refine H.go HP 2 [(12, (.bool true))] [] fun a H => H.cb HP 13 (Tryz.call64 _ _) (hasBookings_any b_7 m_3 m_5 c nm len IA ic w_11 (HP.at_ 0 rfl)) fun w_12 hb a H HP => H.go HP 2 [(15, (.bool true))] [] fun a H => H.cb HP 16 (Tryz.call65 _ _) (hasEntries_any b_7 m_3 m_5 c nm len IA ic w_12 (HP.at_ 0 rfl)) fun w_13 hb a H HP => H.go HP 2 [(18, (.bool true))] [] fun a H => H.cb HP 19 (Tryz.call66 _ _) (hasClauses_any b_7 m_3 m_5 c nm len IA ic w_13 (HP.at_ 0 rfl)) fun w_14 hb a H HP => ?_
  refine H.ge HP [(2, (.bool true))] [] fun a H => ?_
  refine ztn (zrt ?_)
  refine H.r1 (.bool true) Tryz.results35 ?_
  exact ⟨by rw [show inR len 1 100000000 = true from g9], HP.bl⟩
 have g9p := g9
 refine H.ge HP [(2, (.bool false))] [] fun a H => ?_
 refine ztn (zrt ?_)
 refine H.r1 (.bool false) Tryz.results35 ?_
 exact ⟨by rw [show inR len 1 100000000 = false from g9], HP.bl⟩
def over (l : List UInt8) (o : Nat) (s : List UInt8) : List UInt8 := l.take o ++ s ++ l.drop (o + s.length)
theorem placed_mem {L : List HB} {x : HB} : ∀ {is : List Nat}, x ∈ placed L is → ∃ i ∈ is, L[i]? = some x
  | [], h => by cases h
  | i :: is, h => by
    simp only [placed] at h
    split at h
    · rename_i y hy
      rcases List.mem_cons.1 h with rfl | h
      · exact ⟨i, List.mem_cons_self .., hy⟩
      · obtain ⟨j, hj, e⟩ := placed_mem h; exact ⟨j, List.mem_cons_of_mem _ hj, e⟩
    · obtain ⟨j, hj, e⟩ := placed_mem h; exact ⟨j, List.mem_cons_of_mem _ hj, e⟩
def distinct : List Nat → Bool
  | [] => true
  | i :: is => !is.contains i && distinct is
theorem Hp.sub {w0 w : World} {L : List HB} {K : List FK} (H : Hp w0 w L K) (is : List Nat) (L' : List HB) (hL : placed L is = L') (hd : (distinct is && L.all fun x => x.fresh) = true) : Hp w0 w L' K := by
  subst hL
  simp only [Bool.and_eq_true] at hd
  have hmem : ∀ x ∈ placed L is, x ∈ L := fun x hx => let ⟨_, _, e⟩ := placed_mem hx; List.mem_of_getElem? e
  refine ⟨H.os, H.tape, H.output, H.size, fun k hk _ => H.old k hk fun x hx h => ?_, fun x hx => H.res x (hmem x hx), ?_, fun x hx => H.fresh x (hmem x hx), fun p hp => let ⟨h1, h2, h3⟩ := H.kept p hp; ⟨h1, h2, fun k hk => ⟨(h3 k hk).1, fun x hx => (h3 k hk).2 x (hmem x hx)⟩⟩⟩
  · have := H.fresh x hx (List.all_eq_true.1 hd.2 x hx) k h
    omega
  · have hd1 := hd.1
    clear hd hmem
    induction is with
    | nil => exact .nil
    | cons i is ih =>
      simp only [distinct, Bool.and_eq_true, Bool.not_eq_true', List.contains_eq_mem, decide_eq_false_iff_not] at hd1
      simp only [placed]
      split
      · rename_i x hx
        refine .cons (fun y hy => ?_) (ih hd1.2)
        obtain ⟨j, hj, e⟩ := placed_mem hy
        exact pairwise_at H.apart hx e fun h => hd1.1 (h ▸ hj)
      · exact ih hd1.2
def astOk (a : AstA) (w : World) : Prop := a.ok w
def astFp (a : AstA) (k : Nat) : Prop := rowFp a.pics.length a.A k
theorem elOk_ast : ElOk astOk astFp := fun _ _ _ h hk hs => ⟨⟨h.1.1, h.1.2.keep hk hs⟩, h.2⟩
def sameA (l l' : List AstA) : Prop := (l.map fun a => (a.item, a.pics)) = l'.map fun a => (a.item, a.pics)
theorem sameA_snoc {l l' : List AstA} {X : AstA} {B : Option Addr} {d : Nat} (h : sameA l l') : sameA (l ++ [⟨X.item, B, d, X.pics⟩]) (l' ++ [X]) := by
 unfold sameA at *
 simp [h]
structure PlS where
 c : Int
 nm : Int
 len : Int
 IA : Option Addr
 ic : Nat
abbrev plnC (p : PlS) : Array Value := planC p.c p.nm p.len p.IA p.ic
theorem plnC_size (p : PlS) : (plnC p).size = 13 := rfl
def itsK (ps : List PlS) : FK := ⟨fun k => ∃ p ∈ ps, rowFp 3 p.IA k, fun w => ∀ p ∈ ps, IsRow 5 itC w p.IA its3⟩
theorem itsK_ok (ps : List PlS) : (itsK ps).ok := fun _ _ h hk hs p hp => (h p hp).keep (fun k hf => hk k ⟨p, hp, hf⟩) hs
theorem itsK_lt {w : World} {ps : List PlS} (h : ∀ p ∈ ps, IsRow 5 itC w p.IA its3) {k : Nat} (hk : (itsK ps).fp k) : k < w.heap.size := by
 obtain ⟨p, hp, hk⟩ := hk
 exact (h p hp).lt k hk
def mkCh (p : PlS) : Ch := ⟨0, 0, 500, 0, p.c, p.nm, 1⟩
theorem ch_row {w : World} {base n c : Nat} {e : TypeId} {A : Option Addr} {l : List PlS} (h : (rowsR base e 7 chC okT feF (.slice A n c) (l.map mkCh)).F w) (hn : l.length = n) : IsRow 7 chC w A (l.map mkCh) := IsRow.ofOwn h (by rw [List.length_map]; exact hn)
def okP (seen : List Int) : List PlS → Bool
 | [] => true
 | p :: l => inR p.len 1 100000000 && (!(seen.contains p.c) && okP (seen ++ [p.c]) l)
theorem mk_any (l : List PlS) (k : Int) : (l.map mkCh).any (fun c => c.number == k) = (l.map (·.c)).contains k := by
 induction l with
 | nil => rfl
 | cons a l ih =>
  rw [List.map_cons, List.any_cons, ih, List.map_cons, List.contains_cons]
  congr 1
  rw [Bool.eq_iff_iff]; simp only [mkCh, beq_iff_eq]; exact eq_comm
theorem okP_step {l l2 : List PlS} {p : PlS} (h1 : inR p.len 1 100000000 = true) (h2 : (l.map mkCh).any (fun c => c.number == p.c) = false) : okP (l.map (·.c)) (p :: l2) = okP (l.map (·.c) ++ [p.c]) l2 := by
 rw [mk_any] at h2
 rw [okP, h1, h2]; rfl
theorem okP_len {s : List Int} {l2 : List PlS} {p : PlS} (h1 : inR p.len 1 100000000 = false) : okP s (p :: l2) = false := by rw [okP, h1]; rfl
theorem okP_num {l l2 : List PlS} {p : PlS} (h2 : (l.map mkCh).any (fun c => c.number == p.c) = true) : okP (l.map (·.c)) (p :: l2) = false := by
 rw [mk_any] at h2
 rw [okP, h2]; simp
def newP (ps : List PlS) (lib : List AstA) : Bool := decide (1 ≤ ps.length) && (decide (ps.length ≤ 40) && (okP [] ps && lib.all fun a => validA a.item a.pics))
theorem newP_few {ps : List PlS} {lib : List AstA} (h : ps.length < 1 ∨ 40 < ps.length) : newP ps lib = false := by
 unfold newP
 rcases h with h | h
 ·rw [decide_eq_false (show ¬ 1 ≤ ps.length by omega)]; rfl
 ·rw [decide_eq_false (show ¬ ps.length ≤ 40 by omega)]; simp
theorem newP_bad {ps : List PlS} {lib : List AstA} (h : okP [] ps = false) : newP ps lib = false := by unfold newP; rw [h]; simp
theorem newP_lib {ps : List PlS} {lib : List AstA} {X : AstA} (hm : X ∈ lib) (h : validA X.item X.pics = false) : newP ps lib = false := by
 unfold newP
 have : (lib.all fun a => validA a.item a.pics) = false := by
  rw [List.all_eq_false]
  exact ⟨X, hm, by simp [h]⟩
 simp [this]
structure SelN (ps : List PlS) (lib : List AstA) (n0 bs bc cc : Nat) (SA : Option Addr) (sc : Nat) (l' : List AstA) (rest : List Value) (w : World) : Prop where
 box : Box w bs 111 (selL bc ps.length cc SA l'.length sc false 0 0).toArray
 chs : Box w bc 115 (flat chC (ps.map mkCh) ++ rest).toArray
 asts : IsAsts w SA l'.length l'
 same : sameA l' lib
 len : l'.length ≤ maxLen
 pics : ∀ a ∈ l', a.pics.length ≤ 2000000
 ne : bs ≠ bc
 sb : ¬ libFp SA l' bs
 sc : ¬ libFp SA l' bc
 nb : n0 ≤ bs
 nc : n0 ≤ bc
 nl : ∀ k, libFp SA l' k → n0 ≤ k
def RetSel (ps : List PlS) (lib : List AstA) (w : World) (e : Ending) (w' : World) : Prop :=
 (newP ps lib = false ∧ e = .returned (.tuple #[.pointer none, .int .i64 220]) ∧ Below w.heap.size w w') ∨
 (newP ps lib = true ∧ ∃ bs bc cc SA sc l' rest, e = .returned (.tuple #[.pointer (some ⟨bs, 0, none⟩), .int .i64 0]) ∧ SelN ps lib w.heap.size bs bc cc SA sc l' rest w' ∧ Below w.heap.size w w')
theorem new_end {w w' : World} {bS : Nat} {ps : List PlS} {lib : List AstA} {CA SA : Option Addr} {cc sc : Nat} {l' : List AstA} {K : List FK}
  (HP : Hp w w' [rowsR w.heap.size 91 2 AstA.cells astOk astFp (.slice SA l'.length sc) l', rowsR w.heap.size 115 7 chC okT feF (.slice CA ps.length cc) (ps.map mkCh), bx bS 111 [.slice CA ps.length cc, .slice SA l'.length sc, .bool false, .int .i64 0, .int .i64 0] true] K)
  (hok : okP [] ps = okP (ps.map (·.c)) []) (hn : 1 ≤ ps.length ∧ ps.length ≤ 40) (hll : l'.length = lib.length) (hsame : sameA l' lib) (hval : ∀ a ∈ lib, validA a.item a.pics = true) (hacc : ∀ a ∈ l', a.pics.length ≤ 2000000) (hln : lib.length ≤ maxLen) :
  newP ps lib = true ∧ ∃ bs bc cc SA sc l' rest, Ending.returned (.tuple #[.pointer (some ⟨bS, 0, none⟩), .int .i64 0]) = .returned (.tuple #[.pointer (some ⟨bs, 0, none⟩), .int .i64 0]) ∧ SelN ps lib w.heap.size bs bc cc SA sc l' rest w' ∧ Below w.heap.size w w' := by
 have hb := HP.bl
 obtain ⟨g, tail, rfl, hc, HQ⟩ := HP.rowBox 1 rfl (by rw [List.length_map]) (by omega)
 have HQ : Hp w w' [rowsR w.heap.size 91 2 AstA.cells astOk astFp (.slice SA l'.length sc) l', bx g 115 (flat chC (ps.map mkCh) ++ tail) true, bx bS 111 [.slice (some ⟨g, 0, none⟩) ps.length cc, .slice SA l'.length sc, .bool false, .int .i64 0, .int .i64 0] true] K := HQ
 have hF := HQ.held 0 rfl
 have hrow : ∀ b off, SA = some ⟨b, off, none⟩ → (Value.slice SA l'.length sc).ownBlock = some b := fun b off e => by rw [e]; rfl
 have hfp : ∀ k, libFp SA l' k → (rowsR w.heap.size 91 2 AstA.cells astOk astFp (.slice SA l'.length sc) l').fp k := fun k hk => by
  rcases hk with ⟨_, off, e⟩ | hk
  ·exact .inl (hrow k off e)
  ·exact .inr hk
 refine ⟨?_, bS, g, cc, SA, sc, l', tail, rfl, ⟨HQ.at_ 2 rfl, HQ.at_ 1 rfl, ⟨⟨rfl, Rd.of_own hF.1⟩, fun a ha => (hF.2 a ha).1⟩, hsame, by omega, hacc, fun e => HQ.ne 1 2 rfl rfl (by decide) e.symm, fun hk => pairwise_at HQ.apart (i := 0) (j := 2) rfl rfl (by omega) _ (hfp _ hk) rfl, fun hk => pairwise_at HQ.apart (i := 0) (j := 1) rfl rfl (by omega) _ (hfp _ hk) rfl, HQ.fresh _ (List.mem_of_getElem? (i := 2) rfl) rfl _ rfl, HQ.fresh _ (List.mem_of_getElem? (i := 1) rfl) rfl _ rfl, fun k hk => HQ.fresh _ (List.mem_of_getElem? (i := 0) rfl) rfl _ (hfp k hk)⟩, hb⟩
 unfold newP
 rw [hok, decide_eq_true hn.1, decide_eq_true hn.2]
 simp only [okP, Bool.true_and]
 exact List.all_eq_true.2 fun a ha => hval a ha
theorem same_any (c : Ch) (bp : Nat) (p : PlS) (w : World) (hp : Box w bp 67 [(ii p.c), (ii p.nm), (ii 1), (ii 0), (.slice none 0 0), (ii 0), (ii 2), (ii p.len), (ii 1), (.slice p.IA 3 p.ic), (.slice none 0 0), (.slice none 0 0), (.slice none 0 0)].toArray) :
  Calls Tryz.prog 34 #[.agg (chC c), .pointer (some ⟨bp, 0, none⟩)] w fun e w' => e = .returned (.bool (c.number == p.c)) ∧ Below w.heap.size w w' := by
 have HP := ((Hp.start w).keepF (boxK bp 67 [(ii p.c), (ii p.nm), (ii 1), (ii 0), (.slice none 0 0), (ii 0), (ii 2), (ii p.len), (ii 1), (.slice p.IA 3 p.ic), (.slice none 0 0), (.slice none 0 0), (.slice none 0 0)]) hp (boxK_ok _ _ _) (fun k hk => ⟨boxK_lt hp hk, fun x hx => by cases hx⟩))
 refine w_enter 9 [(0, (.agg #[(ii c.item), (ii c.index), (ii c.full), (ii c.taken), (ii c.number), (ii c.num), (ii c.den)])), (1, (pt bp 0))] Tryz.func34 rfl Tryz.ntmps34 (by kernel_rfl) (by kernel_rfl) fun a H => ?_
 refine zsq (zrg ?_)
 refine H.al HP 2 115 [(ii c.item), (ii c.index), (ii c.full), (ii c.taken), (ii c.number), (ii c.num), (ii c.den)] fun b_1 w_2 a H HP => ?_
 refine H.ge HP [(3, (.bool false))] [] fun a H => ?_
 refine ztn (zsq (zrg ?_))
 refine H.go HP 3 [(4, (pt b_1 4)), (5, (ii c.number)), (6, (pt bp 0))] [0] fun a H => H.u 7 (ii p.c) (ex_l1 (Box.cell (i := 0) (HP.fact 0 rfl : Box _ bp 67 _) rfl)) fun a H => ?_
 refine H.ge HP [(3, (.bool (c.number == p.c)))] [] fun a H => ?_
 refine ztn (zrt ?_)
 refine H.r1 (.bool (c.number == p.c)) Tryz.results34 ?_
 exact ⟨rfl, HP.bl⟩
theorem index_any (CA : Option Addr) (cc bp : Nat) (chs : List Ch) (p : PlS) (w : World) (hl : chs.length ≤ 1000) (hr : IsRow 7 chC w CA chs) (hp : Box w bp 67 [(ii p.c), (ii p.nm), (ii 1), (ii 0), (.slice none 0 0), (ii 0), (ii 2), (ii p.len), (ii 1), (.slice p.IA 3 p.ic), (.slice none 0 0), (.slice none 0 0), (.slice none 0 0)].toArray) :
  Calls Tryz.prog 67 #[.slice CA chs.length cc, (.func (.func 34) #[] #[(pt bp 0)])] w fun e w' => ∃ r, e = .returned (ii r) ∧ decide (r ≥ 0) = chs.any (fun c => c.number == p.c) ∧ Below w.heap.size w w' := by
 have HP := (((Hp.start w).keepF (boxK bp 67 [(ii p.c), (ii p.nm), (ii 1), (ii 0), (.slice none 0 0), (ii 0), (ii 2), (ii p.len), (ii 1), (.slice p.IA 3 p.ic), (.slice none 0 0), (.slice none 0 0), (.slice none 0 0)]) hp (boxK_ok _ _ _) (fun k hk => ⟨boxK_lt hp hk, fun x hx => by cases hx⟩)).keepF (rowF 7 chC CA chs) hr (rowF_ok _ _ _ _) (fun k hk => ⟨hr.lt k hk, fun x hx => by cases hx⟩))
 refine w_enter 19 [(0, (.slice CA chs.length cc)), (1, (.func (.func 34) #[] #[(pt bp 0)]))] Tryz.func67 rfl Tryz.ntmps67 (by kernel_rfl) (by kernel_rfl) fun a H => ?_
 refine zsq (zrg ?_)
 refine H.ge HP [(4, (ii 0))] [] fun a H => ?_
 refine ztn (zsq (zsq (zrg ?_)))
 refine H.ge HP [(6, (.slice CA chs.length cc)), (7, (ii chs.length)), (8, (ii 0))] [] fun a H => ?_
 refine ztn (zbk ?_)
 refine w_loop (fun mm a wv => ∃ (i : Nat), chs.length - i = mm ∧ Sl 19 [(8, (ii i)), (6, (.slice CA chs.length cc)), (7, (ii chs.length)), (0, (.slice CA chs.length cc)), (1, (.func (.func 34) #[] #[(pt bp 0)]))] a ∧ Hp w wv [] [rowF 7 chC CA chs, boxK bp 67 [(ii p.c), (ii p.nm), (ii 1), (ii 0), (.slice none 0 0), (ii 0), (ii 2), (ii p.len), (ii 1), (.slice p.IA 3 p.ic), (.slice none 0 0), (.slice none 0 0), (.slice none 0 0)]] ∧ (i ≤ chs.length) ∧ (chs.any (fun c => c.number == p.c) = (chs.drop i).any (fun c => c.number == p.c))) (chs.length - 0) ?_ ?_
 ·exact ⟨0, (by omega), H.keep (by kernel_rfl), HP, (Nat.zero_le _), rfl⟩
 rintro mm a w_1 ⟨i, hmeas, H, HP, hib, hno⟩
 refine zsq (zrg ?_)
 refine H.ge HP [(9, (.bool (decide ((i : Int) < (chs.length : Int)))))] [] fun a H => ?_
 refine ztn (zsq ?_)
 refine w_if H rfl (fun g9 => ?_) (fun g9 => ?_)
 ·have g9p := of_decide_eq_true g9
  refine zsk (ztn (zsq (zbk (zsq (zrg ?_)))))
  refine H.ge HP [(5, (ii i))] [] fun a H => ?_
  refine ztn (zsq (zrg ?_))
  refine H.go HP 3 [(11, (.func (.func 34) #[] #[(pt bp 0)])), (12, (.slice CA chs.length cc)), (13, (ii i))] [] fun a H => ?_
  obtain ⟨bu, ou, x, hA, _, hdx, hx, _, _⟩ := IsRow.get chC_size (HP.fact 0 rfl : IsRow 7 chC _ CA chs) (i := i) (by omega)
  refine H.u 14 (.pointer (some ⟨bu, ou + i * 7, none⟩)) (ex_indexA (b := bu) (off := ou) (len := chs.length) (cap := cc) (e := 115) (k := 7) (ik := .i64) (i := (i : Int)) (m := i) hA (by kernel_rfl) (by kernel_rfl) rfl (by omega) (by kernel_rfl) (by kernel_rfl)) fun a H => H.u 15 (.agg #[(ii x.item), (ii x.index), (ii x.full), (ii x.taken), (ii x.number), (ii x.num), (ii x.den)]) (ex_lN [(ii x.item), (ii x.index), (ii x.full), (ii x.taken), (ii x.number), (ii x.num), (ii x.den)] (IsRow.cells chC_size (HP.fact 0 rfl : IsRow 7 chC _ CA chs) hA hx)) fun a H => H.cb HP 16 (Tryz.call34 _ _) (same_any x bp p w_1 (HP.fact 1 rfl)) fun w_2 hb a H HP => ?_
  refine znl (ztn ?_)
  refine w_if H rfl (fun g16 => ?_) (fun g16 => ?_)
  ·have g16p := eq_of_beq g16
   refine zsq (zrg ?_)
   refine H.ge HP [(4, (ii i))] [] fun a H => ?_
   refine ztn (zrt (zibr (ztr (ztr (zibr (ztr ?_))))))
   refine H.r1 (ii i) Tryz.results67 ?_
   exact ⟨(i : Int), rfl, by rw [hno, hdx, List.any_cons, show (x.number == p.c) = true from beq_iff_eq.2 g16p, Bool.true_or]; exact decide_eq_true (by omega), HP.bl⟩
  have g16p := ne_of_beq_false g16
  refine zsk (zibn (ztn (zrg ?_)))
  refine H.wi 18 ((i : Int) + 1) fun a H => ?_
  refine H.ge HP [(8, (ii ((i : Int) + 1)))] [] fun a H => ?_
  refine ztn ?_
  have H := H.as 8 (ii ((i + 1 : Nat) : Int)) rfl rfl
  refine ⟨_, ?_, i + 1, rfl, H.keep (by kernel_rfl), HP, (by omega), (by rw [hno, hdx, List.any_cons, beq_eq_false_iff_ne.2 g16p, Bool.false_or])⟩
  omega
 have g9p := of_decide_eq_false g9
 refine wp_exit (then_exit (then_exit ?_))
 refine w_exit_here ?_
 refine ztn (zsq (zrg ?_))
 refine H.ge HP [(4, (ii (-1)))] [] fun a H => ?_
 refine ztn (zrt ?_)
 refine H.r1 (ii (-1)) Tryz.results67 ?_
 exact ⟨-1, rfl, by rw [hno, List.drop_of_length_le (by omega)]; rfl, HP.bl⟩
theorem contains_any (CA : Option Addr) (cc bp : Nat) (chs : List Ch) (p : PlS) (w : World) (hl : chs.length ≤ 1000) (hr : IsRow 7 chC w CA chs) (hp : Box w bp 67 [(ii p.c), (ii p.nm), (ii 1), (ii 0), (.slice none 0 0), (ii 0), (ii 2), (ii p.len), (ii 1), (.slice p.IA 3 p.ic), (.slice none 0 0), (.slice none 0 0), (.slice none 0 0)].toArray) :
  Calls Tryz.prog 36 #[.slice CA chs.length cc, (.func (.func 34) #[] #[(pt bp 0)])] w fun e w' => e = .returned (.bool (chs.any (fun c => c.number == p.c))) ∧ Below w.heap.size w w' := by
 have HP := (((Hp.start w).keepF (boxK bp 67 [(ii p.c), (ii p.nm), (ii 1), (ii 0), (.slice none 0 0), (ii 0), (ii 2), (ii p.len), (ii 1), (.slice p.IA 3 p.ic), (.slice none 0 0), (.slice none 0 0), (.slice none 0 0)]) hp (boxK_ok _ _ _) (fun k hk => ⟨boxK_lt hp hk, fun x hx => by cases hx⟩)).keepF (rowF 7 chC CA chs) hr (rowF_ok _ _ _ _) (fun k hk => ⟨hr.lt k hk, fun x hx => by cases hx⟩))
 refine w_enter 9 [(0, (.slice CA chs.length cc)), (1, (.func (.func 34) #[] #[(pt bp 0)]))] Tryz.func36 rfl Tryz.ntmps36 (by kernel_rfl) (by kernel_rfl) fun a H => ?_
 refine zsq (zrg ?_)
 refine H.ge HP [(4, (.bool false))] [] fun a H => ?_
 refine ztn (zsq (zrg ?_))
 refine H.go HP 2 [(5, (.slice CA chs.length cc)), (6, (.func (.func 34) #[] #[(pt bp 0)]))] [] fun a H => ?_
 refine H.cl 7 (Tryz.call67 _ _) (index_any CA cc bp chs p w hl (HP.fact 0 rfl) (HP.fact 1 rfl)) ?_
 rintro e w_1 ⟨r, rfl, hrr, hb⟩
 refine ⟨_, rfl, ?_⟩
 intro a H
 have HP := HP.next hb
 refine H.ge HP [(4, (.bool (decide (r ≥ 0))))] [] fun a H => ?_
 refine ztn (zrt ?_)
 refine H.r1 (.bool (decide (r ≥ 0))) Tryz.results36 ?_
 exact ⟨by rw [← hrr], HP.bl⟩
theorem new_any (AP : Option Addr) (cp lc : Nat) (ps : List PlS) (LA : Option Addr) (lib : List AstA) (w : World) (hps : ∀ p ∈ ps, (0 ≤ p.c ∧ p.c ≤ 39) ∧ rateOk p.nm 1 = true) (hln2 : lib.length ≤ 1000000) (hL : Laid w) (hits : ∀ p ∈ ps, IsRow 5 itC w p.IA its3) (hrp : IsRow 13 plnC w AP ps) (hlib : IsAsts w LA lib.length lib) (hln : lib.length ≤ maxLen) (hlp : ∀ a ∈ lib, a.pics.length ≤ 2000000) :
  Calls Tryz.prog 13 #[.slice AP ps.length cp, .slice LA lib.length lc] w fun e w' => RetSel ps lib w e w' := by
 have HP := (((((Hp.start w).keepF (astsK LA lib) hlib (fun _ _ h hk hs => IsAsts.keep h hk hs) (fun k hk => ⟨IsAsts.lt hlib hk, fun x hx => by cases hx⟩)).keepF (rowF 13 plnC AP ps) hrp (rowF_ok _ _ _ _) (fun k hk => ⟨hrp.lt k hk, fun x hx => by cases hx⟩)).keepF (itsK ps) hits (itsK_ok _) (fun k hk => ⟨itsK_lt hits hk, fun x hx => by cases hx⟩)).keepF (laidK) hL laidK_ok (fun k hk => ⟨hL.lt k hk, fun x hx => by cases hx⟩))
 refine w_enter 82 [(0, (.slice AP ps.length cp)), (1, (.slice LA lib.length lc))] Tryz.func13 rfl Tryz.ntmps13 (by kernel_rfl) (by kernel_rfl) fun a H => ?_
 refine zsq (zrg ?_)
 refine H.ge HP [(4, (.pointer none)), (5, (ii 0))] [] fun a H => ?_
 refine ztn (zsq (zsq (zrg ?_)))
 refine H.go HP 4 [(15, (.bool (decide ((ps.length : Int) < 1))))] [] fun a H => ?_
 refine H.split 15 rfl (fun g15 H => ?_) (fun g15 H => ?_)
 ·have g15p := of_decide_eq_true g15
  refine H.ge HP [(19, (.bool true))] [] fun a H => ?_
  refine ztn ?_
  refine w_ift H rfl ?_
  refine zsq (zrg ?_)
  refine H.ge HP [(4, (.pointer none)), (5, (ii 220))] [] fun a H => ?_
  refine ztn (zrt (ztr ?_))
  refine H.ret2 (fn := Tryz.f13) Tryz.results13 (RV.tmp_ (v := (.pointer none)) (by kernel_rfl)) (RV.tmp_ (v := (ii 220)) (by kernel_rfl)) ?_
  exact .inl ⟨newP_few (by omega), rfl, HP.bl⟩
 have g15p := of_decide_eq_false g15
 refine H.ge HP [(19, (.bool (decide ((ps.length : Int) > 40))))] [] fun a H => ?_
 refine ztn ?_
 refine w_if H rfl (fun g19 => ?_) (fun g19 => ?_)
 ·have g19p := of_decide_eq_true g19
  refine zsq (zrg ?_)
  refine H.ge HP [(4, (.pointer none)), (5, (ii 220))] [] fun a H => ?_
  refine ztn (zrt (ztr ?_))
  refine H.ret2 (fn := Tryz.f13) Tryz.results13 (RV.tmp_ (v := (.pointer none)) (by kernel_rfl)) (RV.tmp_ (v := (ii 220)) (by kernel_rfl)) ?_
  exact .inl ⟨newP_few (by omega), rfl, HP.bl⟩
 have g19p := of_decide_eq_false g19
 refine zsk (ztn (zsq (zrg ?_)))
 refine H.go HP 1 [(20, (.agg #[(.slice none 0 0), (.slice none 0 0), (.bool false), (ii 0), (ii 0)]))] [] fun a H => H.al HP 21 111 [(.slice none 0 0), (.slice none 0 0), (.bool false), (ii 0), (ii 0)] fun b_1 w_2 a H HP => ?_
 refine H.ge HP [(6, (pt b_1 0))] [] fun a H => ?_
 refine ztn (zsq (zsq (zrg ?_)))
 refine H.ge HP [(22, (.slice AP ps.length cp)), (23, (ii ps.length)), (24, (ii 0))] [] fun a H => ?_
 refine ztn (zbk ?_)
 have HP := HP.nilRow w.heap.size 115 7 chC okT feF elOk_flat
 refine w_loop (fun mm a wv => ∃ (i : Nat), ∃ (CA : Option Addr), ∃ (cc : Nat), ps.length - i = mm ∧ Sl 82 [(24, (ii i)), (1, (.slice LA lib.length lc)), (4, (.pointer none)), (5, (ii 0)), (6, (pt b_1 0)), (22, (.slice AP ps.length cp)), (23, (ii ps.length))] a ∧ Hp w wv [(rowsR w.heap.size 115 7 chC okT feF (.slice CA ((ps.take i).length) cc) ((ps.take i).map mkCh)), bx b_1 111 [(.slice CA ((ps.take i).length) cc), (.slice none 0 0), (.bool false), (ii 0), (ii 0)] true] [laidK, itsK ps, rowF 13 plnC AP ps, astsK LA lib] ∧ (i ≤ ps.length) ∧ (okP [] ps = okP ((ps.take i).map (·.c)) (ps.drop i))) (ps.length - 0) ?_ ?_
 ·exact ⟨0, none, 0, (by omega), H.keep (by kernel_rfl), HP, (Nat.zero_le _), rfl⟩
 rintro mm a w_3 ⟨i, CA, cc, hmeas, H, HP, hi, hok⟩
 have htl : (ps.take i).length = i := List.length_take_of_le hi
 refine zsq (zrg ?_)
 refine H.ge HP [(25, (.bool (decide ((i : Int) < (ps.length : Int)))))] [] fun a H => ?_
 refine ztn (zsq ?_)
 refine w_if H rfl (fun g25 => ?_) (fun g25 => ?_)
 ·have g25p := of_decide_eq_true g25
  refine zsk (ztn (zsq (zbk (zsq (zrg ?_)))))
  obtain ⟨bu, ou, p, hA, _, hdp, hp, hpm, _⟩ := IsRow.get plnC_size (HP.fact 2 rfl : IsRow 13 plnC _ AP ps) (i := i) (by omega)
  obtain ⟨hpc, hpr⟩ := hps p hpm
  refine H.u 26 (.pointer (some ⟨bu, ou + i * 13, none⟩)) (ex_indexA (b := bu) (off := ou) (len := ps.length) (cap := cp) (e := 67) (k := 13) (ik := .i64) (i := (i : Int)) (m := i) hA (by kernel_rfl) (by kernel_rfl) rfl (by omega) (by kernel_rfl) (by kernel_rfl)) fun a H => H.u 27 (.agg #[(ii p.c), (ii p.nm), (ii 1), (ii 0), (.slice none 0 0), (ii 0), (ii 2), (ii p.len), (ii 1), (.slice p.IA 3 p.ic), (.slice none 0 0), (.slice none 0 0), (.slice none 0 0)]) (ex_lN [(ii p.c), (ii p.nm), (ii 1), (ii 0), (.slice none 0 0), (ii 0), (ii 2), (ii p.len), (ii 1), (.slice p.IA 3 p.ic), (.slice none 0 0), (.slice none 0 0), (.slice none 0 0)] (IsRow.cells plnC_size (HP.fact 2 rfl : IsRow 13 plnC _ AP ps) hA hp)) fun a H => H.al HP 8 67 [(ii 0), (ii 0), (ii 0), (ii 0), (.slice none 0 0), (ii 0), (ii 0), (ii 0), (ii 0), (.slice none 0 0), (.slice none 0 0), (.slice none 0 0), (.slice none 0 0)] fun b_4 w_5 a H HP => H.sh HP 0 0 (.agg #[(ii p.c), (ii p.nm), (ii 1), (ii 0), (.slice none 0 0), (ii 0), (ii 2), (ii p.len), (ii 1), (.slice p.IA 3 p.ic), (.slice none 0 0), (.slice none 0 0), (.slice none 0 0)]) rfl fun w_6 a H HP => ?_
  refine znl (ztn (zsq (zrg ?_)))
  refine H.ge HP [(9, (.func (.func 34) #[] #[(pt b_4 0)]))] [] fun a H => ?_
  refine ztn (zsq (zsq (zrg ?_)))
  refine H.go HP 1 [(29, (.agg #[(ii p.c), (ii p.nm), (ii 1), (ii 0), (.slice none 0 0), (ii 0), (ii 2), (ii p.len), (ii 1), (.slice p.IA 3 p.ic), (.slice none 0 0), (.slice none 0 0), (.slice none 0 0)]))] [0] fun a H => H.cb HP 30 (Tryz.call35 _ _) (pvalid_any p.c p.nm p.len p.IA p.ic w_6 hpc hpr (HP.fact 0 rfl) ((HP.fact 1 rfl) p hpm)) fun w_7 hb a H HP => H.go HP 2 [(32, (.bool (!(inR p.len 1 100000000))))] [] fun a H => ?_
  refine H.split 32 rfl (fun g32 H => ?_) (fun g32 H => ?_)
  ·have g32p := not_is_true g32
   refine H.ge HP [(39, (.bool true))] [] fun a H => ?_
   refine ztn ?_
   refine w_ift H rfl ?_
   refine zsq (zrg ?_)
   refine H.ge HP [(4, (.pointer none)), (5, (ii 220))] [] fun a H => ?_
   refine ztn (zrt (ztr (zibr (ztr (ztr (zibr (ztr ?_)))))))
   refine H.ret2 (fn := Tryz.f13) Tryz.results13 (RV.tmp_ (v := (.pointer none)) (by kernel_rfl)) (RV.tmp_ (v := (ii 220)) (by kernel_rfl)) ?_
   exact .inl ⟨newP_bad (by rw [hok, hdp]; exact okP_len (by simpa using g32p)), rfl, HP.bl⟩
  have g32p := not_is_false g32
  refine H.go HP 5 [(36, (.slice CA ((ps.take i).length) cc)), (37, (.func (.func 34) #[] #[(pt b_4 0)]))] [2] fun a H => H.cb HP 38 (Tryz.call36 _ _) ((by have hh := contains_any CA cc b_4 ((ps.take i).map mkCh) p w_7 (by rw [List.length_map]; omega) (ch_row (HP.held 1 rfl) rfl) (HP.at_ 0 rfl); rw [List.length_map] at hh; exact hh)) fun w_8 hb a H HP => ?_
  refine H.ge HP [(39, (.bool (((ps.take i).map mkCh).any (fun c => c.number == p.c))))] [] fun a H => ?_
  refine ztn ?_
  refine w_if H rfl (fun g39 => ?_) (fun g39 => ?_)
  ·have g39p := g39
   refine zsq (zrg ?_)
   refine H.ge HP [(4, (.pointer none)), (5, (ii 220))] [] fun a H => ?_
   refine ztn (zrt (ztr (zibr (ztr (ztr (zibr (ztr ?_)))))))
   refine H.ret2 (fn := Tryz.f13) Tryz.results13 (RV.tmp_ (v := (.pointer none)) (by kernel_rfl)) (RV.tmp_ (v := (ii 220)) (by kernel_rfl)) ?_
   exact .inl ⟨newP_bad (by rw [hok, hdp]; exact okP_num (by simpa using g39p)), rfl, HP.bl⟩
  have g39p := g39
  refine zsk (ztn ?_)
  have HP := HP.front 1 rfl _ rfl
  have HP := HP.front 2 rfl _ rfl
  refine An.start (fun v => Hp w v [bx b_4 67 [(ii p.c), (ii p.nm), (ii 1), (ii 0), (.slice none 0 0), (ii 0), (ii 2), (ii p.len), (ii 1), (.slice p.IA 3 p.ic), (.slice none 0 0), (.slice none 0 0), (.slice none 0 0)] true] [laidK, itsK ps, rowF 13 plnC AP ps, astsK LA lib]) 15 16 HP wide_follows rfl fun w_9 HP => ?_
  refine An.go H (.inr (((HP.tail rfl).tail rfl))) 6 [0, 1, 2, 3, 5, 6, 7, 8, 9, 10] [(40, (pt b_1 0)), (43, (pt b_1 0)), (50, (.agg #[(ii 0), (ii 0), (ii 500), (ii 0), (ii p.c), (ii p.nm), (ii 1)]))] [0, 0] fun a H => ?_
  refine An.two 4 11 (by kernel_rfl) ?_ ?_
  ·refine Op.val H 44 (.slice CA ((ps.take i).length) cc) rfl (by kernel_rfl) (ex_l1 (HP.cell 0 rfl 0 rfl)) fun a H => ?_
   refine ⟨.inr (((HP.tail rfl).tail rfl)), ?_⟩
   refine An.one 11 (by kernel_rfl) ?_
   refine Op.alloc H HP 51 (fun b => (.slice (some ⟨b, 0, none⟩) 1 1)) 115 [(ii 0), (ii 0), (ii 500), (ii 0), (ii p.c), (ii p.nm), (ii 1)] rfl (by kernel_rfl) (fun w => by kernel_rfl) fun b_10 w_11 a H HP => ?_
   refine ⟨.inr ((((HP.tail rfl).tail rfl).tail rfl)), ?_⟩
   refine An.one 12 (by kernel_rfl) ?_
   have HP := HP.pend0 2 rfl elOk_flat (mkCh p) [bx b_10 115 [(ii 0), (ii 0), (ii 500), (ii 0), (ii p.c), (ii p.nm), (ii 1)] true, bx b_1 111 [(.slice CA ((ps.take i).length) cc), (.slice none 0 0), (.bool false), (ii 0), (ii 0)] true, (rowsP w.heap.size 115 7 chC okT feF (.slice CA ((ps.take i).length) cc) ((ps.take i).map mkCh) (mkCh p)), bx b_4 67 [(ii p.c), (ii p.nm), (ii 1), (ii 0), (.slice none 0 0), (ii 0), (ii 2), (ii p.len), (ii 1), (.slice p.IA 3 p.ic), (.slice none 0 0), (.slice none 0 0), (.slice none 0 0)] true] (by kernel_rfl) trivial (fun _ h => h)
   refine Op.push H HP 52 2 0 (v := (.slice CA ((ps.take i).length) cc)) (e := 115) (p := mkCh p) (l := ((ps.take i).map mkCh)) (cs := chC) (ok := okT) (fe := feF) (size := 7) (z := (.agg #[(ii 0), (ii 0), (ii 0), (ii 0), (ii 0), (ii 0), (ii 0)])) (bytes := 56) (bb := b_10) (tb := 115) (fb := true) rfl (by kernel_rfl) elOk_flat (by kernel_rfl) (by kernel_rfl) rfl (by kernel_rfl) (by kernel_rfl) (by kernel_rfl) (by kernel_rfl) (by kernel_rfl) rfl (by kernel_rfl) (by rw [List.length_map]; unfold maxLen; omega) (by rw [List.length_map]; omega) fun B_12 c_13 w_14 a H HP => ?_
   have HP : Hp w w_14 [bx b_10 115 [(ii 0), (ii 0), (ii 500), (ii 0), (ii p.c), (ii p.nm), (ii 1)] true, bx b_1 111 [(.slice CA ((ps.take i).length) cc), (.slice none 0 0), (.bool false), (ii 0), (ii 0)] true, (rowsR w.heap.size 115 7 chC okT feF (.slice B_12 (((ps.take i).map mkCh).length + 1) c_13) (((ps.take i).map mkCh) ++ [mkCh p])), bx b_4 67 [(ii p.c), (ii p.nm), (ii 1), (ii 0), (.slice none 0 0), (ii 0), (ii 2), (ii p.len), (ii 1), (.slice p.IA 3 p.ic), (.slice none 0 0), (.slice none 0 0), (.slice none 0 0)] true] [laidK, itsK ps, rowF 13 plnC AP ps, astsK LA lib] := HP
   refine ⟨.inr ((((HP.tail rfl).tail rfl).tail rfl)), ?_⟩
   refine An.go H (.inr ((((HP.tail rfl).tail rfl).tail rfl))) 1 [13, 14] [(54, (pt b_1 0))] [] fun a H => ?_
   refine An.one 15 (by kernel_rfl) ?_
   refine Op.sh H HP 1 0 (.slice B_12 (((ps.take i).map mkCh).length + 1) c_13) rfl rfl fun w_15 a H HP => ?_
   refine ⟨.inl (by kernel_rfl), ?_⟩
   refine An.done (by kernel_rfl) ?_
   refine zibn (ztn (zrg ?_))
   refine H.wi 55 ((i : Int) + 1) fun a H => ?_
   refine H.ge HP [(24, (ii ((i : Int) + 1)))] [] fun a H => ?_
   refine ztn ?_
   have H := H.as 24 (ii ((i + 1 : Nat) : Int)) rfl rfl
   refine ⟨_, ?_, i + 1, B_12, c_13, rfl, H.keep (by kernel_rfl), (by have hh := HP.sub [2, 1] [(rowsR w.heap.size 115 7 chC okT feF (.slice B_12 (((ps.take i).map mkCh).length + 1) c_13) (((ps.take i).map mkCh) ++ [mkCh p])), bx b_1 111 [(.slice B_12 (((ps.take i).map mkCh).length + 1) c_13), (.slice none 0 0), (.bool false), (ii 0), (ii 0)] true] (by kernel_rfl) (by kernel_rfl); rw [show ((ps.take i).map mkCh).length + 1 = (ps.take (i + 1)).length from (by rw [List.length_map, htl, List.length_take_of_le (by omega)]), show (ps.take i).map mkCh ++ [mkCh p] = (ps.take (i + 1)).map mkCh from (by rw [take_snocI hp]; simp)] at hh; exact hh), (by omega), (by rw [hok, hdp, okP_step (by simpa using g32p) (by simpa using g39p), take_snocI hp]; simp)⟩
   omega
  refine Op.alloc H HP 51 (fun b => (.slice (some ⟨b, 0, none⟩) 1 1)) 115 [(ii 0), (ii 0), (ii 500), (ii 0), (ii p.c), (ii p.nm), (ii 1)] rfl (by kernel_rfl) (fun w => by kernel_rfl) fun b_16 w_17 a H HP => ?_
  refine ⟨.inr ((((HP.tail rfl).tail rfl).tail rfl)), ?_⟩
  refine An.one 4 (by kernel_rfl) ?_
  refine Op.val H 44 (.slice CA ((ps.take i).length) cc) rfl (by kernel_rfl) (ex_l1 (HP.cell 1 rfl 0 rfl)) fun a H => ?_
  refine ⟨.inr ((((HP.tail rfl).tail rfl).tail rfl)), ?_⟩
  refine An.one 12 (by kernel_rfl) ?_
  have HP := HP.pend0 2 rfl elOk_flat (mkCh p) [bx b_16 115 [(ii 0), (ii 0), (ii 500), (ii 0), (ii p.c), (ii p.nm), (ii 1)] true, bx b_1 111 [(.slice CA ((ps.take i).length) cc), (.slice none 0 0), (.bool false), (ii 0), (ii 0)] true, (rowsP w.heap.size 115 7 chC okT feF (.slice CA ((ps.take i).length) cc) ((ps.take i).map mkCh) (mkCh p)), bx b_4 67 [(ii p.c), (ii p.nm), (ii 1), (ii 0), (.slice none 0 0), (ii 0), (ii 2), (ii p.len), (ii 1), (.slice p.IA 3 p.ic), (.slice none 0 0), (.slice none 0 0), (.slice none 0 0)] true] (by kernel_rfl) trivial (fun _ h => h)
  refine Op.push H HP 52 2 0 (v := (.slice CA ((ps.take i).length) cc)) (e := 115) (p := mkCh p) (l := ((ps.take i).map mkCh)) (cs := chC) (ok := okT) (fe := feF) (size := 7) (z := (.agg #[(ii 0), (ii 0), (ii 0), (ii 0), (ii 0), (ii 0), (ii 0)])) (bytes := 56) (bb := b_16) (tb := 115) (fb := true) rfl (by kernel_rfl) elOk_flat (by kernel_rfl) (by kernel_rfl) rfl (by kernel_rfl) (by kernel_rfl) (by kernel_rfl) (by kernel_rfl) (by kernel_rfl) rfl (by kernel_rfl) (by rw [List.length_map]; unfold maxLen; omega) (by rw [List.length_map]; omega) fun B_18 c_19 w_20 a H HP => ?_
  have HP : Hp w w_20 [bx b_16 115 [(ii 0), (ii 0), (ii 500), (ii 0), (ii p.c), (ii p.nm), (ii 1)] true, bx b_1 111 [(.slice CA ((ps.take i).length) cc), (.slice none 0 0), (.bool false), (ii 0), (ii 0)] true, (rowsR w.heap.size 115 7 chC okT feF (.slice B_18 (((ps.take i).map mkCh).length + 1) c_19) (((ps.take i).map mkCh) ++ [mkCh p])), bx b_4 67 [(ii p.c), (ii p.nm), (ii 1), (ii 0), (.slice none 0 0), (ii 0), (ii 2), (ii p.len), (ii 1), (.slice p.IA 3 p.ic), (.slice none 0 0), (.slice none 0 0), (.slice none 0 0)] true] [laidK, itsK ps, rowF 13 plnC AP ps, astsK LA lib] := HP
  refine ⟨.inr ((((HP.tail rfl).tail rfl).tail rfl)), ?_⟩
  refine An.go H (.inr ((((HP.tail rfl).tail rfl).tail rfl))) 1 [13, 14] [(54, (pt b_1 0))] [] fun a H => ?_
  refine An.one 15 (by kernel_rfl) ?_
  refine Op.sh H HP 1 0 (.slice B_18 (((ps.take i).map mkCh).length + 1) c_19) rfl rfl fun w_21 a H HP => ?_
  refine ⟨.inl (by kernel_rfl), ?_⟩
  refine An.done (by kernel_rfl) ?_
  refine zibn (ztn (zrg ?_))
  refine H.wi 55 ((i : Int) + 1) fun a H => ?_
  refine H.ge HP [(24, (ii ((i : Int) + 1)))] [] fun a H => ?_
  refine ztn ?_
  have H := H.as 24 (ii ((i + 1 : Nat) : Int)) rfl rfl
  refine ⟨_, ?_, i + 1, B_18, c_19, rfl, H.keep (by kernel_rfl), (by have hh := HP.sub [2, 1] [(rowsR w.heap.size 115 7 chC okT feF (.slice B_18 (((ps.take i).map mkCh).length + 1) c_19) (((ps.take i).map mkCh) ++ [mkCh p])), bx b_1 111 [(.slice B_18 (((ps.take i).map mkCh).length + 1) c_19), (.slice none 0 0), (.bool false), (ii 0), (ii 0)] true] (by kernel_rfl) (by kernel_rfl); rw [show ((ps.take i).map mkCh).length + 1 = (ps.take (i + 1)).length from (by rw [List.length_map, htl, List.length_take_of_le (by omega)]), show (ps.take i).map mkCh ++ [mkCh p] = (ps.take (i + 1)).map mkCh from (by rw [take_snocI hp]; simp)] at hh; exact hh), (by omega), (by rw [hok, hdp, okP_step (by simpa using g32p) (by simpa using g39p), take_snocI hp]; simp)⟩
  omega
 have g25p := of_decide_eq_false g25
 refine wp_exit (then_exit (then_exit ?_))
 refine w_exit_here ?_
 refine ztn (zsq (zsq (zrg ?_)))
 refine H.ge HP [(56, (.slice LA lib.length lc)), (57, (ii lib.length)), (58, (ii 0))] [] fun a H => ?_
 refine ztn (zbk ?_)
 have hie : i = ps.length := by omega
 subst hie
 rw [List.take_length, List.drop_length] at hok
 rw [List.take_length] at HP
 have HP := HP.nilRow w.heap.size 91 2 AstA.cells astOk astFp elOk_ast
 refine w_loop (fun mm a wv => ∃ (j : Nat), ∃ (SA : Option Addr), ∃ (sc : Nat), ∃ (l' : List AstA), lib.length - j = mm ∧ Sl 82 [(58, (ii j)), (6, (pt b_1 0)), (56, (.slice LA lib.length lc)), (57, (ii lib.length))] a ∧ Hp w wv [(rowsR w.heap.size 91 2 AstA.cells astOk astFp (.slice SA l'.length sc) l'), (rowsR w.heap.size 115 7 chC okT feF (.slice CA ps.length cc) (ps.map mkCh)), bx b_1 111 [(.slice CA ps.length cc), (.slice SA l'.length sc), (.bool false), (ii 0), (ii 0)] true] [laidK, itsK ps, rowF 13 plnC AP ps, astsK LA lib] ∧ (j ≤ lib.length) ∧ (l'.length = j) ∧ (sameA l' (lib.take j)) ∧ (∀ a ∈ lib.take j, validA a.item a.pics = true) ∧ (∀ a ∈ l', a.pics.length ≤ 2000000)) (lib.length - 0) ?_ ?_
 ·exact ⟨0, none, 0, [], (by omega), H.keep (by kernel_rfl), HP, (Nat.zero_le _), rfl, rfl, (fun _ h => by cases h), (fun _ h => by cases h)⟩
 rintro mm a w_22 ⟨j, SA, sc, l', hmeas, H, HP, hj, hll, hsame, hval, hacc⟩
 refine zsq (zrg ?_)
 refine H.ge HP [(59, (.bool (decide ((j : Int) < (lib.length : Int)))))] [] fun a H => ?_
 refine ztn (zsq ?_)
 refine w_if H rfl (fun g59 => ?_) (fun g59 => ?_)
 ·have g59p := of_decide_eq_true g59
  refine zsk (ztn (zsq (zbk (zsq (zrg ?_)))))
  obtain ⟨X, hX⟩ : ∃ X, lib.getD j astZ = X := ⟨_, rfl⟩
  obtain ⟨bu, ou, hA, hbl, pa, pb, hok2, hmem⟩ := IsAsts.get (HP.fact 3 rfl) (i := j) (by omega)
  rw [hX] at pa pb hok2 hmem
  refine H.u 60 (.pointer (some ⟨bu, ou + j * 2, none⟩)) (ex_indexA (b := bu) (off := ou) (len := lib.length) (cap := lc) (e := 91) (k := 2) (ik := .i64) (i := (j : Int)) (m := j) hA (by kernel_rfl) (by kernel_rfl) rfl (by omega) (by kernel_rfl) (by kernel_rfl)) fun a H => H.u 61 (.agg #[(ii X.item), (.slice X.A X.pics.length X.c)]) (ex_lN [(ii X.item), (.slice X.A X.pics.length X.c)] (cells2 pa pb)) fun a H => H.al HP 11 91 [(ii 0), (.slice none 0 0)] fun b_23 w_24 a H HP => H.sh HP 0 0 (.agg #[(ii X.item), (.slice X.A X.pics.length X.c)]) rfl fun w_25 a H HP => ?_
  refine znl (ztn (zsq (zsq (zrg ?_))))
  refine H.go HP 1 [(62, (.agg #[(ii X.item), (.slice X.A X.pics.length X.c)]))] [0] fun a H => H.cb HP 63 (Tryz.call37 _ _) (mvalid_any X.item X.A X.pics.length X.c X.pics w_25 (((HP.fact 3 rfl).2 X hmem) : X.ok _).1 (by have := hok2.2.1; have := hok2.2.2.1; omega)) fun w_26 hb a H HP => ?_
  refine H.ge HP [(64, (.bool (!(validA X.item X.pics))))] [] fun a H => ?_
  refine ztn ?_
  refine w_if H rfl (fun g64 => ?_) (fun g64 => ?_)
  ·have g64p := not_is_true g64
   refine zsq (zrg ?_)
   refine H.ge HP [(4, (.pointer none)), (5, (ii 220))] [] fun a H => ?_
   refine ztn (zrt (ztr (zibr (ztr (ztr (zibr (ztr ?_)))))))
   refine H.ret2 (fn := Tryz.f13) Tryz.results13 (RV.tmp_ (v := (.pointer none)) (by kernel_rfl)) (RV.tmp_ (v := (ii 220)) (by kernel_rfl)) ?_
   exact .inl ⟨newP_lib hmem (by simpa using g64p), rfl, HP.bl⟩
  have g64p := not_is_false g64
  refine zsk (ztn ?_)
  have HP := HP.front 1 rfl _ rfl
  have HP := HP.front 3 rfl _ rfl
  refine An.start (fun v => Hp w v [bx b_23 91 [(ii X.item), (.slice X.A X.pics.length X.c)] true, (rowsR w.heap.size 115 7 chC okT feF (.slice CA ps.length cc) (ps.map mkCh))] [laidK, itsK ps, rowF 13 plnC AP ps, astsK LA lib]) 15 16 HP wide_follows rfl fun w_27 HP => ?_
  refine An.go H (.inr (((HP.tail rfl).tail rfl))) 8 [0, 1, 2, 3, 5, 6, 7, 8] [(65, (pt b_1 0)), (68, (pt b_1 1)), (71, (ii X.item)), (73, (.slice X.A X.pics.length X.c))] [0, 0] fun a H => ?_
  refine An.two 4 9 (by kernel_rfl) ?_ ?_
  ·refine Op.val H 69 (.slice SA l'.length sc) rfl (by kernel_rfl) (ex_l1 (HP.cell 0 rfl 1 rfl)) fun a H => ?_
   refine ⟨.inr (((HP.tail rfl).tail rfl)), ?_⟩
   refine An.one 9 (by kernel_rfl) ?_
   refine Op.call H 74 rfl (by kernel_rfl) (Eq.trans (by kernel_rfl : _ = (callFunc 38 #[(.slice X.A X.pics.length X.c)]).run Tryz.prog w_27) (Tryz.call38 _ _)) (clone_any X.A X.pics.length X.c X.pics w_27 (((HP.fact 3 rfl).2 X hmem) : X.ok _).1 hok2.2.2.2.1 hok2.2.1 (hlp X hmem)) ?_
   rintro e w_28 ⟨BX, dX, rfl, q1, q2, q3, q4, hb, q5⟩
   refine ⟨_, rfl, ?_⟩
   intro a H
   have HP := HP.pend 1 rfl elOk_ast (⟨X.item, BX, dX, X.pics⟩ : AstA) [bx b_1 111 [(.slice CA ps.length cc), (.slice SA l'.length sc), (.bool false), (ii 0), (ii 0)] true, (rowsP w.heap.size 91 2 AstA.cells astOk astFp (.slice SA l'.length sc) l' (⟨X.item, BX, dX, X.pics⟩ : AstA)), bx b_23 91 [(ii X.item), (.slice X.A X.pics.length X.c)] true, (rowsR w.heap.size 115 7 chC okT feF (.slice CA ps.length cc) (ps.map mkCh))] (by kernel_rfl) hb ⟨q1, q2, q3, q4, trivial⟩ (fun k hk => ⟨hk.2.elim fun off e => q5 k off e, Rd.lt q1.2 hk⟩)
   refine ⟨.inr (((HP.tail rfl).tail rfl)), ?_⟩
   refine An.go H (.inr (((HP.tail rfl).tail rfl))) 5 [10] [(75, (.agg #[(ii X.item), (.slice BX X.pics.length dX)]))] [] fun a H => ?_
   refine An.one 11 (by kernel_rfl) ?_
   refine Op.alloc H HP 76 (fun b => (.slice (some ⟨b, 0, none⟩) 1 1)) 91 [(ii X.item), (.slice BX X.pics.length dX)] rfl (by kernel_rfl) (fun w => by kernel_rfl) fun b_29 w_30 a H HP => ?_
   refine ⟨.inr ((((HP.tail rfl).tail rfl).tail rfl)), ?_⟩
   refine An.one 12 (by kernel_rfl) ?_
   refine Op.push H HP 77 2 0 (v := (.slice SA l'.length sc)) (e := 91) (p := (⟨X.item, BX, dX, X.pics⟩ : AstA)) (l := l') (cs := AstA.cells) (ok := astOk) (fe := astFp) (size := 2) (z := (.agg #[.int .i64 0, .slice none 0 0])) (bytes := 32) (bb := b_29) (tb := 91) (fb := true) rfl (by kernel_rfl) elOk_ast (by kernel_rfl) (by kernel_rfl) rfl (by kernel_rfl) (by kernel_rfl) (by kernel_rfl) (by kernel_rfl) (by kernel_rfl) rfl (by kernel_rfl) (by unfold maxLen; omega) (by omega) fun B_31 c_32 w_33 a H HP => ?_
   have HP : Hp w w_33 [bx b_29 91 [(ii X.item), (.slice BX X.pics.length dX)] true, bx b_1 111 [(.slice CA ps.length cc), (.slice SA l'.length sc), (.bool false), (ii 0), (ii 0)] true, (rowsR w.heap.size 91 2 AstA.cells astOk astFp (.slice B_31 (l'.length + 1) c_32) (l' ++ [(⟨X.item, BX, dX, X.pics⟩ : AstA)])), bx b_23 91 [(ii X.item), (.slice X.A X.pics.length X.c)] true, (rowsR w.heap.size 115 7 chC okT feF (.slice CA ps.length cc) (ps.map mkCh))] [laidK, itsK ps, rowF 13 plnC AP ps, astsK LA lib] := HP
   refine ⟨.inr ((((HP.tail rfl).tail rfl).tail rfl)), ?_⟩
   refine An.go H (.inr ((((HP.tail rfl).tail rfl).tail rfl))) 1 [13, 14] [(79, (pt b_1 1))] [] fun a H => ?_
   refine An.one 15 (by kernel_rfl) ?_
   refine Op.sh H HP 1 1 (.slice B_31 (l'.length + 1) c_32) rfl rfl fun w_34 a H HP => ?_
   refine ⟨.inl (by kernel_rfl), ?_⟩
   refine An.done (by kernel_rfl) ?_
   refine zibn (ztn (zrg ?_))
   refine H.wi 80 ((j : Int) + 1) fun a H => ?_
   refine H.ge HP [(58, (ii ((j : Int) + 1)))] [] fun a H => ?_
   refine ztn ?_
   have H := H.as 58 (ii ((j + 1 : Nat) : Int)) rfl rfl
   refine ⟨_, ?_, j + 1, B_31, c_32, l' ++ [(⟨X.item, BX, dX, X.pics⟩ : AstA)], rfl, H.keep (by kernel_rfl), (by have hh := (HP.sub [2, 4, 1] [(rowsR w.heap.size 91 2 AstA.cells astOk astFp (.slice B_31 (l'.length + 1) c_32) (l' ++ [(⟨X.item, BX, dX, X.pics⟩ : AstA)])), (rowsR w.heap.size 115 7 chC okT feF (.slice CA ps.length cc) (ps.map mkCh)), bx b_1 111 [(.slice CA ps.length cc), (.slice B_31 (l'.length + 1) c_32), (.bool false), (ii 0), (ii 0)] true] (by kernel_rfl) (by kernel_rfl)); rw [show l'.length + 1 = (l' ++ [(⟨X.item, BX, dX, X.pics⟩ : AstA)]).length from (by rw [List.length_append]; rfl)] at hh; exact hh), (by omega), (by simp [hll]), (by rw [take_at (d := astZ) (by omega), hX]; exact sameA_snoc hsame), (by rw [take_at (d := astZ) (by omega), hX]; intro a ha; rcases List.mem_append.1 ha with ha | ha; exact hval a ha; rcases List.mem_singleton.1 ha with rfl; exact g64p), (fun a ha => by rcases List.mem_append.1 ha with ha | ha; exact hacc a ha; rcases List.mem_singleton.1 ha with rfl; exact hlp X hmem)⟩
   omega
  refine Op.call H 74 rfl (by kernel_rfl) (Eq.trans (by kernel_rfl : _ = (callFunc 38 #[(.slice X.A X.pics.length X.c)]).run Tryz.prog w_27) (Tryz.call38 _ _)) (clone_any X.A X.pics.length X.c X.pics w_27 (((HP.fact 3 rfl).2 X hmem) : X.ok _).1 hok2.2.2.2.1 hok2.2.1 (hlp X hmem)) ?_
  rintro e w_35 ⟨BX, dX, rfl, q1, q2, q3, q4, hb, q5⟩
  refine ⟨_, rfl, ?_⟩
  intro a H
  have HP := HP.pend 1 rfl elOk_ast (⟨X.item, BX, dX, X.pics⟩ : AstA) [bx b_1 111 [(.slice CA ps.length cc), (.slice SA l'.length sc), (.bool false), (ii 0), (ii 0)] true, (rowsP w.heap.size 91 2 AstA.cells astOk astFp (.slice SA l'.length sc) l' (⟨X.item, BX, dX, X.pics⟩ : AstA)), bx b_23 91 [(ii X.item), (.slice X.A X.pics.length X.c)] true, (rowsR w.heap.size 115 7 chC okT feF (.slice CA ps.length cc) (ps.map mkCh))] (by kernel_rfl) hb ⟨q1, q2, q3, q4, trivial⟩ (fun k hk => ⟨hk.2.elim fun off e => q5 k off e, Rd.lt q1.2 hk⟩)
  refine ⟨.inr (((HP.tail rfl).tail rfl)), ?_⟩
  refine An.go H (.inr (((HP.tail rfl).tail rfl))) 6 [10] [(75, (.agg #[(ii X.item), (.slice BX X.pics.length dX)]))] [] fun a H => ?_
  refine An.two 4 11 (by kernel_rfl) ?_ ?_
  ·refine Op.val H 69 (.slice SA l'.length sc) rfl (by kernel_rfl) (ex_l1 (HP.cell 0 rfl 1 rfl)) fun a H => ?_
   refine ⟨.inr (((HP.tail rfl).tail rfl)), ?_⟩
   refine An.one 11 (by kernel_rfl) ?_
   refine Op.alloc H HP 76 (fun b => (.slice (some ⟨b, 0, none⟩) 1 1)) 91 [(ii X.item), (.slice BX X.pics.length dX)] rfl (by kernel_rfl) (fun w => by kernel_rfl) fun b_36 w_37 a H HP => ?_
   refine ⟨.inr ((((HP.tail rfl).tail rfl).tail rfl)), ?_⟩
   refine An.one 12 (by kernel_rfl) ?_
   refine Op.push H HP 77 2 0 (v := (.slice SA l'.length sc)) (e := 91) (p := (⟨X.item, BX, dX, X.pics⟩ : AstA)) (l := l') (cs := AstA.cells) (ok := astOk) (fe := astFp) (size := 2) (z := (.agg #[.int .i64 0, .slice none 0 0])) (bytes := 32) (bb := b_36) (tb := 91) (fb := true) rfl (by kernel_rfl) elOk_ast (by kernel_rfl) (by kernel_rfl) rfl (by kernel_rfl) (by kernel_rfl) (by kernel_rfl) (by kernel_rfl) (by kernel_rfl) rfl (by kernel_rfl) (by unfold maxLen; omega) (by omega) fun B_38 c_39 w_40 a H HP => ?_
   have HP : Hp w w_40 [bx b_36 91 [(ii X.item), (.slice BX X.pics.length dX)] true, bx b_1 111 [(.slice CA ps.length cc), (.slice SA l'.length sc), (.bool false), (ii 0), (ii 0)] true, (rowsR w.heap.size 91 2 AstA.cells astOk astFp (.slice B_38 (l'.length + 1) c_39) (l' ++ [(⟨X.item, BX, dX, X.pics⟩ : AstA)])), bx b_23 91 [(ii X.item), (.slice X.A X.pics.length X.c)] true, (rowsR w.heap.size 115 7 chC okT feF (.slice CA ps.length cc) (ps.map mkCh))] [laidK, itsK ps, rowF 13 plnC AP ps, astsK LA lib] := HP
   refine ⟨.inr ((((HP.tail rfl).tail rfl).tail rfl)), ?_⟩
   refine An.go H (.inr ((((HP.tail rfl).tail rfl).tail rfl))) 1 [13, 14] [(79, (pt b_1 1))] [] fun a H => ?_
   refine An.one 15 (by kernel_rfl) ?_
   refine Op.sh H HP 1 1 (.slice B_38 (l'.length + 1) c_39) rfl rfl fun w_41 a H HP => ?_
   refine ⟨.inl (by kernel_rfl), ?_⟩
   refine An.done (by kernel_rfl) ?_
   refine zibn (ztn (zrg ?_))
   refine H.wi 80 ((j : Int) + 1) fun a H => ?_
   refine H.ge HP [(58, (ii ((j : Int) + 1)))] [] fun a H => ?_
   refine ztn ?_
   have H := H.as 58 (ii ((j + 1 : Nat) : Int)) rfl rfl
   refine ⟨_, ?_, j + 1, B_38, c_39, l' ++ [(⟨X.item, BX, dX, X.pics⟩ : AstA)], rfl, H.keep (by kernel_rfl), (by have hh := (HP.sub [2, 4, 1] [(rowsR w.heap.size 91 2 AstA.cells astOk astFp (.slice B_38 (l'.length + 1) c_39) (l' ++ [(⟨X.item, BX, dX, X.pics⟩ : AstA)])), (rowsR w.heap.size 115 7 chC okT feF (.slice CA ps.length cc) (ps.map mkCh)), bx b_1 111 [(.slice CA ps.length cc), (.slice B_38 (l'.length + 1) c_39), (.bool false), (ii 0), (ii 0)] true] (by kernel_rfl) (by kernel_rfl)); rw [show l'.length + 1 = (l' ++ [(⟨X.item, BX, dX, X.pics⟩ : AstA)]).length from (by rw [List.length_append]; rfl)] at hh; exact hh), (by omega), (by simp [hll]), (by rw [take_at (d := astZ) (by omega), hX]; exact sameA_snoc hsame), (by rw [take_at (d := astZ) (by omega), hX]; intro a ha; rcases List.mem_append.1 ha with ha | ha; exact hval a ha; rcases List.mem_singleton.1 ha with rfl; exact g64p), (fun a ha => by rcases List.mem_append.1 ha with ha | ha; exact hacc a ha; rcases List.mem_singleton.1 ha with rfl; exact hlp X hmem)⟩
   omega
  refine Op.alloc H HP 76 (fun b => (.slice (some ⟨b, 0, none⟩) 1 1)) 91 [(ii X.item), (.slice BX X.pics.length dX)] rfl (by kernel_rfl) (fun w => by kernel_rfl) fun b_42 w_43 a H HP => ?_
  refine ⟨.inr ((((HP.tail rfl).tail rfl).tail rfl)), ?_⟩
  refine An.one 4 (by kernel_rfl) ?_
  refine Op.val H 69 (.slice SA l'.length sc) rfl (by kernel_rfl) (ex_l1 (HP.cell 1 rfl 1 rfl)) fun a H => ?_
  refine ⟨.inr ((((HP.tail rfl).tail rfl).tail rfl)), ?_⟩
  refine An.one 12 (by kernel_rfl) ?_
  refine Op.push H HP 77 2 0 (v := (.slice SA l'.length sc)) (e := 91) (p := (⟨X.item, BX, dX, X.pics⟩ : AstA)) (l := l') (cs := AstA.cells) (ok := astOk) (fe := astFp) (size := 2) (z := (.agg #[.int .i64 0, .slice none 0 0])) (bytes := 32) (bb := b_42) (tb := 91) (fb := true) rfl (by kernel_rfl) elOk_ast (by kernel_rfl) (by kernel_rfl) rfl (by kernel_rfl) (by kernel_rfl) (by kernel_rfl) (by kernel_rfl) (by kernel_rfl) rfl (by kernel_rfl) (by unfold maxLen; omega) (by omega) fun B_44 c_45 w_46 a H HP => ?_
  have HP : Hp w w_46 [bx b_42 91 [(ii X.item), (.slice BX X.pics.length dX)] true, bx b_1 111 [(.slice CA ps.length cc), (.slice SA l'.length sc), (.bool false), (ii 0), (ii 0)] true, (rowsR w.heap.size 91 2 AstA.cells astOk astFp (.slice B_44 (l'.length + 1) c_45) (l' ++ [(⟨X.item, BX, dX, X.pics⟩ : AstA)])), bx b_23 91 [(ii X.item), (.slice X.A X.pics.length X.c)] true, (rowsR w.heap.size 115 7 chC okT feF (.slice CA ps.length cc) (ps.map mkCh))] [laidK, itsK ps, rowF 13 plnC AP ps, astsK LA lib] := HP
  refine ⟨.inr ((((HP.tail rfl).tail rfl).tail rfl)), ?_⟩
  refine An.go H (.inr ((((HP.tail rfl).tail rfl).tail rfl))) 1 [13, 14] [(79, (pt b_1 1))] [] fun a H => ?_
  refine An.one 15 (by kernel_rfl) ?_
  refine Op.sh H HP 1 1 (.slice B_44 (l'.length + 1) c_45) rfl rfl fun w_47 a H HP => ?_
  refine ⟨.inl (by kernel_rfl), ?_⟩
  refine An.done (by kernel_rfl) ?_
  refine zibn (ztn (zrg ?_))
  refine H.wi 80 ((j : Int) + 1) fun a H => ?_
  refine H.ge HP [(58, (ii ((j : Int) + 1)))] [] fun a H => ?_
  refine ztn ?_
  have H := H.as 58 (ii ((j + 1 : Nat) : Int)) rfl rfl
  refine ⟨_, ?_, j + 1, B_44, c_45, l' ++ [(⟨X.item, BX, dX, X.pics⟩ : AstA)], rfl, H.keep (by kernel_rfl), (by have hh := (HP.sub [2, 4, 1] [(rowsR w.heap.size 91 2 AstA.cells astOk astFp (.slice B_44 (l'.length + 1) c_45) (l' ++ [(⟨X.item, BX, dX, X.pics⟩ : AstA)])), (rowsR w.heap.size 115 7 chC okT feF (.slice CA ps.length cc) (ps.map mkCh)), bx b_1 111 [(.slice CA ps.length cc), (.slice B_44 (l'.length + 1) c_45), (.bool false), (ii 0), (ii 0)] true] (by kernel_rfl) (by kernel_rfl)); rw [show l'.length + 1 = (l' ++ [(⟨X.item, BX, dX, X.pics⟩ : AstA)]).length from (by rw [List.length_append]; rfl)] at hh; exact hh), (by omega), (by simp [hll]), (by rw [take_at (d := astZ) (by omega), hX]; exact sameA_snoc hsame), (by rw [take_at (d := astZ) (by omega), hX]; intro a ha; rcases List.mem_append.1 ha with ha | ha; exact hval a ha; rcases List.mem_singleton.1 ha with rfl; exact g64p), (fun a ha => by rcases List.mem_append.1 ha with ha | ha; exact hacc a ha; rcases List.mem_singleton.1 ha with rfl; exact hlp X hmem)⟩
  omega
 have g59p := of_decide_eq_false g59
 refine wp_exit (then_exit (then_exit ?_))
 refine w_exit_here ?_
 refine ztn (zsq (zrg ?_))
 refine H.ge HP [(4, (pt b_1 0)), (5, (ii 0))] [] fun a H => ?_
 refine ztn (zrt ?_)
 refine H.ret2 (fn := Tryz.f13) Tryz.results13 (RV.tmp_ (v := (pt b_1 0)) (by kernel_rfl)) (RV.tmp_ (v := (ii 0)) (by kernel_rfl)) ?_
 have hje : j = lib.length := by omega
 subst hje
 rw [List.take_length] at hsame hval
 exact .inr (new_end (HP.sub [0, 1, 2] [(rowsR w.heap.size 91 2 AstA.cells astOk astFp (.slice SA l'.length sc) l'), (rowsR w.heap.size 115 7 chC okT feF (.slice CA ps.length cc) (ps.map mkCh)), bx b_1 111 [(.slice CA ps.length cc), (.slice SA l'.length sc), (.bool false), (ii 0), (ii 0)] true] (by kernel_rfl) (by kernel_rfl)) hok (by omega) hll hsame hval hacc hln)
theorem Hp.grow {w0 w : World} {L : List HB} {K : List FK} (H : Hp w0 w L K) (i : Nat) {x : HB} (hi : L[i]? = some x) (x' : HB) (L' : List HB) (hL : L.set i x' = L') (hF : x'.F w) (hok : x'.ok) (hlt : ∀ k, x'.fp k → k < w.heap.size)
    (hfp : ∀ k, x'.fp k → x.fp k ∨ (w0.heap.size ≤ k ∧ (∀ y ∈ L, ¬ y.fp k) ∧ ∀ p ∈ K, ¬ p.fp k)) (hall : ∀ k, x.fp k → x'.fp k) (hfr : x'.fresh = x.fresh) : Hp w0 w L' K := by
  subst hL
  have hm := mem_set H.apart (x' := x') hi
  have hxm := List.mem_of_getElem? hi
  have hil := (List.getElem?_eq_some_iff.1 hi).1
  have hx'm : x' ∈ L.set i x' := List.mem_iff_getElem?.2 ⟨i, by rw [List.getElem?_set]; simp [hil]⟩
  have hback : ∀ y ∈ L, y = x ∨ y ∈ L.set i x' := by
    intro y hy
    obtain ⟨k, hk⟩ := List.mem_iff_getElem?.1 hy
    by_cases e : i = k
    · subst e; rw [hi] at hk; cases hk; exact .inl rfl
    · exact .inr (List.mem_iff_getElem?.2 ⟨k, by rw [List.getElem?_set_ne e]; exact hk⟩)
  have hnot : ∀ y ∈ L, ∀ k, x'.fp k → y.fp k → x.fp k := fun y hy k hk hy' => (hfp k hk).resolve_right fun h => h.2.1 y hy hy'
  refine ⟨H.os, H.tape, H.output, H.size, fun k hk hn => H.old k hk fun y hy => ?_, fun y hy => ?_, ?_, fun y hy hfy k hk => ?_, fun p hp => ?_⟩
  · rcases hback y hy with rfl | hy
    · exact fun h => hn x' hx'm (hall k h)
    · exact hn y hy
  · rcases hm y hy with rfl | ⟨hy, _⟩
    · exact ⟨hF, hok, hlt⟩
    · exact H.res y hy
  · exact pairwise_set H.apart hi (fun z hz h k hk hk' => h k hk (hnot z hz k hk' hk)) (fun z hz h k hk hk' => h k (hnot z hz k hk hk') hk')
  · rcases hm y hy with rfl | ⟨hy, _⟩
    · rcases hfp k hk with h | h
      · exact H.fresh x hxm (hfr ▸ hfy) k h
      · exact h.1
    · exact H.fresh y hy hfy k hk
  · obtain ⟨k1, k2, k3⟩ := H.kept p hp
    refine ⟨k1, k2, fun k hk => ⟨(k3 k hk).1, fun y hy hy' => ?_⟩⟩
    rcases hm y hy with rfl | ⟨hy, _⟩
    · rcases hfp k hy' with h | h
      · exact (k3 k hk).2 x hxm h
      · exact h.2.2 p hp hk
    · exact (k3 k hk).2 y hy hy'
section
variable {α : Type} {base : Nat} {e : TypeId} {size : Nat} {cs : α → Array Value} {ok : α → World → Prop} {fe : α → Nat → Prop} {v : Value} {l : List α}
theorem Hp.absorb {w0 w : World} {y : HB} {L : List HB} {K : List FK} (H : Hp w0 w (y :: L) K) (i : Nat) (hi : L[i]? = some (rowsR base e size cs ok fe v l)) (hel : ElOk ok fe) (p : α) (L' : List HB) (hL : L.set i (rowsP base e size cs ok fe v l p) = L') (hp : ok p w) (hfe : ∀ k, fe p k → y.fp k) (hy : y.fresh = true) : Hp w0 w L' K := by
  have H1 := H.tail hy
  have hyr := H.res y (List.mem_cons_self ..)
  have hya : ∀ z ∈ L, ∀ k, y.fp k → ¬ z.fp k := by
    cases H.apart with
    | cons p _ => exact fun z hz k hk => p z hz k hk
  have hx := H1.held i hi
  have hr := (H1.res _ (List.mem_of_getElem? hi)).2.2
  refine H1.grow i hi _ L' hL ⟨hx, hp, fun k hk => ⟨hyr.2.2 k (hfe k hk), fun e => hya _ (List.mem_of_getElem? hi) k (hfe k hk) (.inl e)⟩⟩ (rowsP_ok hel) (fun k hk => ?_) (fun k hk => ?_) (fun k hk => .inl hk) rfl
  · rcases hk with hk | hk
    · exact hr k hk
    · exact hyr.2.2 k (hfe k hk)
  · rcases hk with hk | hk
    · exact .inl hk
    · exact .inr ⟨H.fresh y (List.mem_cons_self ..) hy k (hfe k hk), fun z hz => hya z hz k (hfe k hk), fun q hq hq' => ((H.kept q hq).2.2 k hq').2 y (List.mem_cons_self ..) (hfe k hk)⟩
end
def PlS.key (p : PlS) : Int × Int × Int := (p.c, p.nm, p.len)
def plKeys : List (Int × Int × Int) := [(3, 50, 500), (0, 25, 500)]
def pOk (p : PlS) (w : World) : Prop := IsRow 5 itC w p.IA its3
def pFe (p : PlS) (k : Nat) : Prop := rowFp 3 p.IA k
theorem elOk_pl : ElOk pOk pFe := fun _ _ _ h hk hs => IsRow.keep h hk hs
def ci (i : Nat) : Int := if i = 0 then 3 else 0
theorem ci_bd (i : Nat) : 0 ≤ ci i ∧ ci i ≤ 3 := by unfold ci; split <;> omega
theorem ci_cell {w : World} {b t i : Nat} (h : Box w b t #[.int .i64 3, .int .i64 0]) (hi : i < 2) : w.cell? ⟨b, 0 + i * 1, none⟩ = some (.int .i64 (ci i)) := by
 rcases (by omega : i = 0 ∨ i = 1) with rfl | rfl
 ·exact h.cell (i := 0) rfl
 ·exact h.cell (i := 1) rfl
theorem its_row {w : World} {b t : Nat} {c nm len : Int} {ic : Nat} (h : Box w b t (flat itC its3).toArray) : pOk ⟨c, nm, len, some ⟨b, 0, none⟩, ic⟩ w := show IsRow 5 itC w (some ⟨b, 0, none⟩) its3 from IsRow.ofBox (cs := itC) (size := 5) (tail := []) (fun _ => rfl) (by rw [List.append_nil]; exact h)
theorem pfe_eq {c nm len : Int} {ic b k t : Nat} {vs : List Value} (h : pFe ⟨c, nm, len, some ⟨b, 0, none⟩, ic⟩ k) : (bx b t vs true).fp k := by
 obtain ⟨_, off, e⟩ := h
 cases e; rfl
theorem pl_next {ps : List PlS} {i : Nat} {p : PlS} (h : ps.map PlS.key = plKeys.take i) (hi : i < 2) (hp : p.key = (ci i, 25 + 25 * (ci i % 2), 500)) : (ps ++ [p]).map PlS.key = plKeys.take (i + 1) := by
 rw [List.map_append, h, List.map_singleton, hp]
 rcases (by omega : i = 0 ∨ i = 1) with rfl | rfl <;> rfl
theorem plans_any (w : World) :
  Calls Tryz.prog 12 #[] w fun e w' => ∃ A c ps, e = .returned (.slice A 2 c) ∧ ps.map PlS.key = plKeys ∧ (rowsR w.heap.size 67 13 plnC pOk pFe (.slice A ps.length c) ps).F w' ∧ Below w.heap.size w w' := by
 have HP := Hp.start w
 refine w_enter 26 [] Tryz.func12 rfl Tryz.ntmps12 (by kernel_rfl) (by kernel_rfl) fun a H => ?_
 refine zsq (zrg ?_)
 refine H.ge HP [(0, (.slice none 0 0))] [] fun a H => ?_
 refine ztn (zsq (zrg ?_))
 refine H.ge HP [(1, (.slice none 0 0))] [] fun a H => ?_
 refine ztn (zsq (zsq (zrg ?_)))
 refine H.alloc HP 4 (fun b => (.slice (some ⟨b, 0, none⟩) 2 2)) 3 [(ii 3), (ii 0)] (by kernel_rfl) (fun w => by kernel_rfl) fun b_1 w_2 a H HP => ?_
 refine H.ge HP [(5, (ii 2)), (6, (ii 0))] [] fun a H => ?_
 refine ztn (zbk ?_)
 have HP := HP.nilRow w.heap.size 67 13 plnC pOk pFe elOk_pl
 refine w_loop (fun mm a wv => ∃ (i : Nat), ∃ (ps : List PlS), ∃ (PA : Option Addr), ∃ (pc : Nat), 2 - i = mm ∧ Sl 26 [(6, (ii i)), (1, (.slice PA ps.length pc)), (4, (.slice (some ⟨b_1, 0, none⟩) 2 2)), (5, (ii 2))] a ∧ Hp w wv [(rowsR w.heap.size 67 13 plnC pOk pFe (.slice PA ps.length pc) ps), (bx b_1 3 [(ii 3), (ii 0)] true)] [] ∧ (i ≤ 2) ∧ (ps.map PlS.key = plKeys.take i)) (2 - 0) ?_ ?_
 ·exact ⟨0, [], none, 0, (by omega), H.keep (by kernel_rfl), HP, (by omega), rfl⟩
 rintro mm a w_3 ⟨i, ps, PA, pc, hmeas, H, HP, hi, hps⟩
 have hpl : ps.length = i := by have := congrArg List.length hps; rw [List.length_map, List.length_take] at this; simp only [plKeys, List.length_cons, List.length_nil] at this; omega
 refine zsq (zrg ?_)
 refine H.ge HP [(7, (.bool (decide ((i : Int) < 2))))] [] fun a H => ?_
 refine ztn (zsq ?_)
 refine w_if H rfl (fun g7 => ?_) (fun g7 => ?_)
 ·have g7p := of_decide_eq_true g7
  refine zsk (ztn (zsq (zbk (zsq (zrg ?_)))))
  have hci := ci_bd i
  refine H.u 8 (.pointer (some ⟨b_1, 0 + i * 1, none⟩)) (ex_index (b := b_1) (off := 0) (len := 2) (cap := 2) (e := 3) (k := 1) (ik := .i64) (i := (i : Int)) (m := i) (by kernel_rfl) (by kernel_rfl) (by omega) (by omega) (by kernel_rfl) (by kernel_rfl)) fun a H => H.u 9 (ii (ci i)) (ex_l1 (ci_cell (HP.at_ 1 rfl) (by omega))) fun a H => ?_
  refine H.ge HP [(3, (ii (ci i)))] [] fun a H => ?_
  refine ztn (zrg ?_)
  refine H.go HP 3 [(10, (.slice PA ps.length pc)), (11, (ii (ci i))), (12, (ii (ci i)))] [] fun a H => H.valE 13 (ii ((ci i).tmod 2)) (ii ((ci i) % 2)) (by kernel_rfl) (by kernel_rfl) ((by rw [tmod_nn _ _ (by omega)])) fun a H => H.wi 14 (25 * ((ci i) % 2)) fun a H => H.wi 15 (25 + (25 * ((ci i) % 2))) fun a H => H.go HP 4 [(16, (.agg #[(ii (25 + (25 * ((ci i) % 2)))), (ii 1)])), (17, (.agg #[(ii 1), (ii 5), (ii 30), (ii 0), (ii 0)])), (18, (.agg #[(ii 7), (ii 1), (ii 40), (ii 0), (ii 0)])), (19, (.agg #[(ii 8), (ii 2), (ii 20), (ii 0), (ii 0)]))] [] fun a H => H.alloc HP 20 (fun b => (.slice (some ⟨b, 0, none⟩) 3 3)) 108 [(ii 1), (ii 5), (ii 30), (ii 0), (ii 0), (ii 7), (ii 1), (ii 40), (ii 0), (ii 0), (ii 8), (ii 2), (ii 20), (ii 0), (ii 0)] (by kernel_rfl) (fun w => by kernel_rfl) fun b_4 w_5 a H HP => H.go HP 1 [(21, (.agg #[(ii (ci i)), (ii (25 + (25 * ((ci i) % 2)))), (ii 1), (ii 0), (.slice none 0 0), (ii 0), (ii 2), (ii 500), (ii 1), (.slice (some ⟨b_4, 0, none⟩) 3 3), (.slice none 0 0), (.slice none 0 0), (.slice none 0 0)]))] [] fun a H => H.alloc HP 22 (fun b => (.slice (some ⟨b, 0, none⟩) 1 1)) 67 [(ii (ci i)), (ii (25 + (25 * ((ci i) % 2)))), (ii 1), (ii 0), (.slice none 0 0), (ii 0), (ii 2), (ii 500), (ii 1), (.slice (some ⟨b_4, 0, none⟩) 3 3), (.slice none 0 0), (.slice none 0 0), (.slice none 0 0)] (by kernel_rfl) (fun w => by kernel_rfl) fun b_6 w_7 a H HP => ?_
  have HP := HP.front 1 rfl _ rfl
  have HP := HP.absorb 1 rfl elOk_pl (⟨ci i, 25 + 25 * (ci i % 2), 500, some ⟨b_4, 0, none⟩, 3⟩ : PlS) [bx b_6 67 [(ii (ci i)), (ii (25 + (25 * ((ci i) % 2)))), (ii 1), (ii 0), (.slice none 0 0), (ii 0), (ii 2), (ii 500), (ii 1), (.slice (some ⟨b_4, 0, none⟩) 3 3), (.slice none 0 0), (.slice none 0 0), (.slice none 0 0)] true, (rowsP w.heap.size 67 13 plnC pOk pFe (.slice PA ps.length pc) ps (⟨ci i, 25 + 25 * (ci i % 2), 500, some ⟨b_4, 0, none⟩, 3⟩ : PlS)), (bx b_1 3 [(ii 3), (ii 0)] true)] (by kernel_rfl) (its_row (HP.at_ 0 rfl)) (fun k hk => pfe_eq hk) rfl
  refine H.push HP 23 1 0 (v := (.slice PA ps.length pc)) (e := 67) (p := (⟨ci i, 25 + 25 * (ci i % 2), 500, some ⟨b_4, 0, none⟩, 3⟩ : PlS)) (l := ps) (cs := plnC) (ok := pOk) (fe := pFe) (size := 13) (z := (.agg #[(ii 0), (ii 0), (ii 0), (ii 0), (.slice none 0 0), (ii 0), (ii 0), (ii 0), (ii 0), (.slice none 0 0), (.slice none 0 0), (.slice none 0 0), (.slice none 0 0)])) (bytes := 184) (bb := b_6) (tb := 67) (fb := true) (by kernel_rfl) elOk_pl (by kernel_rfl) (by kernel_rfl) rfl (by kernel_rfl) (by kernel_rfl) (by kernel_rfl) (by kernel_rfl) (by kernel_rfl) rfl (by kernel_rfl) (by unfold maxLen; omega) (by omega) fun B_8 c_9 w_10 a H HP => ?_
  have HP : Hp w w_10 [bx b_6 67 [(ii (ci i)), (ii (25 + (25 * ((ci i) % 2)))), (ii 1), (ii 0), (.slice none 0 0), (ii 0), (ii 2), (ii 500), (ii 1), (.slice (some ⟨b_4, 0, none⟩) 3 3), (.slice none 0 0), (.slice none 0 0), (.slice none 0 0)] true, (rowsR w.heap.size 67 13 plnC pOk pFe (.slice B_8 (ps.length + 1) c_9) (ps ++ [(⟨ci i, 25 + 25 * (ci i % 2), 500, some ⟨b_4, 0, none⟩, 3⟩ : PlS)])), (bx b_1 3 [(ii 3), (ii 0)] true)] [] := HP
  refine H.ge HP [(1, (.slice B_8 (ps.length + 1) c_9))] [] fun a H => ?_
  refine zibn (ztn (zrg ?_))
  refine H.wi 24 ((i : Int) + 1) fun a H => ?_
  refine H.ge HP [(6, (ii ((i : Int) + 1)))] [] fun a H => ?_
  refine ztn ?_
  have H := H.as 1 (.slice B_8 ((ps ++ [(⟨ci i, 25 + 25 * (ci i % 2), 500, some ⟨b_4, 0, none⟩, 3⟩ : PlS)]).length) c_9) rfl (congrArg (fun n => Value.slice _ n _) (by rw [List.length_append]; rfl))
  have H := H.as 6 (ii ((i + 1 : Nat) : Int)) rfl rfl
  refine ⟨_, ?_, i + 1, ps ++ [(⟨ci i, 25 + 25 * (ci i % 2), 500, some ⟨b_4, 0, none⟩, 3⟩ : PlS)], B_8, c_9, rfl, H.keep (by kernel_rfl), (by have hh := HP.sub [1, 2] [(rowsR w.heap.size 67 13 plnC pOk pFe (.slice B_8 (ps.length + 1) c_9) (ps ++ [(⟨ci i, 25 + 25 * (ci i % 2), 500, some ⟨b_4, 0, none⟩, 3⟩ : PlS)])), (bx b_1 3 [(ii 3), (ii 0)] true)] (by kernel_rfl) (by kernel_rfl); rw [show ps.length + 1 = (ps ++ [(⟨ci i, 25 + 25 * (ci i % 2), 500, some ⟨b_4, 0, none⟩, 3⟩ : PlS)]).length from (by rw [List.length_append]; rfl)] at hh; exact hh), (by omega), (pl_next hps (by omega) rfl)⟩
  omega
 have g7p := of_decide_eq_false g7
 refine wp_exit (then_exit (then_exit ?_))
 refine w_exit_here ?_
 refine ztn (zsq (zrg ?_))
 refine H.ge HP [(0, (.slice PA ps.length pc))] [] fun a H => ?_
 refine ztn (zrt ?_)
 refine H.r1 (.slice PA ps.length pc) Tryz.results12 ?_
 have hie : i = 2 := by omega
 subst hie
 exact ⟨PA, pc, ps, by rw [hpl], hps, HP.held 0 rfl, HP.bl⟩
section
variable {P : Program} {ρ : Operand → Value} {w : World} {t e : TypeId} {x y : Operand} {dst : Option Tmp} {ty : TypeId} {pos : String} {af : Array Edge} {g : Option (Nat × Bool)} {n : Nat} {k : IntKind}
theorem ex_make (hx : ρ x = .int k n) (hy : ρ y = .int k n) (hu : P.underlying t = some (.slice e)) (hinf : infoB P e = some (some (.int .u8 0), 1, 1)) (hn : n ≤ 1000000) :
  (execOp ρ ⟨dst, .makeSlice t x y, ty, pos, af, g⟩).run P w = .ok (.value (.slice (some ⟨w.heap.size, 0, none⟩) n n)) (w.alloc (.cells (List.replicate n (.int .u8 0)).toArray e)) := by
 obtain ⟨i, h1, h2, h3, h4⟩ := infoB_spec hinf
 have := run_makeSlice (P := P) w t e i (.int .u8 0) hu h1 h2 k k (n : Int) (n : Int) (by omega) (by omega) (by rw [h3]; omega) (by rw [h4]; omega) (by omega)
 simp only [execOp, hx, hy, Sem.run_bind, this, Result.andThen_ok, Sem.run_pure]
 have hm : madeCells (Value.int IntKind.u8 0).cells ((n : Int).toNat * i.size) = (List.replicate n (Value.int .u8 0)).toArray := by
  rw [h3]
  apply Array.ext
  ·simp [madeCells]
  ·intro j h1 h2
   simp [madeCells, Value.cells, Nat.mod_one]
 rw [hm]
 simp
end
abbrev i1C (n : Int) : Array Value := #[.int .i64 n]
theorem i1C_size (n : Int) : (i1C n).size = 1 := rfl
def bytes2 (x y : Int) : List UInt8 := [UInt8.ofNat x.toNat, UInt8.ofNat y.toNat]
theorem rd_zeros {w : World} {b t sN : Nat} (h : Box w b t (List.replicate sN (Value.int .u8 0)).toArray) : Rd w 1 (some ⟨b, 0, none⟩) sN (Lib.byteCells (List.replicate sN 0)) := by
 have hh := rd_box h
 rw [List.length_replicate] at hh
 rw [show Lib.byteCells (List.replicate sN 0) = List.replicate sN (Value.int .u8 0) from by simp [Lib.byteCells]]
 exact hh
theorem rd_bytes2 {w : World} {b t : Nat} {x y : Int} (h : Box w b t #[.int .u8 x, .int .u8 y]) (hx : 0 ≤ x ∧ x < 256) (hy : 0 ≤ y ∧ y < 256) : Rd w 1 (some ⟨b, 0, none⟩) 2 (Lib.byteCells (bytes2 x y)) := by
 have hh := rd_box (vs := [.int .u8 x, .int .u8 y]) h
 have e : ∀ z : Int, 0 ≤ z ∧ z < 256 → (((UInt8.ofNat z.toNat).toNat : Nat) : Int) = z := fun z hz => by rw [toNat_of (by omega)]; omega
 rw [show Lib.byteCells (bytes2 x y) = [Value.int .u8 x, .int .u8 y] from by simp only [bytes2, Lib.byteCells, List.map_cons, List.map_nil, e x hx, e y hy]]
 exact hh
def libItems : List Int := [1, 7, 8]
def iti (i : Nat) : Int := if i = 0 then 1 else if i = 1 then 7 else 8
theorem iti_bd (i : Nat) : 1 ≤ iti i ∧ iti i ≤ 8 := by unfold iti; split; omega; split <;> omega
theorem iti_D (i : Nat) : 160 ≤ 40 + 120 * (iti i % 3) ∧ 40 + 120 * (iti i % 3) ≤ 280 := by unfold iti; split; omega; split <;> omega
theorem iti_cell {w : World} {b t i : Nat} (h : Box w b t #[.int .i64 1, .int .i64 7, .int .i64 8]) (hi : i < 3) : w.cell? ⟨b, 0 + i * 1, none⟩ = some (.int .i64 (iti i)) := by
 rcases (by omega : i = 0 ∨ i = 1 ∨ i = 2) with rfl | rfl | rfl
 ·exact h.cell (i := 0) rfl
 ·exact h.cell (i := 1) rfl
 ·exact h.cell (i := 2) rfl
theorem it_next {li : List AstA} {i : Nat} {a : AstA} (h : li.map (·.item) = libItems.take i) (hi : i < 3) (ha : a.item = iti i) : (li ++ [a]).map (·.item) = libItems.take (i + 1) := by
 rw [List.map_append, h, List.map_singleton, ha]
 rcases (by omega : i = 0 ∨ i = 1 ∨ i = 2) with rfl | rfl | rfl <;> rfl
def picsOk (j : Nat) (l : List PicA) : Prop := l.length = j ∧ (∀ p ∈ l, p.data.size ≤ 400 ∧ p.power = 0) ∧ (0 < l.length → (l.getD 0 picZ).key = true)
theorem picsOk_nil : picsOk 0 [] := ⟨rfl, (fun _ h => by cases h), fun h => absurd h (Nat.lt_irrefl 0)⟩
theorem picsOk_next {j sN : Nat} {l : List PicA} {k : Bool} {x y : Int} (h : picsOk j l) (hs : sN ≤ 300) (hk : k = true ∨ j ≠ 0) : picsOk (j + 1) (l ++ [⟨k, bstr (List.replicate sN 0 ++ bytes2 x y), 0⟩]) := by
 obtain ⟨h1, h2, h3⟩ := h
 refine ⟨by rw [List.length_append, h1]; rfl, fun p hp => ?_, fun _ => ?_⟩
 ·rcases List.mem_append.1 hp with hp | hp
  ·exact h2 p hp
  ·rcases List.mem_singleton.1 hp with rfl
   refine ⟨?_, rfl⟩
   show (List.replicate sN (0 : UInt8) ++ bytes2 x y).length ≤ 400
   rw [List.length_append, List.length_replicate]
   show sN + 2 ≤ 400
   omega
 ·cases l with
  | nil =>
   rcases hk with rfl | hk
   ·rfl
   ·exact absurd h1.symm hk
  | cons a l => exact h3 (Nat.succ_pos _)
theorem picsOk_valid {it : Int} {l : List PicA} (h : picsOk 30 l) (h1 : 1 ≤ it) (h2 : it ≤ 1000000) : validA it l = true := by
 obtain ⟨h3, h4, h5⟩ := h
 unfold validA
 rw [decide_eq_false (show ¬ it < 1 by omega), decide_eq_false (show ¬ 4611686018427387903 < it by omega), decide_eq_false (show ¬ l.length < 1 by omega), decide_eq_false (show ¬ 2000 < l.length by omega), h5 (by omega)]
 simp only [Bool.or_false, Bool.not_false, Bool.true_and, List.all_eq_true]
 intro p hp
 obtain ⟨h6, h7⟩ := h4 p hp
 unfold picBad
 rw [h7, decide_eq_false (show ¬ (400 : Int) < ((p.data.size : Nat) : Int) by omega)]
 rfl
def astOw (a : AstA) (w : World) : Prop := a.ok w ∧ (0 < a.pics.length → ∃ b tl, a.A = some ⟨b, 0, none⟩ ∧ Box w b 96 (flat PicA.cells a.pics ++ tl).toArray)
theorem elOk_asw : ElOk astOw astFp := fun _ _ _ h hk hs => ⟨elOk_ast _ _ _ h.1 hk hs, fun h0 => let ⟨b, tl, e, hb⟩ := h.2 h0; ⟨b, tl, e, (hk b ⟨h0, 0, e⟩).trans hb⟩⟩
theorem ast_own {w : World} {base c : Nat} {it : Int} {A : Option Addr} {l : List PicA} (h : (rowsR base 96 3 PicA.cells okT feF (.slice A l.length c) l).F w) : astOw ⟨it, A, c, l⟩ w := by
 have h1 := own_facts h.1
 refine ⟨⟨⟨rfl, Rd.of_own h.1⟩, h1.1, h1.2.1, h1.2.2, trivial⟩, fun h0 => ?_⟩
 have h0 : 0 < l.length := h0
 rcases h.1.2 with ⟨_, e⟩ | ⟨g, cap, cur, hv, _, hh, _, _, _, ht⟩
 ·omega
 ·cases hv
  refine ⟨g, cur.toList.drop (l.length * 3), rfl, ?_⟩
  show w.heap[g]? = some (.cells (flat PicA.cells l ++ _).toArray 96)
  rw [← ht, List.take_append_drop]
  exact hh
theorem ast_fe {base c k : Nat} {it : Int} {A : Option Addr} {l : List PicA} (h : astFp ⟨it, A, c, l⟩ k) : (rowsR base 96 3 PicA.cells okT feF (.slice A l.length c) l).fp k := by
 obtain ⟨_, off, rfl⟩ := h
 exact .inl rfl
theorem library_any (XA : Option Addr) (xc : Nat) (xs : List Int) (w : World) (hxl : xs.length ≤ 1000000000000000) (hx : ∀ n ∈ xs, -9223372036854775808 ≤ n ∧ n ≤ 9223372036854775807) (hxr : IsRow 1 i1C w XA xs) :
  Calls Tryz.prog 11 #[.slice XA xs.length xc] w fun e w' => ∃ A c li, e = .returned (.slice A 3 c) ∧ li.map (·.item) = libItems ∧ (∀ a ∈ li, picsOk 30 a.pics) ∧ (li.Pairwise fun a b => ∀ k, astFp a k → ¬ astFp b k) ∧ (rowsR w.heap.size 91 2 AstA.cells astOw astFp (.slice A li.length c) li).F w' ∧ (∀ k, (rowsR w.heap.size 91 2 AstA.cells astOw astFp (.slice A li.length c) li).fp k → w.heap.size ≤ k ∧ k < w'.heap.size) ∧ Below w.heap.size w w' := by
 have HP := ((Hp.start w).keepF (rowF 1 i1C XA xs) hxr (rowF_ok _ _ _ _) (fun k hk => ⟨hxr.lt k hk, fun x hx => by cases hx⟩))
 refine w_enter 76 [(0, (.slice XA xs.length xc))] Tryz.func11 rfl Tryz.ntmps11 (by kernel_rfl) (by kernel_rfl) fun a H => ?_
 refine zsq (zrg ?_)
 refine H.ge HP [(2, (.slice none 0 0))] [] fun a H => ?_
 refine ztn (zsq (zrg ?_))
 refine H.ge HP [(3, (.slice none 0 0))] [] fun a H => ?_
 refine ztn (zsq (zsq (zrg ?_)))
 refine H.alloc HP 10 (fun b => (.slice (some ⟨b, 0, none⟩) 3 3)) 3 [(ii 1), (ii 7), (ii 8)] (by kernel_rfl) (fun w => by kernel_rfl) fun b_1 w_2 a H HP => ?_
 refine H.ge HP [(11, (ii 3)), (12, (ii 0))] [] fun a H => ?_
 refine ztn (zbk ?_)
 have HP := HP.nilRow w.heap.size 91 2 AstA.cells astOw astFp elOk_asw
 refine w_loop (fun mm a wv => ∃ (i : Nat), ∃ (li : List AstA), ∃ (LA : Option Addr), ∃ (lc : Nat), 3 - i = mm ∧ Sl 76 [(12, (ii i)), (3, (.slice LA li.length lc)), (0, (.slice XA xs.length xc)), (10, (.slice (some ⟨b_1, 0, none⟩) 3 3)), (11, (ii 3))] a ∧ Hp w wv [(rowsR w.heap.size 91 2 AstA.cells astOw astFp (.slice LA li.length lc) li), (bx b_1 3 [(ii 1), (ii 7), (ii 8)] true)] [rowF 1 i1C XA xs] ∧ (i ≤ 3) ∧ (li.map (·.item) = libItems.take i) ∧ (∀ a ∈ li, picsOk 30 a.pics) ∧ (li.Pairwise fun a b => ∀ k, astFp a k → ¬ astFp b k)) (3 - 0) ?_ ?_
 ·exact ⟨0, [], none, 0, (by omega), H.keep (by kernel_rfl), HP, (by omega), rfl, (fun _ h => by cases h), .nil⟩
 rintro mm a w_3 ⟨i, li, LA, lc, hmeas, H, HP, hi, hit, hok, hdj⟩
 have hlil : li.length = i := by have := congrArg List.length hit; rw [List.length_map, List.length_take] at this; simp only [libItems, List.length_cons, List.length_nil] at this; omega
 refine zsq (zrg ?_)
 refine H.ge HP [(13, (.bool (decide ((i : Int) < 3))))] [] fun a H => ?_
 refine ztn (zsq ?_)
 refine w_if H rfl (fun g13 => ?_) (fun g13 => ?_)
 ·have g13p := of_decide_eq_true g13
  refine zsk (ztn (zsq (zbk (zsq (zrg ?_)))))
  have hti := iti_bd i
  refine H.u 14 (.pointer (some ⟨b_1, 0 + i * 1, none⟩)) (ex_index (b := b_1) (off := 0) (len := 3) (cap := 3) (e := 3) (k := 1) (ik := .i64) (i := (i : Int)) (m := i) (by kernel_rfl) (by kernel_rfl) (by omega) (by omega) (by kernel_rfl) (by kernel_rfl)) fun a H => H.u 15 (ii (iti i)) (ex_l1 (iti_cell (HP.at_ 1 rfl) (by omega))) fun a H => ?_
  refine H.ge HP [(5, (ii (iti i)))] [] fun a H => ?_
  refine ztn (zsq (zrg ?_))
  refine H.go HP 2 [(17, (.agg #[(ii (iti i)), (.slice none 0 0)]))] [] fun a H => H.al HP 6 91 [(ii 0), (.slice none 0 0)] fun b_4 w_5 a H HP => H.sh HP 0 0 (.agg #[(ii (iti i)), (.slice none 0 0)]) rfl fun w_6 a H HP => ?_
  refine znl (ztn (zsq (zsq (zrg ?_))))
  refine H.ge HP [(7, (ii 0))] [] fun a H => ?_
  refine ztn (zbk ?_)
  have HP := HP.nilRow w.heap.size 96 3 PicA.cells okT feF elOk_flat
  refine w_loop (fun mm a wv => ∃ (j : Nat), ∃ (pl : List PicA), ∃ (PA : Option Addr), ∃ (pc : Nat), 30 - j = mm ∧ Sl 76 [(7, (ii j)), (0, (.slice XA xs.length xc)), (3, (.slice LA li.length lc)), (5, (ii (iti i))), (6, (pt b_4 0)), (10, (.slice (some ⟨b_1, 0, none⟩) 3 3)), (11, (ii 3)), (12, (ii i))] a ∧ Hp w wv [(rowsR w.heap.size 96 3 PicA.cells okT feF (.slice PA pl.length pc) pl), bx b_4 91 [(ii (iti i)), (.slice PA pl.length pc)] true, (rowsR w.heap.size 91 2 AstA.cells astOw astFp (.slice LA li.length lc) li), (bx b_1 3 [(ii 1), (ii 7), (ii 8)] true)] [rowF 1 i1C XA xs] ∧ (j ≤ 30) ∧ (picsOk j pl)) (30 - 0) ?_ ?_
  ·exact ⟨0, [], none, 0, (by omega), H.keep (by kernel_rfl), HP, (by omega), picsOk_nil⟩
  rintro mm a w_7 ⟨j, pl, PA, pc, hmeas, H, HP, hj, hpk⟩
  have hpll : pl.length = j := hpk.1
  refine zsq (zsq (zrg ?_))
  refine H.ge HP [(19, (.bool (decide ((j : Int) < 30))))] [] fun a H => ?_
  refine ztn ?_
  refine w_if H rfl (fun g19 => ?_) (fun g19 => ?_)
  ·have g19p := of_decide_eq_true g19
   refine zsk (ztn (zsq (zbk (zsq (zrg ?_)))))
   refine H.go HP 1 [(22, (ii j))] [] fun a H => H.wi 23 (7 * (j : Int)) fun a H => H.go HP 1 [(24, (ii (iti i)))] [] fun a H => H.wi 25 ((7 * (j : Int)) + (iti i)) fun a H => ?_
   refine H.ge HP [(8, (ii ((7 * (j : Int)) + (iti i))))] [] fun a H => ?_
   refine ztn ?_
   refine w_cut (fun a wv => ∃ (cq : Int), Sl 76 [(8, (ii cq)), (7, (ii j)), (0, (.slice XA xs.length xc)), (3, (.slice LA li.length lc)), (5, (ii (iti i))), (6, (pt b_4 0)), (10, (.slice (some ⟨b_1, 0, none⟩) 3 3)), (11, (ii 3)), (12, (ii i))] a ∧ Hp w wv [(rowsR w.heap.size 96 3 PicA.cells okT feF (.slice PA pl.length pc) pl), bx b_4 91 [(ii (iti i)), (.slice PA pl.length pc)] true, (rowsR w.heap.size 91 2 AstA.cells astOw astFp (.slice LA li.length lc) li), (bx b_1 3 [(ii 1), (ii 7), (ii 8)] true)] [rowF 1 i1C XA xs] ∧ (0 ≤ cq ∧ cq ≤ 2000000)) ?_ ?_
   ·
    refine zsq (zrg ?_)
    refine H.ge HP [(28, (.bool (decide ((xs.length : Int) > 0))))] [] fun a H => ?_
    refine ztn ?_
    refine w_if H rfl (fun g28 => ?_) (fun g28 => ?_)
    ·have g28p := of_decide_eq_true g28
     refine zrg ?_
     refine H.go HP 5 [(29, (ii ((7 * (j : Int)) + (iti i)))), (30, (.slice XA xs.length xc)), (31, (ii j)), (33, (ii xs.length))] [] fun a H => H.valE 34 (ii ((j : Int).tmod (xs.length : Int))) (ii ((j % xs.length : Nat) : Int)) (by kernel_rfl) (ex_rem (k := .i64) (by kernel_rfl) (by kernel_rfl) (by omega)) ((congrArg (Value.int .i64) (by rw [tmod_nn _ _ (by omega)]; exact (Int.natCast_emod j xs.length).symm))) fun a H => ?_
     have hjm : j % xs.length < xs.length := Nat.mod_lt _ (by omega)
     obtain ⟨bu, ou, xe, hA, _, _, hxe, hxm, _⟩ := IsRow.get i1C_size (HP.fact 0 rfl : IsRow 1 i1C _ XA xs) (i := j % xs.length) hjm
     have hxi := hx xe hxm
     refine H.u 35 (.pointer (some ⟨bu, ou + (j % xs.length) * 1, none⟩)) (ex_indexA (b := bu) (off := ou) (len := xs.length) (cap := xc) (e := 3) (k := 1) (ik := .i64) (i := ((j % xs.length : Nat) : Int)) (m := j % xs.length) hA (by kernel_rfl) (by kernel_rfl) rfl hjm (by kernel_rfl) (by kernel_rfl)) fun a H => H.u 36 (ii xe) (ex_l1 (by have hh := IsRow.cells i1C_size (HP.fact 0 rfl : IsRow 1 i1C _ XA xs) hA hxe 0 _ rfl; rwa [Nat.add_zero] at hh)) fun a H => ?_
     refine H.cl 37 (Tryz.call18 _ _) (pick_any xe 1048576 w_7 hxi (by omega)) ?_
     rintro e w_9 ⟨rfl, hw⟩
     refine ⟨_, rfl, ?_⟩
     intro a H
     have HP := hw ▸ HP
     have hp_8 := pickI_lt xe 1048576 (by omega)
     refine H.wi 38 (((7 * (j : Int)) + (iti i)) + (pickI xe 1048576)) fun a H => ?_
     refine H.ge HP [(8, (ii (((7 * (j : Int)) + (iti i)) + (pickI xe 1048576))))] [] fun a H => ?_
     refine ztn ?_
     exact ⟨((7 * (j : Int)) + (iti i)) + (pickI xe 1048576), H.keep (by kernel_rfl), HP, (by omega)⟩
    have g28p := of_decide_eq_false g28
    refine zsk (ztn ?_)
    exact ⟨(7 * (j : Int)) + (iti i), H.keep (by kernel_rfl), HP, (by omega)⟩
   
   rintro a w_10 ⟨cq, H, HP, hcq⟩
   refine zsq ?_
   have hD : 160 ≤ (40 + 120 * (iti i % 3)) ∧ (40 + 120 * (iti i % 3)) ≤ 280 := iti_D i
   have hm1 := Int.emod_nonneg cq (show (40 + 120 * (iti i % 3)) ≠ 0 by omega)
   have hm2 := Int.emod_lt_of_pos cq (show 0 < (40 + 120 * (iti i % 3)) by omega)
   obtain ⟨sN, hsN⟩ : ∃ n : Nat, 1 + cq % (40 + 120 * (iti i % 3)) = (n : Int) := ⟨(1 + cq % (40 + 120 * (iti i % 3))).toNat, by omega⟩
   refine zrg ?_
   refine H.go HP 2 [(39, (ii cq)), (40, (ii (iti i)))] [] fun a H => H.valE 41 (ii ((iti i).tmod 3)) (ii ((iti i) % 3)) (by kernel_rfl) (by kernel_rfl) ((by rw [tmod_nn _ _ (by omega)])) fun a H => H.wi 42 (120 * ((iti i) % 3)) fun a H => H.wi 43 (40 + (120 * ((iti i) % 3))) fun a H => H.valE 44 (ii (cq.tmod (40 + 120 * (iti i % 3)))) (ii (cq % (40 + 120 * (iti i % 3)))) (by kernel_rfl) (ex_rem (k := .i64) (by kernel_rfl) (by kernel_rfl) (by omega)) ((by rw [tmod_nn _ _ (by omega)])) fun a H => H.valE 45 (ii (IntKind.i64.wrap (1 + (cq % (40 + 120 * (iti i % 3)))))) (ii sN) (by kernel_rfl) (by kernel_rfl) ((congrArg (Value.int .i64) (by rw [wrap_ini64 _ (by omega)]; exact hsN))) fun a H => ?_
   refine H.ge HP [(9, (ii sN))] [] fun a H => ?_
   refine ztn ?_
   have HP := HP.front 0 rfl _ rfl
   refine An.start (fun v => Hp w v [bx b_4 91 [(ii (iti i)), (.slice PA pl.length pc)] true, (rowsR w.heap.size 91 2 AstA.cells astOw astFp (.slice LA li.length lc) li), (bx b_1 3 [(ii 1), (ii 7), (ii 8)] true)] [rowF 1 i1C XA xs]) 24 25 HP wide_follows rfl fun w_11 HP => ?_
   refine An.go H (.inr ((HP.tail rfl))) 22 [0, 1, 2] [(47, (.slice PA pl.length pc)), (48, (ii j))] [0] fun a H => ?_
   refine An.pureE H (.inr ((HP.tail rfl))) 3 49 (ii ((j : Int).tmod 4)) (ii ((j : Int) % 4)) rfl (by kernel_rfl) (by kernel_rfl) (fun _ _ _ h => h) (fun _ => by kernel_rfl) ((by rw [tmod_nn _ _ (by omega)])) fun a H => ?_
   refine An.go H (.inr ((HP.tail rfl))) 17 [4, 5, 10, 13] [(51, (.bool (((j : Int) % 4) == 0))), (56, (ii sN)), (59, (ii (iti i)))] [] fun a H => ?_
   refine An.pureE H (.inr ((HP.tail rfl))) 14 60 (.int .u8 (IntKind.u8.wrap (iti i))) (.int .u8 (iti i)) rfl (by kernel_rfl) (by kernel_rfl) (fun _ _ _ h => h) (fun _ => by kernel_rfl) ((by rw [wrap_inu8 _ (by omega)])) fun a H => ?_
   refine An.go H (.inr ((HP.tail rfl))) 15 [15] [(61, (ii j))] [] fun a H => ?_
   refine An.pureE H (.inr ((HP.tail rfl))) 16 62 (.int .u8 (IntKind.u8.wrap (j : Int))) (.int .u8 (j : Int)) rfl (by kernel_rfl) (by kernel_rfl) (fun _ _ _ h => h) (fun _ => by kernel_rfl) ((by rw [wrap_inu8 _ (by omega)])) fun a H => ?_
   refine H.split 51 rfl (fun g51 H => ?_) (fun g51 H => ?_)
   ·have g51p := eq_of_beq g51
    refine An.go H (.inr ((HP.tail rfl))) 10 [6, 7, 8, 9] [(55, (.bool true))] [] fun a H => ?_
    refine An.two 11 17 (by kernel_rfl) ?_ ?_
    ·refine Op.alloc H HP 57 (fun b => (.slice (some ⟨b, 0, none⟩) sN sN)) 5 (List.replicate sN (.int .u8 0)) rfl (by kernel_rfl) (fun w => ex_make (n := sN) (e := 5) (k := .i64) (by kernel_rfl) (by kernel_rfl) (by kernel_rfl) (by kernel_rfl) (by omega)) fun b_12 w_13 a H HP => ?_
     refine ⟨.inr (((HP.tail rfl).tail rfl)), ?_⟩
     refine An.two 12 17 (by kernel_rfl) ?_ ?_
     ·refine Op.val H 58 (.string (bstr (List.replicate sN 0))) rfl (by kernel_rfl) (ex_b2sR (l := List.replicate sN 0) (e := 5) (m := sN) (c := sN) (by kernel_rfl) (rd_zeros (HP.at_ 0 rfl)) (by kernel_rfl) (by kernel_rfl) (by kernel_rfl)) fun a H => ?_
      refine ⟨.inr (((HP.tail rfl).tail rfl)), ?_⟩
      refine An.one 17 (by kernel_rfl) ?_
      refine Op.alloc H HP 63 (fun b => (.slice (some ⟨b, 0, none⟩) 2 2)) 5 [(.int .u8 (iti i)), (.int .u8 (j : Int))] rfl (by kernel_rfl) (fun w => by kernel_rfl) fun b_14 w_15 a H HP => ?_
      refine ⟨.inr ((((HP.tail rfl).tail rfl).tail rfl)), ?_⟩
      refine An.one 18 (by kernel_rfl) ?_
      refine Op.val H 64 (.string (bstr (bytes2 (iti i) (j : Int)))) rfl (by kernel_rfl) (ex_b2sR (l := bytes2 (iti i) (j : Int)) (e := 5) (m := 2) (c := 2) (by kernel_rfl) (rd_bytes2 (HP.at_ 0 rfl) (by omega) (by omega)) (by kernel_rfl) (by kernel_rfl) (by kernel_rfl)) fun a H => ?_
      refine ⟨.inr ((((HP.tail rfl).tail rfl).tail rfl)), ?_⟩
      refine An.q H (.inr ((((HP.tail rfl).tail rfl).tail rfl))) 19 65 (.string (bstr ((List.replicate sN 0) ++ (bytes2 (iti i) (j : Int))))) (fun _ => ex_sadd (by kernel_rfl) (by kernel_rfl) (by rw [List.length_replicate]; show sN + 2 ≤ _; omega)) fun a H => ?_
      refine An.go H (.inr ((((HP.tail rfl).tail rfl).tail rfl))) 4 [20] [(66, (.agg #[(.bool true), (.string (bstr ((List.replicate sN 0) ++ (bytes2 (iti i) (j : Int))))), (ii 0)]))] [] fun a H => ?_
      refine An.one 21 (by kernel_rfl) ?_
      refine Op.alloc H HP 67 (fun b => (.slice (some ⟨b, 0, none⟩) 1 1)) 96 [(.bool true), (.string (bstr ((List.replicate sN 0) ++ (bytes2 (iti i) (j : Int))))), (ii 0)] rfl (by kernel_rfl) (fun w => by kernel_rfl) fun b_16 w_17 a H HP => ?_
      refine ⟨.inr (((((HP.tail rfl).tail rfl).tail rfl).tail rfl)), ?_⟩
      refine An.one 22 (by kernel_rfl) ?_
      have HP := HP.pend0 3 rfl elOk_flat (⟨true, bstr ((List.replicate sN 0) ++ (bytes2 (iti i) (j : Int))), 0⟩ : PicA) [bx b_16 96 [(.bool true), (.string (bstr ((List.replicate sN 0) ++ (bytes2 (iti i) (j : Int))))), (ii 0)] true, bx b_14 5 [(.int .u8 (iti i)), (.int .u8 (j : Int))] true, bx b_12 5 (List.replicate sN (.int .u8 0)) true, (rowsP w.heap.size 96 3 PicA.cells okT feF (.slice PA pl.length pc) pl (⟨true, bstr ((List.replicate sN 0) ++ (bytes2 (iti i) (j : Int))), 0⟩ : PicA)), bx b_4 91 [(ii (iti i)), (.slice PA pl.length pc)] true, (rowsR w.heap.size 91 2 AstA.cells astOw astFp (.slice LA li.length lc) li), (bx b_1 3 [(ii 1), (ii 7), (ii 8)] true)] (by kernel_rfl) trivial (fun _ h => h)
      refine Op.push H HP 68 3 0 (v := (.slice PA pl.length pc)) (e := 96) (p := (⟨true, bstr ((List.replicate sN 0) ++ (bytes2 (iti i) (j : Int))), 0⟩ : PicA)) (l := pl) (cs := PicA.cells) (ok := okT) (fe := feF) (size := 3) (z := (.agg #[(.bool false), (.string (bstr ([]))), (ii 0)])) (bytes := 32) (bb := b_16) (tb := 96) (fb := true) rfl (by kernel_rfl) elOk_flat (by kernel_rfl) (by kernel_rfl) rfl (by kernel_rfl) (by kernel_rfl) (by kernel_rfl) (by kernel_rfl) (by kernel_rfl) rfl (by kernel_rfl) (by unfold maxLen; omega) (by omega) fun B_18 c_19 w_20 a H HP => ?_
      have HP : Hp w w_20 [bx b_16 96 [(.bool true), (.string (bstr ((List.replicate sN 0) ++ (bytes2 (iti i) (j : Int))))), (ii 0)] true, bx b_14 5 [(.int .u8 (iti i)), (.int .u8 (j : Int))] true, bx b_12 5 (List.replicate sN (.int .u8 0)) true, (rowsR w.heap.size 96 3 PicA.cells okT feF (.slice B_18 (pl.length + 1) c_19) (pl ++ [(⟨true, bstr ((List.replicate sN 0) ++ (bytes2 (iti i) (j : Int))), 0⟩ : PicA)])), bx b_4 91 [(ii (iti i)), (.slice PA pl.length pc)] true, (rowsR w.heap.size 91 2 AstA.cells astOw astFp (.slice LA li.length lc) li), (bx b_1 3 [(ii 1), (ii 7), (ii 8)] true)] [rowF 1 i1C XA xs] := HP
      refine ⟨.inr (((((HP.tail rfl).tail rfl).tail rfl).tail rfl)), ?_⟩
      refine An.go H (.inr (((((HP.tail rfl).tail rfl).tail rfl).tail rfl))) 1 [23] [(69, (pt b_4 1))] [] fun a H => ?_
      refine An.one 24 (by kernel_rfl) ?_
      refine Op.sh H HP 4 1 (.slice B_18 (pl.length + 1) c_19) rfl rfl fun w_21 a H HP => ?_
      refine ⟨.inl (by kernel_rfl), ?_⟩
      refine An.done (by kernel_rfl) ?_
      refine zibn (ztn (zrg ?_))
      refine H.go HP 1 [(20, (ii j))] [] fun a H => H.wi 21 ((j : Int) + 1) fun a H => ?_
      refine H.ge HP [(7, (ii ((j : Int) + 1)))] [] fun a H => ?_
      refine ztn ?_
      have H := H.as 7 (ii ((j + 1 : Nat) : Int)) rfl rfl
      refine ⟨_, ?_, j + 1, pl ++ [(⟨true, bstr ((List.replicate sN 0) ++ (bytes2 (iti i) (j : Int))), 0⟩ : PicA)], B_18, c_19, rfl, H.keep (by kernel_rfl), (by have hh := (HP.sub [3, 4, 5, 6] [(rowsR w.heap.size 96 3 PicA.cells okT feF (.slice B_18 (pl.length + 1) c_19) (pl ++ [(⟨true, bstr ((List.replicate sN 0) ++ (bytes2 (iti i) (j : Int))), 0⟩ : PicA)])), bx b_4 91 [(ii (iti i)), (.slice B_18 (pl.length + 1) c_19)] true, (rowsR w.heap.size 91 2 AstA.cells astOw astFp (.slice LA li.length lc) li), (bx b_1 3 [(ii 1), (ii 7), (ii 8)] true)] (by kernel_rfl) (by kernel_rfl)); rw [show pl.length + 1 = (pl ++ [(⟨true, bstr ((List.replicate sN 0) ++ (bytes2 (iti i) (j : Int))), 0⟩ : PicA)]).length from (by rw [List.length_append]; rfl)] at hh; exact hh), (by omega), (picsOk_next hpk (by omega) (.inl rfl))⟩
      omega
     refine Op.alloc H HP 63 (fun b => (.slice (some ⟨b, 0, none⟩) 2 2)) 5 [(.int .u8 (iti i)), (.int .u8 (j : Int))] rfl (by kernel_rfl) (fun w => by kernel_rfl) fun b_22 w_23 a H HP => ?_
     refine ⟨.inr ((((HP.tail rfl).tail rfl).tail rfl)), ?_⟩
     refine An.two 12 18 (by kernel_rfl) ?_ ?_
     ·refine Op.val H 58 (.string (bstr (List.replicate sN 0))) rfl (by kernel_rfl) (ex_b2sR (l := List.replicate sN 0) (e := 5) (m := sN) (c := sN) (by kernel_rfl) (rd_zeros (HP.at_ 1 rfl)) (by kernel_rfl) (by kernel_rfl) (by kernel_rfl)) fun a H => ?_
      refine ⟨.inr ((((HP.tail rfl).tail rfl).tail rfl)), ?_⟩
      refine An.one 18 (by kernel_rfl) ?_
      refine Op.val H 64 (.string (bstr (bytes2 (iti i) (j : Int)))) rfl (by kernel_rfl) (ex_b2sR (l := bytes2 (iti i) (j : Int)) (e := 5) (m := 2) (c := 2) (by kernel_rfl) (rd_bytes2 (HP.at_ 0 rfl) (by omega) (by omega)) (by kernel_rfl) (by kernel_rfl) (by kernel_rfl)) fun a H => ?_
      refine ⟨.inr ((((HP.tail rfl).tail rfl).tail rfl)), ?_⟩
      refine An.q H (.inr ((((HP.tail rfl).tail rfl).tail rfl))) 19 65 (.string (bstr ((List.replicate sN 0) ++ (bytes2 (iti i) (j : Int))))) (fun _ => ex_sadd (by kernel_rfl) (by kernel_rfl) (by rw [List.length_replicate]; show sN + 2 ≤ _; omega)) fun a H => ?_
      refine An.go H (.inr ((((HP.tail rfl).tail rfl).tail rfl))) 4 [20] [(66, (.agg #[(.bool true), (.string (bstr ((List.replicate sN 0) ++ (bytes2 (iti i) (j : Int))))), (ii 0)]))] [] fun a H => ?_
      refine An.one 21 (by kernel_rfl) ?_
      refine Op.alloc H HP 67 (fun b => (.slice (some ⟨b, 0, none⟩) 1 1)) 96 [(.bool true), (.string (bstr ((List.replicate sN 0) ++ (bytes2 (iti i) (j : Int))))), (ii 0)] rfl (by kernel_rfl) (fun w => by kernel_rfl) fun b_24 w_25 a H HP => ?_
      refine ⟨.inr (((((HP.tail rfl).tail rfl).tail rfl).tail rfl)), ?_⟩
      refine An.one 22 (by kernel_rfl) ?_
      have HP := HP.pend0 3 rfl elOk_flat (⟨true, bstr ((List.replicate sN 0) ++ (bytes2 (iti i) (j : Int))), 0⟩ : PicA) [bx b_24 96 [(.bool true), (.string (bstr ((List.replicate sN 0) ++ (bytes2 (iti i) (j : Int))))), (ii 0)] true, bx b_22 5 [(.int .u8 (iti i)), (.int .u8 (j : Int))] true, bx b_12 5 (List.replicate sN (.int .u8 0)) true, (rowsP w.heap.size 96 3 PicA.cells okT feF (.slice PA pl.length pc) pl (⟨true, bstr ((List.replicate sN 0) ++ (bytes2 (iti i) (j : Int))), 0⟩ : PicA)), bx b_4 91 [(ii (iti i)), (.slice PA pl.length pc)] true, (rowsR w.heap.size 91 2 AstA.cells astOw astFp (.slice LA li.length lc) li), (bx b_1 3 [(ii 1), (ii 7), (ii 8)] true)] (by kernel_rfl) trivial (fun _ h => h)
      refine Op.push H HP 68 3 0 (v := (.slice PA pl.length pc)) (e := 96) (p := (⟨true, bstr ((List.replicate sN 0) ++ (bytes2 (iti i) (j : Int))), 0⟩ : PicA)) (l := pl) (cs := PicA.cells) (ok := okT) (fe := feF) (size := 3) (z := (.agg #[(.bool false), (.string (bstr ([]))), (ii 0)])) (bytes := 32) (bb := b_24) (tb := 96) (fb := true) rfl (by kernel_rfl) elOk_flat (by kernel_rfl) (by kernel_rfl) rfl (by kernel_rfl) (by kernel_rfl) (by kernel_rfl) (by kernel_rfl) (by kernel_rfl) rfl (by kernel_rfl) (by unfold maxLen; omega) (by omega) fun B_26 c_27 w_28 a H HP => ?_
      have HP : Hp w w_28 [bx b_24 96 [(.bool true), (.string (bstr ((List.replicate sN 0) ++ (bytes2 (iti i) (j : Int))))), (ii 0)] true, bx b_22 5 [(.int .u8 (iti i)), (.int .u8 (j : Int))] true, bx b_12 5 (List.replicate sN (.int .u8 0)) true, (rowsR w.heap.size 96 3 PicA.cells okT feF (.slice B_26 (pl.length + 1) c_27) (pl ++ [(⟨true, bstr ((List.replicate sN 0) ++ (bytes2 (iti i) (j : Int))), 0⟩ : PicA)])), bx b_4 91 [(ii (iti i)), (.slice PA pl.length pc)] true, (rowsR w.heap.size 91 2 AstA.cells astOw astFp (.slice LA li.length lc) li), (bx b_1 3 [(ii 1), (ii 7), (ii 8)] true)] [rowF 1 i1C XA xs] := HP
      refine ⟨.inr (((((HP.tail rfl).tail rfl).tail rfl).tail rfl)), ?_⟩
      refine An.go H (.inr (((((HP.tail rfl).tail rfl).tail rfl).tail rfl))) 1 [23] [(69, (pt b_4 1))] [] fun a H => ?_
      refine An.one 24 (by kernel_rfl) ?_
      refine Op.sh H HP 4 1 (.slice B_26 (pl.length + 1) c_27) rfl rfl fun w_29 a H HP => ?_
      refine ⟨.inl (by kernel_rfl), ?_⟩
      refine An.done (by kernel_rfl) ?_
      refine zibn (ztn (zrg ?_))
      refine H.go HP 1 [(20, (ii j))] [] fun a H => H.wi 21 ((j : Int) + 1) fun a H => ?_
      refine H.ge HP [(7, (ii ((j : Int) + 1)))] [] fun a H => ?_
      refine ztn ?_
      have H := H.as 7 (ii ((j + 1 : Nat) : Int)) rfl rfl
      refine ⟨_, ?_, j + 1, pl ++ [(⟨true, bstr ((List.replicate sN 0) ++ (bytes2 (iti i) (j : Int))), 0⟩ : PicA)], B_26, c_27, rfl, H.keep (by kernel_rfl), (by have hh := (HP.sub [3, 4, 5, 6] [(rowsR w.heap.size 96 3 PicA.cells okT feF (.slice B_26 (pl.length + 1) c_27) (pl ++ [(⟨true, bstr ((List.replicate sN 0) ++ (bytes2 (iti i) (j : Int))), 0⟩ : PicA)])), bx b_4 91 [(ii (iti i)), (.slice B_26 (pl.length + 1) c_27)] true, (rowsR w.heap.size 91 2 AstA.cells astOw astFp (.slice LA li.length lc) li), (bx b_1 3 [(ii 1), (ii 7), (ii 8)] true)] (by kernel_rfl) (by kernel_rfl)); rw [show pl.length + 1 = (pl ++ [(⟨true, bstr ((List.replicate sN 0) ++ (bytes2 (iti i) (j : Int))), 0⟩ : PicA)]).length from (by rw [List.length_append]; rfl)] at hh; exact hh), (by omega), (picsOk_next hpk (by omega) (.inl rfl))⟩
      omega
     refine Op.val H 64 (.string (bstr (bytes2 (iti i) (j : Int)))) rfl (by kernel_rfl) (ex_b2sR (l := bytes2 (iti i) (j : Int)) (e := 5) (m := 2) (c := 2) (by kernel_rfl) (rd_bytes2 (HP.at_ 0 rfl) (by omega) (by omega)) (by kernel_rfl) (by kernel_rfl) (by kernel_rfl)) fun a H => ?_
     refine ⟨.inr ((((HP.tail rfl).tail rfl).tail rfl)), ?_⟩
     refine An.one 12 (by kernel_rfl) ?_
     refine Op.val H 58 (.string (bstr (List.replicate sN 0))) rfl (by kernel_rfl) (ex_b2sR (l := List.replicate sN 0) (e := 5) (m := sN) (c := sN) (by kernel_rfl) (rd_zeros (HP.at_ 1 rfl)) (by kernel_rfl) (by kernel_rfl) (by kernel_rfl)) fun a H => ?_
     refine ⟨.inr ((((HP.tail rfl).tail rfl).tail rfl)), ?_⟩
     refine An.q H (.inr ((((HP.tail rfl).tail rfl).tail rfl))) 19 65 (.string (bstr ((List.replicate sN 0) ++ (bytes2 (iti i) (j : Int))))) (fun _ => ex_sadd (by kernel_rfl) (by kernel_rfl) (by rw [List.length_replicate]; show sN + 2 ≤ _; omega)) fun a H => ?_
     refine An.go H (.inr ((((HP.tail rfl).tail rfl).tail rfl))) 4 [20] [(66, (.agg #[(.bool true), (.string (bstr ((List.replicate sN 0) ++ (bytes2 (iti i) (j : Int))))), (ii 0)]))] [] fun a H => ?_
     refine An.one 21 (by kernel_rfl) ?_
     refine Op.alloc H HP 67 (fun b => (.slice (some ⟨b, 0, none⟩) 1 1)) 96 [(.bool true), (.string (bstr ((List.replicate sN 0) ++ (bytes2 (iti i) (j : Int))))), (ii 0)] rfl (by kernel_rfl) (fun w => by kernel_rfl) fun b_30 w_31 a H HP => ?_
     refine ⟨.inr (((((HP.tail rfl).tail rfl).tail rfl).tail rfl)), ?_⟩
     refine An.one 22 (by kernel_rfl) ?_
     have HP := HP.pend0 3 rfl elOk_flat (⟨true, bstr ((List.replicate sN 0) ++ (bytes2 (iti i) (j : Int))), 0⟩ : PicA) [bx b_30 96 [(.bool true), (.string (bstr ((List.replicate sN 0) ++ (bytes2 (iti i) (j : Int))))), (ii 0)] true, bx b_22 5 [(.int .u8 (iti i)), (.int .u8 (j : Int))] true, bx b_12 5 (List.replicate sN (.int .u8 0)) true, (rowsP w.heap.size 96 3 PicA.cells okT feF (.slice PA pl.length pc) pl (⟨true, bstr ((List.replicate sN 0) ++ (bytes2 (iti i) (j : Int))), 0⟩ : PicA)), bx b_4 91 [(ii (iti i)), (.slice PA pl.length pc)] true, (rowsR w.heap.size 91 2 AstA.cells astOw astFp (.slice LA li.length lc) li), (bx b_1 3 [(ii 1), (ii 7), (ii 8)] true)] (by kernel_rfl) trivial (fun _ h => h)
     refine Op.push H HP 68 3 0 (v := (.slice PA pl.length pc)) (e := 96) (p := (⟨true, bstr ((List.replicate sN 0) ++ (bytes2 (iti i) (j : Int))), 0⟩ : PicA)) (l := pl) (cs := PicA.cells) (ok := okT) (fe := feF) (size := 3) (z := (.agg #[(.bool false), (.string (bstr ([]))), (ii 0)])) (bytes := 32) (bb := b_30) (tb := 96) (fb := true) rfl (by kernel_rfl) elOk_flat (by kernel_rfl) (by kernel_rfl) rfl (by kernel_rfl) (by kernel_rfl) (by kernel_rfl) (by kernel_rfl) (by kernel_rfl) rfl (by kernel_rfl) (by unfold maxLen; omega) (by omega) fun B_32 c_33 w_34 a H HP => ?_
     have HP : Hp w w_34 [bx b_30 96 [(.bool true), (.string (bstr ((List.replicate sN 0) ++ (bytes2 (iti i) (j : Int))))), (ii 0)] true, bx b_22 5 [(.int .u8 (iti i)), (.int .u8 (j : Int))] true, bx b_12 5 (List.replicate sN (.int .u8 0)) true, (rowsR w.heap.size 96 3 PicA.cells okT feF (.slice B_32 (pl.length + 1) c_33) (pl ++ [(⟨true, bstr ((List.replicate sN 0) ++ (bytes2 (iti i) (j : Int))), 0⟩ : PicA)])), bx b_4 91 [(ii (iti i)), (.slice PA pl.length pc)] true, (rowsR w.heap.size 91 2 AstA.cells astOw astFp (.slice LA li.length lc) li), (bx b_1 3 [(ii 1), (ii 7), (ii 8)] true)] [rowF 1 i1C XA xs] := HP
     refine ⟨.inr (((((HP.tail rfl).tail rfl).tail rfl).tail rfl)), ?_⟩
     refine An.go H (.inr (((((HP.tail rfl).tail rfl).tail rfl).tail rfl))) 1 [23] [(69, (pt b_4 1))] [] fun a H => ?_
     refine An.one 24 (by kernel_rfl) ?_
     refine Op.sh H HP 4 1 (.slice B_32 (pl.length + 1) c_33) rfl rfl fun w_35 a H HP => ?_
     refine ⟨.inl (by kernel_rfl), ?_⟩
     refine An.done (by kernel_rfl) ?_
     refine zibn (ztn (zrg ?_))
     refine H.go HP 1 [(20, (ii j))] [] fun a H => H.wi 21 ((j : Int) + 1) fun a H => ?_
     refine H.ge HP [(7, (ii ((j : Int) + 1)))] [] fun a H => ?_
     refine ztn ?_
     have H := H.as 7 (ii ((j + 1 : Nat) : Int)) rfl rfl
     refine ⟨_, ?_, j + 1, pl ++ [(⟨true, bstr ((List.replicate sN 0) ++ (bytes2 (iti i) (j : Int))), 0⟩ : PicA)], B_32, c_33, rfl, H.keep (by kernel_rfl), (by have hh := (HP.sub [3, 4, 5, 6] [(rowsR w.heap.size 96 3 PicA.cells okT feF (.slice B_32 (pl.length + 1) c_33) (pl ++ [(⟨true, bstr ((List.replicate sN 0) ++ (bytes2 (iti i) (j : Int))), 0⟩ : PicA)])), bx b_4 91 [(ii (iti i)), (.slice B_32 (pl.length + 1) c_33)] true, (rowsR w.heap.size 91 2 AstA.cells astOw astFp (.slice LA li.length lc) li), (bx b_1 3 [(ii 1), (ii 7), (ii 8)] true)] (by kernel_rfl) (by kernel_rfl)); rw [show pl.length + 1 = (pl ++ [(⟨true, bstr ((List.replicate sN 0) ++ (bytes2 (iti i) (j : Int))), 0⟩ : PicA)]).length from (by rw [List.length_append]; rfl)] at hh; exact hh), (by omega), (picsOk_next hpk (by omega) (.inl rfl))⟩
     omega
    refine Op.alloc H HP 63 (fun b => (.slice (some ⟨b, 0, none⟩) 2 2)) 5 [(.int .u8 (iti i)), (.int .u8 (j : Int))] rfl (by kernel_rfl) (fun w => by kernel_rfl) fun b_36 w_37 a H HP => ?_
    refine ⟨.inr (((HP.tail rfl).tail rfl)), ?_⟩
    refine An.two 11 18 (by kernel_rfl) ?_ ?_
    ·refine Op.alloc H HP 57 (fun b => (.slice (some ⟨b, 0, none⟩) sN sN)) 5 (List.replicate sN (.int .u8 0)) rfl (by kernel_rfl) (fun w => ex_make (n := sN) (e := 5) (k := .i64) (by kernel_rfl) (by kernel_rfl) (by kernel_rfl) (by kernel_rfl) (by omega)) fun b_38 w_39 a H HP => ?_
     refine ⟨.inr ((((HP.tail rfl).tail rfl).tail rfl)), ?_⟩
     refine An.two 12 18 (by kernel_rfl) ?_ ?_
     ·refine Op.val H 58 (.string (bstr (List.replicate sN 0))) rfl (by kernel_rfl) (ex_b2sR (l := List.replicate sN 0) (e := 5) (m := sN) (c := sN) (by kernel_rfl) (rd_zeros (HP.at_ 0 rfl)) (by kernel_rfl) (by kernel_rfl) (by kernel_rfl)) fun a H => ?_
      refine ⟨.inr ((((HP.tail rfl).tail rfl).tail rfl)), ?_⟩
      refine An.one 18 (by kernel_rfl) ?_
      refine Op.val H 64 (.string (bstr (bytes2 (iti i) (j : Int)))) rfl (by kernel_rfl) (ex_b2sR (l := bytes2 (iti i) (j : Int)) (e := 5) (m := 2) (c := 2) (by kernel_rfl) (rd_bytes2 (HP.at_ 1 rfl) (by omega) (by omega)) (by kernel_rfl) (by kernel_rfl) (by kernel_rfl)) fun a H => ?_
      refine ⟨.inr ((((HP.tail rfl).tail rfl).tail rfl)), ?_⟩
      refine An.q H (.inr ((((HP.tail rfl).tail rfl).tail rfl))) 19 65 (.string (bstr ((List.replicate sN 0) ++ (bytes2 (iti i) (j : Int))))) (fun _ => ex_sadd (by kernel_rfl) (by kernel_rfl) (by rw [List.length_replicate]; show sN + 2 ≤ _; omega)) fun a H => ?_
      refine An.go H (.inr ((((HP.tail rfl).tail rfl).tail rfl))) 4 [20] [(66, (.agg #[(.bool true), (.string (bstr ((List.replicate sN 0) ++ (bytes2 (iti i) (j : Int))))), (ii 0)]))] [] fun a H => ?_
      refine An.one 21 (by kernel_rfl) ?_
      refine Op.alloc H HP 67 (fun b => (.slice (some ⟨b, 0, none⟩) 1 1)) 96 [(.bool true), (.string (bstr ((List.replicate sN 0) ++ (bytes2 (iti i) (j : Int))))), (ii 0)] rfl (by kernel_rfl) (fun w => by kernel_rfl) fun b_40 w_41 a H HP => ?_
      refine ⟨.inr (((((HP.tail rfl).tail rfl).tail rfl).tail rfl)), ?_⟩
      refine An.one 22 (by kernel_rfl) ?_
      have HP := HP.pend0 3 rfl elOk_flat (⟨true, bstr ((List.replicate sN 0) ++ (bytes2 (iti i) (j : Int))), 0⟩ : PicA) [bx b_40 96 [(.bool true), (.string (bstr ((List.replicate sN 0) ++ (bytes2 (iti i) (j : Int))))), (ii 0)] true, bx b_38 5 (List.replicate sN (.int .u8 0)) true, bx b_36 5 [(.int .u8 (iti i)), (.int .u8 (j : Int))] true, (rowsP w.heap.size 96 3 PicA.cells okT feF (.slice PA pl.length pc) pl (⟨true, bstr ((List.replicate sN 0) ++ (bytes2 (iti i) (j : Int))), 0⟩ : PicA)), bx b_4 91 [(ii (iti i)), (.slice PA pl.length pc)] true, (rowsR w.heap.size 91 2 AstA.cells astOw astFp (.slice LA li.length lc) li), (bx b_1 3 [(ii 1), (ii 7), (ii 8)] true)] (by kernel_rfl) trivial (fun _ h => h)
      refine Op.push H HP 68 3 0 (v := (.slice PA pl.length pc)) (e := 96) (p := (⟨true, bstr ((List.replicate sN 0) ++ (bytes2 (iti i) (j : Int))), 0⟩ : PicA)) (l := pl) (cs := PicA.cells) (ok := okT) (fe := feF) (size := 3) (z := (.agg #[(.bool false), (.string (bstr ([]))), (ii 0)])) (bytes := 32) (bb := b_40) (tb := 96) (fb := true) rfl (by kernel_rfl) elOk_flat (by kernel_rfl) (by kernel_rfl) rfl (by kernel_rfl) (by kernel_rfl) (by kernel_rfl) (by kernel_rfl) (by kernel_rfl) rfl (by kernel_rfl) (by unfold maxLen; omega) (by omega) fun B_42 c_43 w_44 a H HP => ?_
      have HP : Hp w w_44 [bx b_40 96 [(.bool true), (.string (bstr ((List.replicate sN 0) ++ (bytes2 (iti i) (j : Int))))), (ii 0)] true, bx b_38 5 (List.replicate sN (.int .u8 0)) true, bx b_36 5 [(.int .u8 (iti i)), (.int .u8 (j : Int))] true, (rowsR w.heap.size 96 3 PicA.cells okT feF (.slice B_42 (pl.length + 1) c_43) (pl ++ [(⟨true, bstr ((List.replicate sN 0) ++ (bytes2 (iti i) (j : Int))), 0⟩ : PicA)])), bx b_4 91 [(ii (iti i)), (.slice PA pl.length pc)] true, (rowsR w.heap.size 91 2 AstA.cells astOw astFp (.slice LA li.length lc) li), (bx b_1 3 [(ii 1), (ii 7), (ii 8)] true)] [rowF 1 i1C XA xs] := HP
      refine ⟨.inr (((((HP.tail rfl).tail rfl).tail rfl).tail rfl)), ?_⟩
      refine An.go H (.inr (((((HP.tail rfl).tail rfl).tail rfl).tail rfl))) 1 [23] [(69, (pt b_4 1))] [] fun a H => ?_
      refine An.one 24 (by kernel_rfl) ?_
      refine Op.sh H HP 4 1 (.slice B_42 (pl.length + 1) c_43) rfl rfl fun w_45 a H HP => ?_
      refine ⟨.inl (by kernel_rfl), ?_⟩
      refine An.done (by kernel_rfl) ?_
      refine zibn (ztn (zrg ?_))
      refine H.go HP 1 [(20, (ii j))] [] fun a H => H.wi 21 ((j : Int) + 1) fun a H => ?_
      refine H.ge HP [(7, (ii ((j : Int) + 1)))] [] fun a H => ?_
      refine ztn ?_
      have H := H.as 7 (ii ((j + 1 : Nat) : Int)) rfl rfl
      refine ⟨_, ?_, j + 1, pl ++ [(⟨true, bstr ((List.replicate sN 0) ++ (bytes2 (iti i) (j : Int))), 0⟩ : PicA)], B_42, c_43, rfl, H.keep (by kernel_rfl), (by have hh := (HP.sub [3, 4, 5, 6] [(rowsR w.heap.size 96 3 PicA.cells okT feF (.slice B_42 (pl.length + 1) c_43) (pl ++ [(⟨true, bstr ((List.replicate sN 0) ++ (bytes2 (iti i) (j : Int))), 0⟩ : PicA)])), bx b_4 91 [(ii (iti i)), (.slice B_42 (pl.length + 1) c_43)] true, (rowsR w.heap.size 91 2 AstA.cells astOw astFp (.slice LA li.length lc) li), (bx b_1 3 [(ii 1), (ii 7), (ii 8)] true)] (by kernel_rfl) (by kernel_rfl)); rw [show pl.length + 1 = (pl ++ [(⟨true, bstr ((List.replicate sN 0) ++ (bytes2 (iti i) (j : Int))), 0⟩ : PicA)]).length from (by rw [List.length_append]; rfl)] at hh; exact hh), (by omega), (picsOk_next hpk (by omega) (.inl rfl))⟩
      omega
     refine Op.val H 64 (.string (bstr (bytes2 (iti i) (j : Int)))) rfl (by kernel_rfl) (ex_b2sR (l := bytes2 (iti i) (j : Int)) (e := 5) (m := 2) (c := 2) (by kernel_rfl) (rd_bytes2 (HP.at_ 1 rfl) (by omega) (by omega)) (by kernel_rfl) (by kernel_rfl) (by kernel_rfl)) fun a H => ?_
     refine ⟨.inr ((((HP.tail rfl).tail rfl).tail rfl)), ?_⟩
     refine An.one 12 (by kernel_rfl) ?_
     refine Op.val H 58 (.string (bstr (List.replicate sN 0))) rfl (by kernel_rfl) (ex_b2sR (l := List.replicate sN 0) (e := 5) (m := sN) (c := sN) (by kernel_rfl) (rd_zeros (HP.at_ 0 rfl)) (by kernel_rfl) (by kernel_rfl) (by kernel_rfl)) fun a H => ?_
     refine ⟨.inr ((((HP.tail rfl).tail rfl).tail rfl)), ?_⟩
     refine An.q H (.inr ((((HP.tail rfl).tail rfl).tail rfl))) 19 65 (.string (bstr ((List.replicate sN 0) ++ (bytes2 (iti i) (j : Int))))) (fun _ => ex_sadd (by kernel_rfl) (by kernel_rfl) (by rw [List.length_replicate]; show sN + 2 ≤ _; omega)) fun a H => ?_
     refine An.go H (.inr ((((HP.tail rfl).tail rfl).tail rfl))) 4 [20] [(66, (.agg #[(.bool true), (.string (bstr ((List.replicate sN 0) ++ (bytes2 (iti i) (j : Int))))), (ii 0)]))] [] fun a H => ?_
     refine An.one 21 (by kernel_rfl) ?_
     refine Op.alloc H HP 67 (fun b => (.slice (some ⟨b, 0, none⟩) 1 1)) 96 [(.bool true), (.string (bstr ((List.replicate sN 0) ++ (bytes2 (iti i) (j : Int))))), (ii 0)] rfl (by kernel_rfl) (fun w => by kernel_rfl) fun b_46 w_47 a H HP => ?_
     refine ⟨.inr (((((HP.tail rfl).tail rfl).tail rfl).tail rfl)), ?_⟩
     refine An.one 22 (by kernel_rfl) ?_
     have HP := HP.pend0 3 rfl elOk_flat (⟨true, bstr ((List.replicate sN 0) ++ (bytes2 (iti i) (j : Int))), 0⟩ : PicA) [bx b_46 96 [(.bool true), (.string (bstr ((List.replicate sN 0) ++ (bytes2 (iti i) (j : Int))))), (ii 0)] true, bx b_38 5 (List.replicate sN (.int .u8 0)) true, bx b_36 5 [(.int .u8 (iti i)), (.int .u8 (j : Int))] true, (rowsP w.heap.size 96 3 PicA.cells okT feF (.slice PA pl.length pc) pl (⟨true, bstr ((List.replicate sN 0) ++ (bytes2 (iti i) (j : Int))), 0⟩ : PicA)), bx b_4 91 [(ii (iti i)), (.slice PA pl.length pc)] true, (rowsR w.heap.size 91 2 AstA.cells astOw astFp (.slice LA li.length lc) li), (bx b_1 3 [(ii 1), (ii 7), (ii 8)] true)] (by kernel_rfl) trivial (fun _ h => h)
     refine Op.push H HP 68 3 0 (v := (.slice PA pl.length pc)) (e := 96) (p := (⟨true, bstr ((List.replicate sN 0) ++ (bytes2 (iti i) (j : Int))), 0⟩ : PicA)) (l := pl) (cs := PicA.cells) (ok := okT) (fe := feF) (size := 3) (z := (.agg #[(.bool false), (.string (bstr ([]))), (ii 0)])) (bytes := 32) (bb := b_46) (tb := 96) (fb := true) rfl (by kernel_rfl) elOk_flat (by kernel_rfl) (by kernel_rfl) rfl (by kernel_rfl) (by kernel_rfl) (by kernel_rfl) (by kernel_rfl) (by kernel_rfl) rfl (by kernel_rfl) (by unfold maxLen; omega) (by omega) fun B_48 c_49 w_50 a H HP => ?_
     have HP : Hp w w_50 [bx b_46 96 [(.bool true), (.string (bstr ((List.replicate sN 0) ++ (bytes2 (iti i) (j : Int))))), (ii 0)] true, bx b_38 5 (List.replicate sN (.int .u8 0)) true, bx b_36 5 [(.int .u8 (iti i)), (.int .u8 (j : Int))] true, (rowsR w.heap.size 96 3 PicA.cells okT feF (.slice B_48 (pl.length + 1) c_49) (pl ++ [(⟨true, bstr ((List.replicate sN 0) ++ (bytes2 (iti i) (j : Int))), 0⟩ : PicA)])), bx b_4 91 [(ii (iti i)), (.slice PA pl.length pc)] true, (rowsR w.heap.size 91 2 AstA.cells astOw astFp (.slice LA li.length lc) li), (bx b_1 3 [(ii 1), (ii 7), (ii 8)] true)] [rowF 1 i1C XA xs] := HP
     refine ⟨.inr (((((HP.tail rfl).tail rfl).tail rfl).tail rfl)), ?_⟩
     refine An.go H (.inr (((((HP.tail rfl).tail rfl).tail rfl).tail rfl))) 1 [23] [(69, (pt b_4 1))] [] fun a H => ?_
     refine An.one 24 (by kernel_rfl) ?_
     refine Op.sh H HP 4 1 (.slice B_48 (pl.length + 1) c_49) rfl rfl fun w_51 a H HP => ?_
     refine ⟨.inl (by kernel_rfl), ?_⟩
     refine An.done (by kernel_rfl) ?_
     refine zibn (ztn (zrg ?_))
     refine H.go HP 1 [(20, (ii j))] [] fun a H => H.wi 21 ((j : Int) + 1) fun a H => ?_
     refine H.ge HP [(7, (ii ((j : Int) + 1)))] [] fun a H => ?_
     refine ztn ?_
     have H := H.as 7 (ii ((j + 1 : Nat) : Int)) rfl rfl
     refine ⟨_, ?_, j + 1, pl ++ [(⟨true, bstr ((List.replicate sN 0) ++ (bytes2 (iti i) (j : Int))), 0⟩ : PicA)], B_48, c_49, rfl, H.keep (by kernel_rfl), (by have hh := (HP.sub [3, 4, 5, 6] [(rowsR w.heap.size 96 3 PicA.cells okT feF (.slice B_48 (pl.length + 1) c_49) (pl ++ [(⟨true, bstr ((List.replicate sN 0) ++ (bytes2 (iti i) (j : Int))), 0⟩ : PicA)])), bx b_4 91 [(ii (iti i)), (.slice B_48 (pl.length + 1) c_49)] true, (rowsR w.heap.size 91 2 AstA.cells astOw astFp (.slice LA li.length lc) li), (bx b_1 3 [(ii 1), (ii 7), (ii 8)] true)] (by kernel_rfl) (by kernel_rfl)); rw [show pl.length + 1 = (pl ++ [(⟨true, bstr ((List.replicate sN 0) ++ (bytes2 (iti i) (j : Int))), 0⟩ : PicA)]).length from (by rw [List.length_append]; rfl)] at hh; exact hh), (by omega), (picsOk_next hpk (by omega) (.inl rfl))⟩
     omega
    refine Op.val H 64 (.string (bstr (bytes2 (iti i) (j : Int)))) rfl (by kernel_rfl) (ex_b2sR (l := bytes2 (iti i) (j : Int)) (e := 5) (m := 2) (c := 2) (by kernel_rfl) (rd_bytes2 (HP.at_ 0 rfl) (by omega) (by omega)) (by kernel_rfl) (by kernel_rfl) (by kernel_rfl)) fun a H => ?_
    refine ⟨.inr (((HP.tail rfl).tail rfl)), ?_⟩
    refine An.one 11 (by kernel_rfl) ?_
    refine Op.alloc H HP 57 (fun b => (.slice (some ⟨b, 0, none⟩) sN sN)) 5 (List.replicate sN (.int .u8 0)) rfl (by kernel_rfl) (fun w => ex_make (n := sN) (e := 5) (k := .i64) (by kernel_rfl) (by kernel_rfl) (by kernel_rfl) (by kernel_rfl) (by omega)) fun b_52 w_53 a H HP => ?_
    refine ⟨.inr ((((HP.tail rfl).tail rfl).tail rfl)), ?_⟩
    refine An.one 12 (by kernel_rfl) ?_
    refine Op.val H 58 (.string (bstr (List.replicate sN 0))) rfl (by kernel_rfl) (ex_b2sR (l := List.replicate sN 0) (e := 5) (m := sN) (c := sN) (by kernel_rfl) (rd_zeros (HP.at_ 0 rfl)) (by kernel_rfl) (by kernel_rfl) (by kernel_rfl)) fun a H => ?_
    refine ⟨.inr ((((HP.tail rfl).tail rfl).tail rfl)), ?_⟩
    refine An.q H (.inr ((((HP.tail rfl).tail rfl).tail rfl))) 19 65 (.string (bstr ((List.replicate sN 0) ++ (bytes2 (iti i) (j : Int))))) (fun _ => ex_sadd (by kernel_rfl) (by kernel_rfl) (by rw [List.length_replicate]; show sN + 2 ≤ _; omega)) fun a H => ?_
    refine An.go H (.inr ((((HP.tail rfl).tail rfl).tail rfl))) 4 [20] [(66, (.agg #[(.bool true), (.string (bstr ((List.replicate sN 0) ++ (bytes2 (iti i) (j : Int))))), (ii 0)]))] [] fun a H => ?_
    refine An.one 21 (by kernel_rfl) ?_
    refine Op.alloc H HP 67 (fun b => (.slice (some ⟨b, 0, none⟩) 1 1)) 96 [(.bool true), (.string (bstr ((List.replicate sN 0) ++ (bytes2 (iti i) (j : Int))))), (ii 0)] rfl (by kernel_rfl) (fun w => by kernel_rfl) fun b_54 w_55 a H HP => ?_
    refine ⟨.inr (((((HP.tail rfl).tail rfl).tail rfl).tail rfl)), ?_⟩
    refine An.one 22 (by kernel_rfl) ?_
    have HP := HP.pend0 3 rfl elOk_flat (⟨true, bstr ((List.replicate sN 0) ++ (bytes2 (iti i) (j : Int))), 0⟩ : PicA) [bx b_54 96 [(.bool true), (.string (bstr ((List.replicate sN 0) ++ (bytes2 (iti i) (j : Int))))), (ii 0)] true, bx b_52 5 (List.replicate sN (.int .u8 0)) true, bx b_36 5 [(.int .u8 (iti i)), (.int .u8 (j : Int))] true, (rowsP w.heap.size 96 3 PicA.cells okT feF (.slice PA pl.length pc) pl (⟨true, bstr ((List.replicate sN 0) ++ (bytes2 (iti i) (j : Int))), 0⟩ : PicA)), bx b_4 91 [(ii (iti i)), (.slice PA pl.length pc)] true, (rowsR w.heap.size 91 2 AstA.cells astOw astFp (.slice LA li.length lc) li), (bx b_1 3 [(ii 1), (ii 7), (ii 8)] true)] (by kernel_rfl) trivial (fun _ h => h)
    refine Op.push H HP 68 3 0 (v := (.slice PA pl.length pc)) (e := 96) (p := (⟨true, bstr ((List.replicate sN 0) ++ (bytes2 (iti i) (j : Int))), 0⟩ : PicA)) (l := pl) (cs := PicA.cells) (ok := okT) (fe := feF) (size := 3) (z := (.agg #[(.bool false), (.string (bstr ([]))), (ii 0)])) (bytes := 32) (bb := b_54) (tb := 96) (fb := true) rfl (by kernel_rfl) elOk_flat (by kernel_rfl) (by kernel_rfl) rfl (by kernel_rfl) (by kernel_rfl) (by kernel_rfl) (by kernel_rfl) (by kernel_rfl) rfl (by kernel_rfl) (by unfold maxLen; omega) (by omega) fun B_56 c_57 w_58 a H HP => ?_
    have HP : Hp w w_58 [bx b_54 96 [(.bool true), (.string (bstr ((List.replicate sN 0) ++ (bytes2 (iti i) (j : Int))))), (ii 0)] true, bx b_52 5 (List.replicate sN (.int .u8 0)) true, bx b_36 5 [(.int .u8 (iti i)), (.int .u8 (j : Int))] true, (rowsR w.heap.size 96 3 PicA.cells okT feF (.slice B_56 (pl.length + 1) c_57) (pl ++ [(⟨true, bstr ((List.replicate sN 0) ++ (bytes2 (iti i) (j : Int))), 0⟩ : PicA)])), bx b_4 91 [(ii (iti i)), (.slice PA pl.length pc)] true, (rowsR w.heap.size 91 2 AstA.cells astOw astFp (.slice LA li.length lc) li), (bx b_1 3 [(ii 1), (ii 7), (ii 8)] true)] [rowF 1 i1C XA xs] := HP
    refine ⟨.inr (((((HP.tail rfl).tail rfl).tail rfl).tail rfl)), ?_⟩
    refine An.go H (.inr (((((HP.tail rfl).tail rfl).tail rfl).tail rfl))) 1 [23] [(69, (pt b_4 1))] [] fun a H => ?_
    refine An.one 24 (by kernel_rfl) ?_
    refine Op.sh H HP 4 1 (.slice B_56 (pl.length + 1) c_57) rfl rfl fun w_59 a H HP => ?_
    refine ⟨.inl (by kernel_rfl), ?_⟩
    refine An.done (by kernel_rfl) ?_
    refine zibn (ztn (zrg ?_))
    refine H.go HP 1 [(20, (ii j))] [] fun a H => H.wi 21 ((j : Int) + 1) fun a H => ?_
    refine H.ge HP [(7, (ii ((j : Int) + 1)))] [] fun a H => ?_
    refine ztn ?_
    have H := H.as 7 (ii ((j + 1 : Nat) : Int)) rfl rfl
    refine ⟨_, ?_, j + 1, pl ++ [(⟨true, bstr ((List.replicate sN 0) ++ (bytes2 (iti i) (j : Int))), 0⟩ : PicA)], B_56, c_57, rfl, H.keep (by kernel_rfl), (by have hh := (HP.sub [3, 4, 5, 6] [(rowsR w.heap.size 96 3 PicA.cells okT feF (.slice B_56 (pl.length + 1) c_57) (pl ++ [(⟨true, bstr ((List.replicate sN 0) ++ (bytes2 (iti i) (j : Int))), 0⟩ : PicA)])), bx b_4 91 [(ii (iti i)), (.slice B_56 (pl.length + 1) c_57)] true, (rowsR w.heap.size 91 2 AstA.cells astOw astFp (.slice LA li.length lc) li), (bx b_1 3 [(ii 1), (ii 7), (ii 8)] true)] (by kernel_rfl) (by kernel_rfl)); rw [show pl.length + 1 = (pl ++ [(⟨true, bstr ((List.replicate sN 0) ++ (bytes2 (iti i) (j : Int))), 0⟩ : PicA)]).length from (by rw [List.length_append]; rfl)] at hh; exact hh), (by omega), (picsOk_next hpk (by omega) (.inl rfl))⟩
    omega
   have g51p := ne_of_beq_false g51
   refine An.go H (.inr ((HP.tail rfl))) 13 [6] [(52, (ii cq))] [] fun a H => ?_
   refine An.pureE H (.inr ((HP.tail rfl))) 7 53 (ii (cq.tmod 6)) (ii (cq % 6)) rfl (by kernel_rfl) (by kernel_rfl) (fun _ _ _ h => h) (fun _ => by kernel_rfl) ((by rw [tmod_nn _ _ (by omega)])) fun a H => ?_
   refine An.go H (.inr ((HP.tail rfl))) 10 [8, 9] [(55, (.bool ((cq % 6) == 0)))] [] fun a H => ?_
   refine An.two 11 17 (by kernel_rfl) ?_ ?_
   ·refine Op.alloc H HP 57 (fun b => (.slice (some ⟨b, 0, none⟩) sN sN)) 5 (List.replicate sN (.int .u8 0)) rfl (by kernel_rfl) (fun w => ex_make (n := sN) (e := 5) (k := .i64) (by kernel_rfl) (by kernel_rfl) (by kernel_rfl) (by kernel_rfl) (by omega)) fun b_60 w_61 a H HP => ?_
    refine ⟨.inr (((HP.tail rfl).tail rfl)), ?_⟩
    refine An.two 12 17 (by kernel_rfl) ?_ ?_
    ·refine Op.val H 58 (.string (bstr (List.replicate sN 0))) rfl (by kernel_rfl) (ex_b2sR (l := List.replicate sN 0) (e := 5) (m := sN) (c := sN) (by kernel_rfl) (rd_zeros (HP.at_ 0 rfl)) (by kernel_rfl) (by kernel_rfl) (by kernel_rfl)) fun a H => ?_
     refine ⟨.inr (((HP.tail rfl).tail rfl)), ?_⟩
     refine An.one 17 (by kernel_rfl) ?_
     refine Op.alloc H HP 63 (fun b => (.slice (some ⟨b, 0, none⟩) 2 2)) 5 [(.int .u8 (iti i)), (.int .u8 (j : Int))] rfl (by kernel_rfl) (fun w => by kernel_rfl) fun b_62 w_63 a H HP => ?_
     refine ⟨.inr ((((HP.tail rfl).tail rfl).tail rfl)), ?_⟩
     refine An.one 18 (by kernel_rfl) ?_
     refine Op.val H 64 (.string (bstr (bytes2 (iti i) (j : Int)))) rfl (by kernel_rfl) (ex_b2sR (l := bytes2 (iti i) (j : Int)) (e := 5) (m := 2) (c := 2) (by kernel_rfl) (rd_bytes2 (HP.at_ 0 rfl) (by omega) (by omega)) (by kernel_rfl) (by kernel_rfl) (by kernel_rfl)) fun a H => ?_
     refine ⟨.inr ((((HP.tail rfl).tail rfl).tail rfl)), ?_⟩
     refine An.q H (.inr ((((HP.tail rfl).tail rfl).tail rfl))) 19 65 (.string (bstr ((List.replicate sN 0) ++ (bytes2 (iti i) (j : Int))))) (fun _ => ex_sadd (by kernel_rfl) (by kernel_rfl) (by rw [List.length_replicate]; show sN + 2 ≤ _; omega)) fun a H => ?_
     refine An.go H (.inr ((((HP.tail rfl).tail rfl).tail rfl))) 4 [20] [(66, (.agg #[(.bool ((cq % 6) == 0)), (.string (bstr ((List.replicate sN 0) ++ (bytes2 (iti i) (j : Int))))), (ii 0)]))] [] fun a H => ?_
     refine An.one 21 (by kernel_rfl) ?_
     refine Op.alloc H HP 67 (fun b => (.slice (some ⟨b, 0, none⟩) 1 1)) 96 [(.bool ((cq % 6) == 0)), (.string (bstr ((List.replicate sN 0) ++ (bytes2 (iti i) (j : Int))))), (ii 0)] rfl (by kernel_rfl) (fun w => by kernel_rfl) fun b_64 w_65 a H HP => ?_
     refine ⟨.inr (((((HP.tail rfl).tail rfl).tail rfl).tail rfl)), ?_⟩
     refine An.one 22 (by kernel_rfl) ?_
     have HP := HP.pend0 3 rfl elOk_flat (⟨(cq % 6) == 0, bstr ((List.replicate sN 0) ++ (bytes2 (iti i) (j : Int))), 0⟩ : PicA) [bx b_64 96 [(.bool ((cq % 6) == 0)), (.string (bstr ((List.replicate sN 0) ++ (bytes2 (iti i) (j : Int))))), (ii 0)] true, bx b_62 5 [(.int .u8 (iti i)), (.int .u8 (j : Int))] true, bx b_60 5 (List.replicate sN (.int .u8 0)) true, (rowsP w.heap.size 96 3 PicA.cells okT feF (.slice PA pl.length pc) pl (⟨(cq % 6) == 0, bstr ((List.replicate sN 0) ++ (bytes2 (iti i) (j : Int))), 0⟩ : PicA)), bx b_4 91 [(ii (iti i)), (.slice PA pl.length pc)] true, (rowsR w.heap.size 91 2 AstA.cells astOw astFp (.slice LA li.length lc) li), (bx b_1 3 [(ii 1), (ii 7), (ii 8)] true)] (by kernel_rfl) trivial (fun _ h => h)
     refine Op.push H HP 68 3 0 (v := (.slice PA pl.length pc)) (e := 96) (p := (⟨(cq % 6) == 0, bstr ((List.replicate sN 0) ++ (bytes2 (iti i) (j : Int))), 0⟩ : PicA)) (l := pl) (cs := PicA.cells) (ok := okT) (fe := feF) (size := 3) (z := (.agg #[(.bool false), (.string (bstr ([]))), (ii 0)])) (bytes := 32) (bb := b_64) (tb := 96) (fb := true) rfl (by kernel_rfl) elOk_flat (by kernel_rfl) (by kernel_rfl) rfl (by kernel_rfl) (by kernel_rfl) (by kernel_rfl) (by kernel_rfl) (by kernel_rfl) rfl (by kernel_rfl) (by unfold maxLen; omega) (by omega) fun B_66 c_67 w_68 a H HP => ?_
     have HP : Hp w w_68 [bx b_64 96 [(.bool ((cq % 6) == 0)), (.string (bstr ((List.replicate sN 0) ++ (bytes2 (iti i) (j : Int))))), (ii 0)] true, bx b_62 5 [(.int .u8 (iti i)), (.int .u8 (j : Int))] true, bx b_60 5 (List.replicate sN (.int .u8 0)) true, (rowsR w.heap.size 96 3 PicA.cells okT feF (.slice B_66 (pl.length + 1) c_67) (pl ++ [(⟨(cq % 6) == 0, bstr ((List.replicate sN 0) ++ (bytes2 (iti i) (j : Int))), 0⟩ : PicA)])), bx b_4 91 [(ii (iti i)), (.slice PA pl.length pc)] true, (rowsR w.heap.size 91 2 AstA.cells astOw astFp (.slice LA li.length lc) li), (bx b_1 3 [(ii 1), (ii 7), (ii 8)] true)] [rowF 1 i1C XA xs] := HP
     refine ⟨.inr (((((HP.tail rfl).tail rfl).tail rfl).tail rfl)), ?_⟩
     refine An.go H (.inr (((((HP.tail rfl).tail rfl).tail rfl).tail rfl))) 1 [23] [(69, (pt b_4 1))] [] fun a H => ?_
     refine An.one 24 (by kernel_rfl) ?_
     refine Op.sh H HP 4 1 (.slice B_66 (pl.length + 1) c_67) rfl rfl fun w_69 a H HP => ?_
     refine ⟨.inl (by kernel_rfl), ?_⟩
     refine An.done (by kernel_rfl) ?_
     refine zibn (ztn (zrg ?_))
     refine H.go HP 1 [(20, (ii j))] [] fun a H => H.wi 21 ((j : Int) + 1) fun a H => ?_
     refine H.ge HP [(7, (ii ((j : Int) + 1)))] [] fun a H => ?_
     refine ztn ?_
     have H := H.as 7 (ii ((j + 1 : Nat) : Int)) rfl rfl
     refine ⟨_, ?_, j + 1, pl ++ [(⟨(cq % 6) == 0, bstr ((List.replicate sN 0) ++ (bytes2 (iti i) (j : Int))), 0⟩ : PicA)], B_66, c_67, rfl, H.keep (by kernel_rfl), (by have hh := (HP.sub [3, 4, 5, 6] [(rowsR w.heap.size 96 3 PicA.cells okT feF (.slice B_66 (pl.length + 1) c_67) (pl ++ [(⟨(cq % 6) == 0, bstr ((List.replicate sN 0) ++ (bytes2 (iti i) (j : Int))), 0⟩ : PicA)])), bx b_4 91 [(ii (iti i)), (.slice B_66 (pl.length + 1) c_67)] true, (rowsR w.heap.size 91 2 AstA.cells astOw astFp (.slice LA li.length lc) li), (bx b_1 3 [(ii 1), (ii 7), (ii 8)] true)] (by kernel_rfl) (by kernel_rfl)); rw [show pl.length + 1 = (pl ++ [(⟨(cq % 6) == 0, bstr ((List.replicate sN 0) ++ (bytes2 (iti i) (j : Int))), 0⟩ : PicA)]).length from (by rw [List.length_append]; rfl)] at hh; exact hh), (by omega), (picsOk_next hpk (by omega) (.inr (fun h0 => g51p (by rw [h0]; rfl))))⟩
     omega
    refine Op.alloc H HP 63 (fun b => (.slice (some ⟨b, 0, none⟩) 2 2)) 5 [(.int .u8 (iti i)), (.int .u8 (j : Int))] rfl (by kernel_rfl) (fun w => by kernel_rfl) fun b_70 w_71 a H HP => ?_
    refine ⟨.inr ((((HP.tail rfl).tail rfl).tail rfl)), ?_⟩
    refine An.two 12 18 (by kernel_rfl) ?_ ?_
    ·refine Op.val H 58 (.string (bstr (List.replicate sN 0))) rfl (by kernel_rfl) (ex_b2sR (l := List.replicate sN 0) (e := 5) (m := sN) (c := sN) (by kernel_rfl) (rd_zeros (HP.at_ 1 rfl)) (by kernel_rfl) (by kernel_rfl) (by kernel_rfl)) fun a H => ?_
     refine ⟨.inr ((((HP.tail rfl).tail rfl).tail rfl)), ?_⟩
     refine An.one 18 (by kernel_rfl) ?_
     refine Op.val H 64 (.string (bstr (bytes2 (iti i) (j : Int)))) rfl (by kernel_rfl) (ex_b2sR (l := bytes2 (iti i) (j : Int)) (e := 5) (m := 2) (c := 2) (by kernel_rfl) (rd_bytes2 (HP.at_ 0 rfl) (by omega) (by omega)) (by kernel_rfl) (by kernel_rfl) (by kernel_rfl)) fun a H => ?_
     refine ⟨.inr ((((HP.tail rfl).tail rfl).tail rfl)), ?_⟩
     refine An.q H (.inr ((((HP.tail rfl).tail rfl).tail rfl))) 19 65 (.string (bstr ((List.replicate sN 0) ++ (bytes2 (iti i) (j : Int))))) (fun _ => ex_sadd (by kernel_rfl) (by kernel_rfl) (by rw [List.length_replicate]; show sN + 2 ≤ _; omega)) fun a H => ?_
     refine An.go H (.inr ((((HP.tail rfl).tail rfl).tail rfl))) 4 [20] [(66, (.agg #[(.bool ((cq % 6) == 0)), (.string (bstr ((List.replicate sN 0) ++ (bytes2 (iti i) (j : Int))))), (ii 0)]))] [] fun a H => ?_
     refine An.one 21 (by kernel_rfl) ?_
     refine Op.alloc H HP 67 (fun b => (.slice (some ⟨b, 0, none⟩) 1 1)) 96 [(.bool ((cq % 6) == 0)), (.string (bstr ((List.replicate sN 0) ++ (bytes2 (iti i) (j : Int))))), (ii 0)] rfl (by kernel_rfl) (fun w => by kernel_rfl) fun b_72 w_73 a H HP => ?_
     refine ⟨.inr (((((HP.tail rfl).tail rfl).tail rfl).tail rfl)), ?_⟩
     refine An.one 22 (by kernel_rfl) ?_
     have HP := HP.pend0 3 rfl elOk_flat (⟨(cq % 6) == 0, bstr ((List.replicate sN 0) ++ (bytes2 (iti i) (j : Int))), 0⟩ : PicA) [bx b_72 96 [(.bool ((cq % 6) == 0)), (.string (bstr ((List.replicate sN 0) ++ (bytes2 (iti i) (j : Int))))), (ii 0)] true, bx b_70 5 [(.int .u8 (iti i)), (.int .u8 (j : Int))] true, bx b_60 5 (List.replicate sN (.int .u8 0)) true, (rowsP w.heap.size 96 3 PicA.cells okT feF (.slice PA pl.length pc) pl (⟨(cq % 6) == 0, bstr ((List.replicate sN 0) ++ (bytes2 (iti i) (j : Int))), 0⟩ : PicA)), bx b_4 91 [(ii (iti i)), (.slice PA pl.length pc)] true, (rowsR w.heap.size 91 2 AstA.cells astOw astFp (.slice LA li.length lc) li), (bx b_1 3 [(ii 1), (ii 7), (ii 8)] true)] (by kernel_rfl) trivial (fun _ h => h)
     refine Op.push H HP 68 3 0 (v := (.slice PA pl.length pc)) (e := 96) (p := (⟨(cq % 6) == 0, bstr ((List.replicate sN 0) ++ (bytes2 (iti i) (j : Int))), 0⟩ : PicA)) (l := pl) (cs := PicA.cells) (ok := okT) (fe := feF) (size := 3) (z := (.agg #[(.bool false), (.string (bstr ([]))), (ii 0)])) (bytes := 32) (bb := b_72) (tb := 96) (fb := true) rfl (by kernel_rfl) elOk_flat (by kernel_rfl) (by kernel_rfl) rfl (by kernel_rfl) (by kernel_rfl) (by kernel_rfl) (by kernel_rfl) (by kernel_rfl) rfl (by kernel_rfl) (by unfold maxLen; omega) (by omega) fun B_74 c_75 w_76 a H HP => ?_
     have HP : Hp w w_76 [bx b_72 96 [(.bool ((cq % 6) == 0)), (.string (bstr ((List.replicate sN 0) ++ (bytes2 (iti i) (j : Int))))), (ii 0)] true, bx b_70 5 [(.int .u8 (iti i)), (.int .u8 (j : Int))] true, bx b_60 5 (List.replicate sN (.int .u8 0)) true, (rowsR w.heap.size 96 3 PicA.cells okT feF (.slice B_74 (pl.length + 1) c_75) (pl ++ [(⟨(cq % 6) == 0, bstr ((List.replicate sN 0) ++ (bytes2 (iti i) (j : Int))), 0⟩ : PicA)])), bx b_4 91 [(ii (iti i)), (.slice PA pl.length pc)] true, (rowsR w.heap.size 91 2 AstA.cells astOw astFp (.slice LA li.length lc) li), (bx b_1 3 [(ii 1), (ii 7), (ii 8)] true)] [rowF 1 i1C XA xs] := HP
     refine ⟨.inr (((((HP.tail rfl).tail rfl).tail rfl).tail rfl)), ?_⟩
     refine An.go H (.inr (((((HP.tail rfl).tail rfl).tail rfl).tail rfl))) 1 [23] [(69, (pt b_4 1))] [] fun a H => ?_
     refine An.one 24 (by kernel_rfl) ?_
     refine Op.sh H HP 4 1 (.slice B_74 (pl.length + 1) c_75) rfl rfl fun w_77 a H HP => ?_
     refine ⟨.inl (by kernel_rfl), ?_⟩
     refine An.done (by kernel_rfl) ?_
     refine zibn (ztn (zrg ?_))
     refine H.go HP 1 [(20, (ii j))] [] fun a H => H.wi 21 ((j : Int) + 1) fun a H => ?_
     refine H.ge HP [(7, (ii ((j : Int) + 1)))] [] fun a H => ?_
     refine ztn ?_
     have H := H.as 7 (ii ((j + 1 : Nat) : Int)) rfl rfl
     refine ⟨_, ?_, j + 1, pl ++ [(⟨(cq % 6) == 0, bstr ((List.replicate sN 0) ++ (bytes2 (iti i) (j : Int))), 0⟩ : PicA)], B_74, c_75, rfl, H.keep (by kernel_rfl), (by have hh := (HP.sub [3, 4, 5, 6] [(rowsR w.heap.size 96 3 PicA.cells okT feF (.slice B_74 (pl.length + 1) c_75) (pl ++ [(⟨(cq % 6) == 0, bstr ((List.replicate sN 0) ++ (bytes2 (iti i) (j : Int))), 0⟩ : PicA)])), bx b_4 91 [(ii (iti i)), (.slice B_74 (pl.length + 1) c_75)] true, (rowsR w.heap.size 91 2 AstA.cells astOw astFp (.slice LA li.length lc) li), (bx b_1 3 [(ii 1), (ii 7), (ii 8)] true)] (by kernel_rfl) (by kernel_rfl)); rw [show pl.length + 1 = (pl ++ [(⟨(cq % 6) == 0, bstr ((List.replicate sN 0) ++ (bytes2 (iti i) (j : Int))), 0⟩ : PicA)]).length from (by rw [List.length_append]; rfl)] at hh; exact hh), (by omega), (picsOk_next hpk (by omega) (.inr (fun h0 => g51p (by rw [h0]; rfl))))⟩
     omega
    refine Op.val H 64 (.string (bstr (bytes2 (iti i) (j : Int)))) rfl (by kernel_rfl) (ex_b2sR (l := bytes2 (iti i) (j : Int)) (e := 5) (m := 2) (c := 2) (by kernel_rfl) (rd_bytes2 (HP.at_ 0 rfl) (by omega) (by omega)) (by kernel_rfl) (by kernel_rfl) (by kernel_rfl)) fun a H => ?_
    refine ⟨.inr ((((HP.tail rfl).tail rfl).tail rfl)), ?_⟩
    refine An.one 12 (by kernel_rfl) ?_
    refine Op.val H 58 (.string (bstr (List.replicate sN 0))) rfl (by kernel_rfl) (ex_b2sR (l := List.replicate sN 0) (e := 5) (m := sN) (c := sN) (by kernel_rfl) (rd_zeros (HP.at_ 1 rfl)) (by kernel_rfl) (by kernel_rfl) (by kernel_rfl)) fun a H => ?_
    refine ⟨.inr ((((HP.tail rfl).tail rfl).tail rfl)), ?_⟩
    refine An.q H (.inr ((((HP.tail rfl).tail rfl).tail rfl))) 19 65 (.string (bstr ((List.replicate sN 0) ++ (bytes2 (iti i) (j : Int))))) (fun _ => ex_sadd (by kernel_rfl) (by kernel_rfl) (by rw [List.length_replicate]; show sN + 2 ≤ _; omega)) fun a H => ?_
    refine An.go H (.inr ((((HP.tail rfl).tail rfl).tail rfl))) 4 [20] [(66, (.agg #[(.bool ((cq % 6) == 0)), (.string (bstr ((List.replicate sN 0) ++ (bytes2 (iti i) (j : Int))))), (ii 0)]))] [] fun a H => ?_
    refine An.one 21 (by kernel_rfl) ?_
    refine Op.alloc H HP 67 (fun b => (.slice (some ⟨b, 0, none⟩) 1 1)) 96 [(.bool ((cq % 6) == 0)), (.string (bstr ((List.replicate sN 0) ++ (bytes2 (iti i) (j : Int))))), (ii 0)] rfl (by kernel_rfl) (fun w => by kernel_rfl) fun b_78 w_79 a H HP => ?_
    refine ⟨.inr (((((HP.tail rfl).tail rfl).tail rfl).tail rfl)), ?_⟩
    refine An.one 22 (by kernel_rfl) ?_
    have HP := HP.pend0 3 rfl elOk_flat (⟨(cq % 6) == 0, bstr ((List.replicate sN 0) ++ (bytes2 (iti i) (j : Int))), 0⟩ : PicA) [bx b_78 96 [(.bool ((cq % 6) == 0)), (.string (bstr ((List.replicate sN 0) ++ (bytes2 (iti i) (j : Int))))), (ii 0)] true, bx b_70 5 [(.int .u8 (iti i)), (.int .u8 (j : Int))] true, bx b_60 5 (List.replicate sN (.int .u8 0)) true, (rowsP w.heap.size 96 3 PicA.cells okT feF (.slice PA pl.length pc) pl (⟨(cq % 6) == 0, bstr ((List.replicate sN 0) ++ (bytes2 (iti i) (j : Int))), 0⟩ : PicA)), bx b_4 91 [(ii (iti i)), (.slice PA pl.length pc)] true, (rowsR w.heap.size 91 2 AstA.cells astOw astFp (.slice LA li.length lc) li), (bx b_1 3 [(ii 1), (ii 7), (ii 8)] true)] (by kernel_rfl) trivial (fun _ h => h)
    refine Op.push H HP 68 3 0 (v := (.slice PA pl.length pc)) (e := 96) (p := (⟨(cq % 6) == 0, bstr ((List.replicate sN 0) ++ (bytes2 (iti i) (j : Int))), 0⟩ : PicA)) (l := pl) (cs := PicA.cells) (ok := okT) (fe := feF) (size := 3) (z := (.agg #[(.bool false), (.string (bstr ([]))), (ii 0)])) (bytes := 32) (bb := b_78) (tb := 96) (fb := true) rfl (by kernel_rfl) elOk_flat (by kernel_rfl) (by kernel_rfl) rfl (by kernel_rfl) (by kernel_rfl) (by kernel_rfl) (by kernel_rfl) (by kernel_rfl) rfl (by kernel_rfl) (by unfold maxLen; omega) (by omega) fun B_80 c_81 w_82 a H HP => ?_
    have HP : Hp w w_82 [bx b_78 96 [(.bool ((cq % 6) == 0)), (.string (bstr ((List.replicate sN 0) ++ (bytes2 (iti i) (j : Int))))), (ii 0)] true, bx b_70 5 [(.int .u8 (iti i)), (.int .u8 (j : Int))] true, bx b_60 5 (List.replicate sN (.int .u8 0)) true, (rowsR w.heap.size 96 3 PicA.cells okT feF (.slice B_80 (pl.length + 1) c_81) (pl ++ [(⟨(cq % 6) == 0, bstr ((List.replicate sN 0) ++ (bytes2 (iti i) (j : Int))), 0⟩ : PicA)])), bx b_4 91 [(ii (iti i)), (.slice PA pl.length pc)] true, (rowsR w.heap.size 91 2 AstA.cells astOw astFp (.slice LA li.length lc) li), (bx b_1 3 [(ii 1), (ii 7), (ii 8)] true)] [rowF 1 i1C XA xs] := HP
    refine ⟨.inr (((((HP.tail rfl).tail rfl).tail rfl).tail rfl)), ?_⟩
    refine An.go H (.inr (((((HP.tail rfl).tail rfl).tail rfl).tail rfl))) 1 [23] [(69, (pt b_4 1))] [] fun a H => ?_
    refine An.one 24 (by kernel_rfl) ?_
    refine Op.sh H HP 4 1 (.slice B_80 (pl.length + 1) c_81) rfl rfl fun w_83 a H HP => ?_
    refine ⟨.inl (by kernel_rfl), ?_⟩
    refine An.done (by kernel_rfl) ?_
    refine zibn (ztn (zrg ?_))
    refine H.go HP 1 [(20, (ii j))] [] fun a H => H.wi 21 ((j : Int) + 1) fun a H => ?_
    refine H.ge HP [(7, (ii ((j : Int) + 1)))] [] fun a H => ?_
    refine ztn ?_
    have H := H.as 7 (ii ((j + 1 : Nat) : Int)) rfl rfl
    refine ⟨_, ?_, j + 1, pl ++ [(⟨(cq % 6) == 0, bstr ((List.replicate sN 0) ++ (bytes2 (iti i) (j : Int))), 0⟩ : PicA)], B_80, c_81, rfl, H.keep (by kernel_rfl), (by have hh := (HP.sub [3, 4, 5, 6] [(rowsR w.heap.size 96 3 PicA.cells okT feF (.slice B_80 (pl.length + 1) c_81) (pl ++ [(⟨(cq % 6) == 0, bstr ((List.replicate sN 0) ++ (bytes2 (iti i) (j : Int))), 0⟩ : PicA)])), bx b_4 91 [(ii (iti i)), (.slice B_80 (pl.length + 1) c_81)] true, (rowsR w.heap.size 91 2 AstA.cells astOw astFp (.slice LA li.length lc) li), (bx b_1 3 [(ii 1), (ii 7), (ii 8)] true)] (by kernel_rfl) (by kernel_rfl)); rw [show pl.length + 1 = (pl ++ [(⟨(cq % 6) == 0, bstr ((List.replicate sN 0) ++ (bytes2 (iti i) (j : Int))), 0⟩ : PicA)]).length from (by rw [List.length_append]; rfl)] at hh; exact hh), (by omega), (picsOk_next hpk (by omega) (.inr (fun h0 => g51p (by rw [h0]; rfl))))⟩
    omega
   refine Op.alloc H HP 63 (fun b => (.slice (some ⟨b, 0, none⟩) 2 2)) 5 [(.int .u8 (iti i)), (.int .u8 (j : Int))] rfl (by kernel_rfl) (fun w => by kernel_rfl) fun b_84 w_85 a H HP => ?_
   refine ⟨.inr (((HP.tail rfl).tail rfl)), ?_⟩
   refine An.two 11 18 (by kernel_rfl) ?_ ?_
   ·refine Op.alloc H HP 57 (fun b => (.slice (some ⟨b, 0, none⟩) sN sN)) 5 (List.replicate sN (.int .u8 0)) rfl (by kernel_rfl) (fun w => ex_make (n := sN) (e := 5) (k := .i64) (by kernel_rfl) (by kernel_rfl) (by kernel_rfl) (by kernel_rfl) (by omega)) fun b_86 w_87 a H HP => ?_
    refine ⟨.inr ((((HP.tail rfl).tail rfl).tail rfl)), ?_⟩
    refine An.two 12 18 (by kernel_rfl) ?_ ?_
    ·refine Op.val H 58 (.string (bstr (List.replicate sN 0))) rfl (by kernel_rfl) (ex_b2sR (l := List.replicate sN 0) (e := 5) (m := sN) (c := sN) (by kernel_rfl) (rd_zeros (HP.at_ 0 rfl)) (by kernel_rfl) (by kernel_rfl) (by kernel_rfl)) fun a H => ?_
     refine ⟨.inr ((((HP.tail rfl).tail rfl).tail rfl)), ?_⟩
     refine An.one 18 (by kernel_rfl) ?_
     refine Op.val H 64 (.string (bstr (bytes2 (iti i) (j : Int)))) rfl (by kernel_rfl) (ex_b2sR (l := bytes2 (iti i) (j : Int)) (e := 5) (m := 2) (c := 2) (by kernel_rfl) (rd_bytes2 (HP.at_ 1 rfl) (by omega) (by omega)) (by kernel_rfl) (by kernel_rfl) (by kernel_rfl)) fun a H => ?_
     refine ⟨.inr ((((HP.tail rfl).tail rfl).tail rfl)), ?_⟩
     refine An.q H (.inr ((((HP.tail rfl).tail rfl).tail rfl))) 19 65 (.string (bstr ((List.replicate sN 0) ++ (bytes2 (iti i) (j : Int))))) (fun _ => ex_sadd (by kernel_rfl) (by kernel_rfl) (by rw [List.length_replicate]; show sN + 2 ≤ _; omega)) fun a H => ?_
     refine An.go H (.inr ((((HP.tail rfl).tail rfl).tail rfl))) 4 [20] [(66, (.agg #[(.bool ((cq % 6) == 0)), (.string (bstr ((List.replicate sN 0) ++ (bytes2 (iti i) (j : Int))))), (ii 0)]))] [] fun a H => ?_
     refine An.one 21 (by kernel_rfl) ?_
     refine Op.alloc H HP 67 (fun b => (.slice (some ⟨b, 0, none⟩) 1 1)) 96 [(.bool ((cq % 6) == 0)), (.string (bstr ((List.replicate sN 0) ++ (bytes2 (iti i) (j : Int))))), (ii 0)] rfl (by kernel_rfl) (fun w => by kernel_rfl) fun b_88 w_89 a H HP => ?_
     refine ⟨.inr (((((HP.tail rfl).tail rfl).tail rfl).tail rfl)), ?_⟩
     refine An.one 22 (by kernel_rfl) ?_
     have HP := HP.pend0 3 rfl elOk_flat (⟨(cq % 6) == 0, bstr ((List.replicate sN 0) ++ (bytes2 (iti i) (j : Int))), 0⟩ : PicA) [bx b_88 96 [(.bool ((cq % 6) == 0)), (.string (bstr ((List.replicate sN 0) ++ (bytes2 (iti i) (j : Int))))), (ii 0)] true, bx b_86 5 (List.replicate sN (.int .u8 0)) true, bx b_84 5 [(.int .u8 (iti i)), (.int .u8 (j : Int))] true, (rowsP w.heap.size 96 3 PicA.cells okT feF (.slice PA pl.length pc) pl (⟨(cq % 6) == 0, bstr ((List.replicate sN 0) ++ (bytes2 (iti i) (j : Int))), 0⟩ : PicA)), bx b_4 91 [(ii (iti i)), (.slice PA pl.length pc)] true, (rowsR w.heap.size 91 2 AstA.cells astOw astFp (.slice LA li.length lc) li), (bx b_1 3 [(ii 1), (ii 7), (ii 8)] true)] (by kernel_rfl) trivial (fun _ h => h)
     refine Op.push H HP 68 3 0 (v := (.slice PA pl.length pc)) (e := 96) (p := (⟨(cq % 6) == 0, bstr ((List.replicate sN 0) ++ (bytes2 (iti i) (j : Int))), 0⟩ : PicA)) (l := pl) (cs := PicA.cells) (ok := okT) (fe := feF) (size := 3) (z := (.agg #[(.bool false), (.string (bstr ([]))), (ii 0)])) (bytes := 32) (bb := b_88) (tb := 96) (fb := true) rfl (by kernel_rfl) elOk_flat (by kernel_rfl) (by kernel_rfl) rfl (by kernel_rfl) (by kernel_rfl) (by kernel_rfl) (by kernel_rfl) (by kernel_rfl) rfl (by kernel_rfl) (by unfold maxLen; omega) (by omega) fun B_90 c_91 w_92 a H HP => ?_
     have HP : Hp w w_92 [bx b_88 96 [(.bool ((cq % 6) == 0)), (.string (bstr ((List.replicate sN 0) ++ (bytes2 (iti i) (j : Int))))), (ii 0)] true, bx b_86 5 (List.replicate sN (.int .u8 0)) true, bx b_84 5 [(.int .u8 (iti i)), (.int .u8 (j : Int))] true, (rowsR w.heap.size 96 3 PicA.cells okT feF (.slice B_90 (pl.length + 1) c_91) (pl ++ [(⟨(cq % 6) == 0, bstr ((List.replicate sN 0) ++ (bytes2 (iti i) (j : Int))), 0⟩ : PicA)])), bx b_4 91 [(ii (iti i)), (.slice PA pl.length pc)] true, (rowsR w.heap.size 91 2 AstA.cells astOw astFp (.slice LA li.length lc) li), (bx b_1 3 [(ii 1), (ii 7), (ii 8)] true)] [rowF 1 i1C XA xs] := HP
     refine ⟨.inr (((((HP.tail rfl).tail rfl).tail rfl).tail rfl)), ?_⟩
     refine An.go H (.inr (((((HP.tail rfl).tail rfl).tail rfl).tail rfl))) 1 [23] [(69, (pt b_4 1))] [] fun a H => ?_
     refine An.one 24 (by kernel_rfl) ?_
     refine Op.sh H HP 4 1 (.slice B_90 (pl.length + 1) c_91) rfl rfl fun w_93 a H HP => ?_
     refine ⟨.inl (by kernel_rfl), ?_⟩
     refine An.done (by kernel_rfl) ?_
     refine zibn (ztn (zrg ?_))
     refine H.go HP 1 [(20, (ii j))] [] fun a H => H.wi 21 ((j : Int) + 1) fun a H => ?_
     refine H.ge HP [(7, (ii ((j : Int) + 1)))] [] fun a H => ?_
     refine ztn ?_
     have H := H.as 7 (ii ((j + 1 : Nat) : Int)) rfl rfl
     refine ⟨_, ?_, j + 1, pl ++ [(⟨(cq % 6) == 0, bstr ((List.replicate sN 0) ++ (bytes2 (iti i) (j : Int))), 0⟩ : PicA)], B_90, c_91, rfl, H.keep (by kernel_rfl), (by have hh := (HP.sub [3, 4, 5, 6] [(rowsR w.heap.size 96 3 PicA.cells okT feF (.slice B_90 (pl.length + 1) c_91) (pl ++ [(⟨(cq % 6) == 0, bstr ((List.replicate sN 0) ++ (bytes2 (iti i) (j : Int))), 0⟩ : PicA)])), bx b_4 91 [(ii (iti i)), (.slice B_90 (pl.length + 1) c_91)] true, (rowsR w.heap.size 91 2 AstA.cells astOw astFp (.slice LA li.length lc) li), (bx b_1 3 [(ii 1), (ii 7), (ii 8)] true)] (by kernel_rfl) (by kernel_rfl)); rw [show pl.length + 1 = (pl ++ [(⟨(cq % 6) == 0, bstr ((List.replicate sN 0) ++ (bytes2 (iti i) (j : Int))), 0⟩ : PicA)]).length from (by rw [List.length_append]; rfl)] at hh; exact hh), (by omega), (picsOk_next hpk (by omega) (.inr (fun h0 => g51p (by rw [h0]; rfl))))⟩
     omega
    refine Op.val H 64 (.string (bstr (bytes2 (iti i) (j : Int)))) rfl (by kernel_rfl) (ex_b2sR (l := bytes2 (iti i) (j : Int)) (e := 5) (m := 2) (c := 2) (by kernel_rfl) (rd_bytes2 (HP.at_ 1 rfl) (by omega) (by omega)) (by kernel_rfl) (by kernel_rfl) (by kernel_rfl)) fun a H => ?_
    refine ⟨.inr ((((HP.tail rfl).tail rfl).tail rfl)), ?_⟩
    refine An.one 12 (by kernel_rfl) ?_
    refine Op.val H 58 (.string (bstr (List.replicate sN 0))) rfl (by kernel_rfl) (ex_b2sR (l := List.replicate sN 0) (e := 5) (m := sN) (c := sN) (by kernel_rfl) (rd_zeros (HP.at_ 0 rfl)) (by kernel_rfl) (by kernel_rfl) (by kernel_rfl)) fun a H => ?_
    refine ⟨.inr ((((HP.tail rfl).tail rfl).tail rfl)), ?_⟩
    refine An.q H (.inr ((((HP.tail rfl).tail rfl).tail rfl))) 19 65 (.string (bstr ((List.replicate sN 0) ++ (bytes2 (iti i) (j : Int))))) (fun _ => ex_sadd (by kernel_rfl) (by kernel_rfl) (by rw [List.length_replicate]; show sN + 2 ≤ _; omega)) fun a H => ?_
    refine An.go H (.inr ((((HP.tail rfl).tail rfl).tail rfl))) 4 [20] [(66, (.agg #[(.bool ((cq % 6) == 0)), (.string (bstr ((List.replicate sN 0) ++ (bytes2 (iti i) (j : Int))))), (ii 0)]))] [] fun a H => ?_
    refine An.one 21 (by kernel_rfl) ?_
    refine Op.alloc H HP 67 (fun b => (.slice (some ⟨b, 0, none⟩) 1 1)) 96 [(.bool ((cq % 6) == 0)), (.string (bstr ((List.replicate sN 0) ++ (bytes2 (iti i) (j : Int))))), (ii 0)] rfl (by kernel_rfl) (fun w => by kernel_rfl) fun b_94 w_95 a H HP => ?_
    refine ⟨.inr (((((HP.tail rfl).tail rfl).tail rfl).tail rfl)), ?_⟩
    refine An.one 22 (by kernel_rfl) ?_
    have HP := HP.pend0 3 rfl elOk_flat (⟨(cq % 6) == 0, bstr ((List.replicate sN 0) ++ (bytes2 (iti i) (j : Int))), 0⟩ : PicA) [bx b_94 96 [(.bool ((cq % 6) == 0)), (.string (bstr ((List.replicate sN 0) ++ (bytes2 (iti i) (j : Int))))), (ii 0)] true, bx b_86 5 (List.replicate sN (.int .u8 0)) true, bx b_84 5 [(.int .u8 (iti i)), (.int .u8 (j : Int))] true, (rowsP w.heap.size 96 3 PicA.cells okT feF (.slice PA pl.length pc) pl (⟨(cq % 6) == 0, bstr ((List.replicate sN 0) ++ (bytes2 (iti i) (j : Int))), 0⟩ : PicA)), bx b_4 91 [(ii (iti i)), (.slice PA pl.length pc)] true, (rowsR w.heap.size 91 2 AstA.cells astOw astFp (.slice LA li.length lc) li), (bx b_1 3 [(ii 1), (ii 7), (ii 8)] true)] (by kernel_rfl) trivial (fun _ h => h)
    refine Op.push H HP 68 3 0 (v := (.slice PA pl.length pc)) (e := 96) (p := (⟨(cq % 6) == 0, bstr ((List.replicate sN 0) ++ (bytes2 (iti i) (j : Int))), 0⟩ : PicA)) (l := pl) (cs := PicA.cells) (ok := okT) (fe := feF) (size := 3) (z := (.agg #[(.bool false), (.string (bstr ([]))), (ii 0)])) (bytes := 32) (bb := b_94) (tb := 96) (fb := true) rfl (by kernel_rfl) elOk_flat (by kernel_rfl) (by kernel_rfl) rfl (by kernel_rfl) (by kernel_rfl) (by kernel_rfl) (by kernel_rfl) (by kernel_rfl) rfl (by kernel_rfl) (by unfold maxLen; omega) (by omega) fun B_96 c_97 w_98 a H HP => ?_
    have HP : Hp w w_98 [bx b_94 96 [(.bool ((cq % 6) == 0)), (.string (bstr ((List.replicate sN 0) ++ (bytes2 (iti i) (j : Int))))), (ii 0)] true, bx b_86 5 (List.replicate sN (.int .u8 0)) true, bx b_84 5 [(.int .u8 (iti i)), (.int .u8 (j : Int))] true, (rowsR w.heap.size 96 3 PicA.cells okT feF (.slice B_96 (pl.length + 1) c_97) (pl ++ [(⟨(cq % 6) == 0, bstr ((List.replicate sN 0) ++ (bytes2 (iti i) (j : Int))), 0⟩ : PicA)])), bx b_4 91 [(ii (iti i)), (.slice PA pl.length pc)] true, (rowsR w.heap.size 91 2 AstA.cells astOw astFp (.slice LA li.length lc) li), (bx b_1 3 [(ii 1), (ii 7), (ii 8)] true)] [rowF 1 i1C XA xs] := HP
    refine ⟨.inr (((((HP.tail rfl).tail rfl).tail rfl).tail rfl)), ?_⟩
    refine An.go H (.inr (((((HP.tail rfl).tail rfl).tail rfl).tail rfl))) 1 [23] [(69, (pt b_4 1))] [] fun a H => ?_
    refine An.one 24 (by kernel_rfl) ?_
    refine Op.sh H HP 4 1 (.slice B_96 (pl.length + 1) c_97) rfl rfl fun w_99 a H HP => ?_
    refine ⟨.inl (by kernel_rfl), ?_⟩
    refine An.done (by kernel_rfl) ?_
    refine zibn (ztn (zrg ?_))
    refine H.go HP 1 [(20, (ii j))] [] fun a H => H.wi 21 ((j : Int) + 1) fun a H => ?_
    refine H.ge HP [(7, (ii ((j : Int) + 1)))] [] fun a H => ?_
    refine ztn ?_
    have H := H.as 7 (ii ((j + 1 : Nat) : Int)) rfl rfl
    refine ⟨_, ?_, j + 1, pl ++ [(⟨(cq % 6) == 0, bstr ((List.replicate sN 0) ++ (bytes2 (iti i) (j : Int))), 0⟩ : PicA)], B_96, c_97, rfl, H.keep (by kernel_rfl), (by have hh := (HP.sub [3, 4, 5, 6] [(rowsR w.heap.size 96 3 PicA.cells okT feF (.slice B_96 (pl.length + 1) c_97) (pl ++ [(⟨(cq % 6) == 0, bstr ((List.replicate sN 0) ++ (bytes2 (iti i) (j : Int))), 0⟩ : PicA)])), bx b_4 91 [(ii (iti i)), (.slice B_96 (pl.length + 1) c_97)] true, (rowsR w.heap.size 91 2 AstA.cells astOw astFp (.slice LA li.length lc) li), (bx b_1 3 [(ii 1), (ii 7), (ii 8)] true)] (by kernel_rfl) (by kernel_rfl)); rw [show pl.length + 1 = (pl ++ [(⟨(cq % 6) == 0, bstr ((List.replicate sN 0) ++ (bytes2 (iti i) (j : Int))), 0⟩ : PicA)]).length from (by rw [List.length_append]; rfl)] at hh; exact hh), (by omega), (picsOk_next hpk (by omega) (.inr (fun h0 => g51p (by rw [h0]; rfl))))⟩
    omega
   refine Op.val H 64 (.string (bstr (bytes2 (iti i) (j : Int)))) rfl (by kernel_rfl) (ex_b2sR (l := bytes2 (iti i) (j : Int)) (e := 5) (m := 2) (c := 2) (by kernel_rfl) (rd_bytes2 (HP.at_ 0 rfl) (by omega) (by omega)) (by kernel_rfl) (by kernel_rfl) (by kernel_rfl)) fun a H => ?_
   refine ⟨.inr (((HP.tail rfl).tail rfl)), ?_⟩
   refine An.one 11 (by kernel_rfl) ?_
   refine Op.alloc H HP 57 (fun b => (.slice (some ⟨b, 0, none⟩) sN sN)) 5 (List.replicate sN (.int .u8 0)) rfl (by kernel_rfl) (fun w => ex_make (n := sN) (e := 5) (k := .i64) (by kernel_rfl) (by kernel_rfl) (by kernel_rfl) (by kernel_rfl) (by omega)) fun b_100 w_101 a H HP => ?_
   refine ⟨.inr ((((HP.tail rfl).tail rfl).tail rfl)), ?_⟩
   refine An.one 12 (by kernel_rfl) ?_
   refine Op.val H 58 (.string (bstr (List.replicate sN 0))) rfl (by kernel_rfl) (ex_b2sR (l := List.replicate sN 0) (e := 5) (m := sN) (c := sN) (by kernel_rfl) (rd_zeros (HP.at_ 0 rfl)) (by kernel_rfl) (by kernel_rfl) (by kernel_rfl)) fun a H => ?_
   refine ⟨.inr ((((HP.tail rfl).tail rfl).tail rfl)), ?_⟩
   refine An.q H (.inr ((((HP.tail rfl).tail rfl).tail rfl))) 19 65 (.string (bstr ((List.replicate sN 0) ++ (bytes2 (iti i) (j : Int))))) (fun _ => ex_sadd (by kernel_rfl) (by kernel_rfl) (by rw [List.length_replicate]; show sN + 2 ≤ _; omega)) fun a H => ?_
   refine An.go H (.inr ((((HP.tail rfl).tail rfl).tail rfl))) 4 [20] [(66, (.agg #[(.bool ((cq % 6) == 0)), (.string (bstr ((List.replicate sN 0) ++ (bytes2 (iti i) (j : Int))))), (ii 0)]))] [] fun a H => ?_
   refine An.one 21 (by kernel_rfl) ?_
   refine Op.alloc H HP 67 (fun b => (.slice (some ⟨b, 0, none⟩) 1 1)) 96 [(.bool ((cq % 6) == 0)), (.string (bstr ((List.replicate sN 0) ++ (bytes2 (iti i) (j : Int))))), (ii 0)] rfl (by kernel_rfl) (fun w => by kernel_rfl) fun b_102 w_103 a H HP => ?_
   refine ⟨.inr (((((HP.tail rfl).tail rfl).tail rfl).tail rfl)), ?_⟩
   refine An.one 22 (by kernel_rfl) ?_
   have HP := HP.pend0 3 rfl elOk_flat (⟨(cq % 6) == 0, bstr ((List.replicate sN 0) ++ (bytes2 (iti i) (j : Int))), 0⟩ : PicA) [bx b_102 96 [(.bool ((cq % 6) == 0)), (.string (bstr ((List.replicate sN 0) ++ (bytes2 (iti i) (j : Int))))), (ii 0)] true, bx b_100 5 (List.replicate sN (.int .u8 0)) true, bx b_84 5 [(.int .u8 (iti i)), (.int .u8 (j : Int))] true, (rowsP w.heap.size 96 3 PicA.cells okT feF (.slice PA pl.length pc) pl (⟨(cq % 6) == 0, bstr ((List.replicate sN 0) ++ (bytes2 (iti i) (j : Int))), 0⟩ : PicA)), bx b_4 91 [(ii (iti i)), (.slice PA pl.length pc)] true, (rowsR w.heap.size 91 2 AstA.cells astOw astFp (.slice LA li.length lc) li), (bx b_1 3 [(ii 1), (ii 7), (ii 8)] true)] (by kernel_rfl) trivial (fun _ h => h)
   refine Op.push H HP 68 3 0 (v := (.slice PA pl.length pc)) (e := 96) (p := (⟨(cq % 6) == 0, bstr ((List.replicate sN 0) ++ (bytes2 (iti i) (j : Int))), 0⟩ : PicA)) (l := pl) (cs := PicA.cells) (ok := okT) (fe := feF) (size := 3) (z := (.agg #[(.bool false), (.string (bstr ([]))), (ii 0)])) (bytes := 32) (bb := b_102) (tb := 96) (fb := true) rfl (by kernel_rfl) elOk_flat (by kernel_rfl) (by kernel_rfl) rfl (by kernel_rfl) (by kernel_rfl) (by kernel_rfl) (by kernel_rfl) (by kernel_rfl) rfl (by kernel_rfl) (by unfold maxLen; omega) (by omega) fun B_104 c_105 w_106 a H HP => ?_
   have HP : Hp w w_106 [bx b_102 96 [(.bool ((cq % 6) == 0)), (.string (bstr ((List.replicate sN 0) ++ (bytes2 (iti i) (j : Int))))), (ii 0)] true, bx b_100 5 (List.replicate sN (.int .u8 0)) true, bx b_84 5 [(.int .u8 (iti i)), (.int .u8 (j : Int))] true, (rowsR w.heap.size 96 3 PicA.cells okT feF (.slice B_104 (pl.length + 1) c_105) (pl ++ [(⟨(cq % 6) == 0, bstr ((List.replicate sN 0) ++ (bytes2 (iti i) (j : Int))), 0⟩ : PicA)])), bx b_4 91 [(ii (iti i)), (.slice PA pl.length pc)] true, (rowsR w.heap.size 91 2 AstA.cells astOw astFp (.slice LA li.length lc) li), (bx b_1 3 [(ii 1), (ii 7), (ii 8)] true)] [rowF 1 i1C XA xs] := HP
   refine ⟨.inr (((((HP.tail rfl).tail rfl).tail rfl).tail rfl)), ?_⟩
   refine An.go H (.inr (((((HP.tail rfl).tail rfl).tail rfl).tail rfl))) 1 [23] [(69, (pt b_4 1))] [] fun a H => ?_
   refine An.one 24 (by kernel_rfl) ?_
   refine Op.sh H HP 4 1 (.slice B_104 (pl.length + 1) c_105) rfl rfl fun w_107 a H HP => ?_
   refine ⟨.inl (by kernel_rfl), ?_⟩
   refine An.done (by kernel_rfl) ?_
   refine zibn (ztn (zrg ?_))
   refine H.go HP 1 [(20, (ii j))] [] fun a H => H.wi 21 ((j : Int) + 1) fun a H => ?_
   refine H.ge HP [(7, (ii ((j : Int) + 1)))] [] fun a H => ?_
   refine ztn ?_
   have H := H.as 7 (ii ((j + 1 : Nat) : Int)) rfl rfl
   refine ⟨_, ?_, j + 1, pl ++ [(⟨(cq % 6) == 0, bstr ((List.replicate sN 0) ++ (bytes2 (iti i) (j : Int))), 0⟩ : PicA)], B_104, c_105, rfl, H.keep (by kernel_rfl), (by have hh := (HP.sub [3, 4, 5, 6] [(rowsR w.heap.size 96 3 PicA.cells okT feF (.slice B_104 (pl.length + 1) c_105) (pl ++ [(⟨(cq % 6) == 0, bstr ((List.replicate sN 0) ++ (bytes2 (iti i) (j : Int))), 0⟩ : PicA)])), bx b_4 91 [(ii (iti i)), (.slice B_104 (pl.length + 1) c_105)] true, (rowsR w.heap.size 91 2 AstA.cells astOw astFp (.slice LA li.length lc) li), (bx b_1 3 [(ii 1), (ii 7), (ii 8)] true)] (by kernel_rfl) (by kernel_rfl)); rw [show pl.length + 1 = (pl ++ [(⟨(cq % 6) == 0, bstr ((List.replicate sN 0) ++ (bytes2 (iti i) (j : Int))), 0⟩ : PicA)]).length from (by rw [List.length_append]; rfl)] at hh; exact hh), (by omega), (picsOk_next hpk (by omega) (.inr (fun h0 => g51p (by rw [h0]; rfl))))⟩
   omega
  have g19p := of_decide_eq_false g19
  refine wp_exit (then_exit (then_exit ?_))
  refine w_exit_here ?_
  refine ztn (zrg ?_)
  refine H.go HP 2 [(70, (.slice LA li.length lc)), (71, (.agg #[(ii (iti i)), (.slice PA pl.length pc)]))] [1] fun a H => H.alloc HP 72 (fun b => (.slice (some ⟨b, 0, none⟩) 1 1)) 91 [(ii (iti i)), (.slice PA pl.length pc)] (by kernel_rfl) (fun w => by kernel_rfl) fun b_108 w_109 a H HP => ?_
  have HP := HP.front 1 rfl _ rfl
  have hnew : ∀ a ∈ li, ∀ k, astFp a k → ¬ astFp (⟨iti i, PA, pc, pl⟩ : AstA) k := fun a ha k h1 h2 => pairwise_at HP.apart (i := 0) (j := 3) rfl rfl (by omega) k (ast_fe h2) (.inr ⟨a, ha, h1⟩)
  have HP := HP.absorb 2 rfl elOk_asw (⟨iti i, PA, pc, pl⟩ : AstA) [bx b_108 91 [(ii (iti i)), (.slice PA pl.length pc)] true, bx b_4 91 [(ii (iti i)), (.slice PA pl.length pc)] true, (rowsP w.heap.size 91 2 AstA.cells astOw astFp (.slice LA li.length lc) li (⟨iti i, PA, pc, pl⟩ : AstA)), (bx b_1 3 [(ii 1), (ii 7), (ii 8)] true)] (by kernel_rfl) (ast_own (HP.held 0 rfl)) (fun k hk => ast_fe hk) rfl
  refine H.push HP 73 2 0 (v := (.slice LA li.length lc)) (e := 91) (p := (⟨iti i, PA, pc, pl⟩ : AstA)) (l := li) (cs := AstA.cells) (ok := astOw) (fe := astFp) (size := 2) (z := (.agg #[.int .i64 0, .slice none 0 0])) (bytes := 32) (bb := b_108) (tb := 91) (fb := true) (by kernel_rfl) elOk_asw (by kernel_rfl) (by kernel_rfl) rfl (by kernel_rfl) (by kernel_rfl) (by kernel_rfl) (by kernel_rfl) (by kernel_rfl) rfl (by kernel_rfl) (by unfold maxLen; omega) (by omega) fun B_110 c_111 w_112 a H HP => ?_
  have HP : Hp w w_112 [bx b_108 91 [(ii (iti i)), (.slice PA pl.length pc)] true, bx b_4 91 [(ii (iti i)), (.slice PA pl.length pc)] true, (rowsR w.heap.size 91 2 AstA.cells astOw astFp (.slice B_110 (li.length + 1) c_111) (li ++ [(⟨iti i, PA, pc, pl⟩ : AstA)])), (bx b_1 3 [(ii 1), (ii 7), (ii 8)] true)] [rowF 1 i1C XA xs] := HP
  refine H.ge HP [(3, (.slice B_110 (li.length + 1) c_111))] [] fun a H => ?_
  refine zibn (ztn (zrg ?_))
  refine H.wi 74 ((i : Int) + 1) fun a H => ?_
  refine H.ge HP [(12, (ii ((i : Int) + 1)))] [] fun a H => ?_
  refine ztn ?_
  have H := H.as 3 (.slice B_110 ((li ++ [(⟨iti i, PA, pc, pl⟩ : AstA)]).length) c_111) rfl (congrArg (fun n => Value.slice _ n _) (by rw [List.length_append]; rfl))
  have H := H.as 12 (ii ((i + 1 : Nat) : Int)) rfl rfl
  refine ⟨_, ?_, i + 1, li ++ [(⟨iti i, PA, pc, pl⟩ : AstA)], B_110, c_111, rfl, H.keep (by kernel_rfl), (by have hh := (HP.sub [2, 3] [(rowsR w.heap.size 91 2 AstA.cells astOw astFp (.slice B_110 (li.length + 1) c_111) (li ++ [(⟨iti i, PA, pc, pl⟩ : AstA)])), (bx b_1 3 [(ii 1), (ii 7), (ii 8)] true)] (by kernel_rfl) (by kernel_rfl)); rw [show li.length + 1 = (li ++ [(⟨iti i, PA, pc, pl⟩ : AstA)]).length from (by rw [List.length_append]; rfl)] at hh; exact hh), (by omega), (it_next hit (by omega) rfl), (fun a ha => by rcases List.mem_append.1 ha with ha | ha; exact hok a ha; rcases List.mem_singleton.1 ha with rfl; have hj30 : j = 30 := (by omega); exact hj30 ▸ hpk), (List.pairwise_append.2 ⟨hdj, List.pairwise_singleton _ _, fun a ha b hb => (List.mem_singleton.1 hb) ▸ hnew a ha⟩)⟩
  omega
 have g13p := of_decide_eq_false g13
 refine wp_exit (then_exit (then_exit ?_))
 refine w_exit_here ?_
 refine ztn (zsq (zrg ?_))
 refine H.ge HP [(2, (.slice LA li.length lc))] [] fun a H => ?_
 refine ztn (zrt ?_)
 refine H.r1 (.slice LA li.length lc) Tryz.results11 ?_
 have hie : i = 3 := by omega
 subst hie
 exact ⟨LA, lc, li, by rw [hlil], hit, hok, hdj, HP.held 0 rfl, (fun k hk => ⟨HP.fresh _ (List.mem_of_getElem? (i := 0) rfl) rfl k hk, (HP.res _ (List.mem_of_getElem? (i := 0) rfl)).2.2 k hk⟩), HP.bl⟩
def SentP (rn rd : Int) (s : List UInt8) : Prop := s.length ≤ 999999 ∧ ∀ u, unpackP rn rd s = some u → u.al = [] ∧ u.version ≤ 8
theorem unpack_mod {rn rd : Int} {s : List UInt8} (h : s.length = 0 ∨ s.length % 64 ≠ 0) : unpackP rn rd s = none := unpack_nos (by unfold streamP; rw [if_pos (by rcases h with h | h; exact .inl h; exact .inr (.inl h))])
theorem sent_nil (rn rd : Int) : SentP rn rd [] := ⟨Nat.zero_le _, fun u h => by rw [unpack_mod (.inl rfl)] at h; cases h⟩
theorem sent_garb (rn rd : Int) : SentP rn rd [103, 97, 114, 98, 97, 103, 101] := ⟨by decide, fun u h => by rw [unpack_mod (.inr (by decide))] at h; cases h⟩
theorem sent_pack {v : Un} (rn rd : Int) (ha : v.al = []) (hv : v.version ≤ 8) : SentP rn rd ((packP rn rd v).getD []) := by
 cases h : packP rn rd v with
 | none => exact sent_nil rn rd
 | some l =>
  refine ⟨?_, fun u hu => ?_⟩
  ·have := pack_len h
   show l.length ≤ _
   omega
  ·rw [show (some l).getD [] = l from rfl, unpack_pack h] at hu
   cases hu
   exact ⟨ha, hv⟩
def itf (i : Nat) : Int := if i = 3 then 0 else iti i
theorem itf_bd (i : Nat) : 0 ≤ itf i ∧ itf i ≤ 8 := by have := iti_bd i; unfold itf; split <;> omega
theorem itf_cell {w : World} {b t i : Nat} (h : Box w b t #[.int .i64 1, .int .i64 7, .int .i64 8, .int .i64 0]) (hi : i < 4) : w.cell? ⟨b, 0 + i * 1, none⟩ = some (.int .i64 (itf i)) := by
 rcases (by omega : i = 0 ∨ i = 1 ∨ i = 2 ∨ i = 3) with rfl | rfl | rfl | rfl
 ·exact h.cell (i := 0) rfl
 ·exact h.cell (i := 1) rfl
 ·exact h.cell (i := 2) rfl
 ·exact h.cell (i := 3) rfl
theorem find_data {lib : List AstA} {it : Int} {fa : Option AstA} {kx : Nat} (h : ∀ a ∈ lib, ∀ q ∈ a.pics, q.data.size ≤ 400) (hfa : findA it lib = fa) (hk : kx < (fa.getD astZ).pics.length) : ((fa.getD astZ).pics.getD kx picZ).str.length ≤ 400 := by
 cases fa with
 | none => exact absurd hk (Nat.not_lt_zero _)
 | some a =>
  have hk : kx < a.pics.length := hk
  have h1 := h a (findA_mem hfa).1 (a.pics.getD kx picZ) (by rw [List.getD_eq_getElem?_getD, List.getElem?_eq_getElem hk]; exact List.getElem_mem hk)
  show (a.pics.getD kx picZ).str.length ≤ 400
  exact h1
theorem pic_cells2 {w : World} {A : Option Addr} {n b off : Nat} {l : List PicA} (h : IsPics w A n l) {i : Nat} (hi : i < n) (hA : A = some ⟨b, off, none⟩) : cellsAt w b (off + i * 3) [.bool (l.getD i picZ).key, .string (bstr (l.getD i picZ).str), .int .i64 (l.getD i picZ).power] := by
 obtain ⟨b', off', e, _, hc⟩ := pic_cells h hi
 rw [hA] at e; cases e; exact hc
theorem alts_nil (w : World) (A : Option Addr) : IsAlts w A 0 [] := ⟨rfl, Rd.nil _ _ _⟩
theorem Hp.subw {w0 w : World} {L : List HB} {K : List FK} (H : Hp w0 w L K) (is : List Nat) (L' : List HB) (hL : placed L is = L') (hd : (distinct is && L.zipIdx.all fun p => p.1.fresh || is.contains p.2) = true) : Hp w0 w L' K := by
 subst hL
 simp only [Bool.and_eq_true] at hd
 have hmem : ∀ x ∈ placed L is, x ∈ L := fun x hx => let ⟨_, _, e⟩ := placed_mem hx; List.mem_of_getElem? e
 have hpl : ∀ (is : List Nat) k x, k ∈ is → L[k]? = some x → x ∈ placed L is := by
  intro is
  induction is with
  | nil => intro k x hk; cases hk
  | cons i is ih =>
   intro k x hk e
   simp only [placed]
   rcases List.mem_cons.1 hk with rfl | hk
   ·rw [e]; exact List.mem_cons_self ..
   ·split
    ·exact List.mem_cons_of_mem _ (ih k x hk e)
    ·exact ih k x hk e
 refine ⟨H.os, H.tape, H.output, H.size, fun k hk hn => H.old k hk fun x hx h => ?_, fun x hx => H.res x (hmem x hx), ?_, fun x hx => H.fresh x (hmem x hx), fun p hp => let ⟨h1, h2, h3⟩ := H.kept p hp; ⟨h1, h2, fun k hk => ⟨(h3 k hk).1, fun x hx => (h3 k hk).2 x (hmem x hx)⟩⟩⟩
 ·obtain ⟨j, hj⟩ := List.mem_iff_getElem?.1 hx
  have hm : (x, j) ∈ L.zipIdx := List.mem_zipIdx_iff_getElem?.2 hj
  have hq := List.all_eq_true.1 hd.2 _ hm
  simp only [Bool.or_eq_true] at hq
  rcases hq with hq | hq
  ·have := H.fresh x hx hq k h
   omega
  ·exact hn x (hpl is j x (by simpa using hq) hj) h
 ·have hd1 := hd.1
  clear hd hmem hpl
  induction is with
  | nil => exact .nil
  | cons i is ih =>
   simp only [distinct, Bool.and_eq_true, Bool.not_eq_true', List.contains_eq_mem, decide_eq_false_iff_not] at hd1
   simp only [placed]
   split
   ·rename_i x hx
    refine .cons (fun y hy => ?_) (ih hd1.2)
    obtain ⟨j, hj, e⟩ := placed_mem hy
    exact pairwise_at H.apart hx e fun h => hd1.1 (h ▸ hj)
   ·exact ih hd1.2
theorem sent0_any (bq o lc : Nat) (p : PlS) (LA : Option Addr) (lib : List AstA) (fr x0 x1 x2 x3 item index : Int) (pre post : List Value) (w : World) (ho : pre.length = o) (hfr : 0 ≤ fr ∧ fr ≤ 1000000) (hpc : 0 ≤ p.c ∧ p.c ≤ 39) (hx0 : -9223372036854775808 ≤ x0 ∧ x0 ≤ 9223372036854775807) (hx1 : -9223372036854775808 ≤ x1 ∧ x1 ≤ 9223372036854775807) (hx2 : -9223372036854775808 ≤ x2 ∧ x2 ≤ 9223372036854775807) (hx3 : -9223372036854775808 ≤ x3 ∧ x3 ≤ 9223372036854775807) (hitm : 0 ≤ item ∧ item ≤ 8) (hidx : 0 ≤ index ∧ index ≤ 1000000) (hcl : ¬ libFp LA lib bq) (h2q : 2 ≤ bq) (hL : Laid w) (hlib : IsAsts w LA lib.length lib) (hln : lib.length ≤ maxLen) (hlp : ∀ a ∈ lib, a.pics.length ≤ 2000000) (hld : ∀ a ∈ lib, ∀ q ∈ a.pics, q.data.size ≤ 400) (hC : Box w bq 55 (pre ++ [Value.int .i64 item, .int .i64 index] ++ post).toArray) :
  Calls Tryz.prog 19 #[.pointer (some ⟨bq, o, none⟩), .agg (plnC p), .slice LA lib.length lc, .int .i64 fr, .agg #[.int .i64 x0, .int .i64 x1, .int .i64 x2, .int .i64 x3]] w fun e w' => ∃ s it ix, e = .returned (.string (bstr s)) ∧ SentP p.nm 1 s ∧ (0 ≤ it ∧ it ≤ 8) ∧ (0 ≤ ix ∧ ix ≤ max (index + 1) 29) ∧ Box w' bq 55 (pre ++ [Value.int .i64 it, .int .i64 ix] ++ post).toArray ∧ w.grownBy w' (some bq) := by
 have HP := ((Hp.own (vs := pre ++ [Value.int .i64 item, .int .i64 index] ++ post) hC).keepF (astsK LA lib) hlib (fun _ _ h hk hs => IsAsts.keep h hk hs) (fun k hk => ⟨IsAsts.lt hlib hk, fun x hx => by simp only [List.mem_cons, List.not_mem_nil, or_false] at hx; rcases hx with rfl; exact fun e => hcl (e ▸ hk)⟩)).keepF laidK hL laidK_ok (fun k hk => ⟨hL.lt k hk, fun x hx => by simp only [List.mem_cons, List.not_mem_nil, or_false] at hx; rcases hx with rfl; exact fun e => by rcases hk with hk | hk <;> (have : k = bq := e; omega)⟩)
 refine w_enter 160 [(0, (pt bq o)), (1, (.agg #[(ii p.c), (ii p.nm), (ii 1), (ii 0), (.slice none 0 0), (ii 0), (ii 2), (ii p.len), (ii 1), (.slice p.IA 3 p.ic), (.slice none 0 0), (.slice none 0 0), (.slice none 0 0)])), (2, (.slice LA lib.length lc)), (3, (ii fr)), (4, (.agg #[(ii x0), (ii x1), (ii x2), (ii x3)]))] Tryz.func19 rfl Tryz.ntmps19 (by kernel_rfl) (by kernel_rfl) fun a H => ?_
 refine zsq (zrg ?_)
 refine H.al HP 6 67 [(ii p.c), (ii p.nm), (ii 1), (ii 0), (.slice none 0 0), (ii 0), (ii 2), (ii p.len), (ii 1), (.slice p.IA 3 p.ic), (.slice none 0 0), (.slice none 0 0), (.slice none 0 0)] fun b_1 w_2 a H HP => H.al HP 9 52 [(ii x0), (ii x1), (ii x2), (ii x3)] fun b_3 w_4 a H HP => ?_
 refine H.ge HP [(10, (.string (bstr ([]))))] [] fun a H => ?_
 refine ztn (zsq (zrg ?_))
 refine H.go HP 3 [(16, (pt bq o)), (18, (.pointer (some ⟨bq, o + 1, none⟩)))] [] fun a H => H.u 19 (ii index) (ex_l1 (win_cell (k := 1) (HP.at_ 2 rfl) ho rfl)) fun a H => H.wi 20 (index + 1) fun a H => H.go HP 2 [(22, (.pointer (some ⟨bq, o + 1, none⟩)))] [] fun a H => ?_
 refine H.storeW HP 2 bq o 1 55 pre [(ii item), (ii index)] post false (ii (index + 1)) [bx b_3 52 [(ii x0), (ii x1), (ii x2), (ii x3)] true, bx b_1 67 [(ii p.c), (ii p.nm), (ii 1), (ii 0), (.slice none 0 0), (ii 0), (ii 2), (ii p.len), (ii 1), (.slice p.IA 3 p.ic), (.slice none 0 0), (.slice none 0 0), (.slice none 0 0)] true, bx bq 55 (pre ++ [(ii item), (ii (index + 1))] ++ post) false] ho (by kernel_rfl) (by kernel_rfl) (by kernel_rfl) rfl (by kernel_rfl) rfl (by kernel_rfl) rfl fun w_5 a H HP => ?_
 refine znl (ztn ?_)
 refine w_cut (fun a wv => ∃ (it : Int), ∃ (ix : Int), Sl 160 [(0, (pt bq o)), (2, (.slice LA lib.length lc)), (3, (ii fr)), (6, (pt b_1 0)), (9, (pt b_3 0)), (10, (.string (bstr ([]))))] a ∧ Hp w wv [bx bq 55 (pre ++ [(ii it), (ii ix)] ++ post) false, bx b_3 52 [(ii x0), (ii x1), (ii x2), (ii x3)] true, bx b_1 67 [(ii p.c), (ii p.nm), (ii 1), (ii 0), (.slice none 0 0), (ii 0), (ii 2), (ii p.len), (ii 1), (.slice p.IA 3 p.ic), (.slice none 0 0), (.slice none 0 0), (.slice none 0 0)] true] [laidK, astsK LA lib] ∧ (0 ≤ it ∧ it ≤ 8) ∧ (0 ≤ ix ∧ ix ≤ max (index + 1) 29)) ?_ ?_
 ·
  refine zsq (zrg ?_)
  refine H.v 23 (pt b_3 0) fun a H => H.go HP 1 [(24, (ii x0))] [0] fun a H => ?_
  refine H.cl 25 (Tryz.call18 _ _) (pick_any x0 12 w_5 hx0 (by omega)) ?_
  rintro e w_7 ⟨rfl, hw⟩
  refine ⟨_, rfl, ?_⟩
  intro a H
  have HP := hw ▸ HP
  have hp_6 := pickI_lt x0 12 (by omega)
  refine znl (ztn (zbk (zsq (zsq (zrg ?_)))))
  refine H.ge HP [(26, (.bool ((pickI x0 12) == 0)))] [] fun a H => ?_
  refine ztn ?_
  refine w_if H rfl (fun g26 => ?_) (fun g26 => ?_)
  ·have g26p := eq_of_beq g26
   have H := H.as 26 (.bool true) rfl (congrArg Value.bool g26)
   refine zsk (ztn ?_)
   refine w_ift H rfl ?_
   refine zsq (zrg ?_)
   refine H.go HP 1 [(29, (pt bq o))] [] fun a H => H.alloc HP 30 (fun b => (.slice (some ⟨b, 0, none⟩) 3 3)) 3 [(ii 1), (ii 7), (ii 8)] (by kernel_rfl) (fun w => by kernel_rfl) fun b_8 w_9 a H HP => H.v 31 (pt b_3 1) fun a H => H.go HP 1 [(32, (ii x1))] [1] fun a H => ?_
   refine H.cl 33 (Tryz.call18 _ _) (pick_any x1 3 w_9 hx1 (by omega)) ?_
   rintro e w_11 ⟨rfl, hw⟩
   refine ⟨_, rfl, ?_⟩
   intro a H
   have HP := hw ▸ HP
   have hp_10 := pickI_lt x1 3 (by omega)
   obtain ⟨kx, hkx⟩ : ∃ kx : Nat, pickI x1 3 = (kx : Int) := ⟨(pickI x1 3).toNat, by omega⟩
   have hib := iti_bd kx
   refine H.u 34 (.pointer (some ⟨b_8, 0 + kx * 1, none⟩)) (ex_index (b := b_8) (off := 0) (len := 3) (cap := 3) (e := 3) (k := 1) (ik := .i64) (i := pickI x1 3) (m := kx) (by kernel_rfl) (by kernel_rfl) hkx (by omega) (by kernel_rfl) (by kernel_rfl)) fun a H => H.u 35 (ii (iti kx)) (ex_l1 (iti_cell (HP.at_ 0 rfl) (by omega))) fun a H => H.go HP 2 [(37, (pt bq o))] [] fun a H => ?_
   refine H.storeW HP 3 bq o 0 55 pre [(ii item), (ii (index + 1))] post false (ii (iti kx)) [(bx b_8 3 [(ii 1), (ii 7), (ii 8)] true), bx b_3 52 [(ii x0), (ii x1), (ii x2), (ii x3)] true, bx b_1 67 [(ii p.c), (ii p.nm), (ii 1), (ii 0), (.slice none 0 0), (ii 0), (ii 2), (ii p.len), (ii 1), (.slice p.IA 3 p.ic), (.slice none 0 0), (.slice none 0 0), (.slice none 0 0)] true, bx bq 55 (pre ++ [(ii (iti kx)), (ii (index + 1))] ++ post) false] ho (by kernel_rfl) (by kernel_rfl) (by kernel_rfl) rfl (by kernel_rfl) rfl (by kernel_rfl) rfl fun w_12 a H HP => ?_
   refine znl (ztn (zrg ?_))
   refine H.go HP 3 [(40, (.pointer (some ⟨bq, o + 1, none⟩)))] [] fun a H => ?_
   refine H.storeW HP 3 bq o 1 55 pre [(ii (iti kx)), (ii (index + 1))] post false (ii 0) [(bx b_8 3 [(ii 1), (ii 7), (ii 8)] true), bx b_3 52 [(ii x0), (ii x1), (ii x2), (ii x3)] true, bx b_1 67 [(ii p.c), (ii p.nm), (ii 1), (ii 0), (.slice none 0 0), (ii 0), (ii 2), (ii p.len), (ii 1), (.slice p.IA 3 p.ic), (.slice none 0 0), (.slice none 0 0), (.slice none 0 0)] true, bx bq 55 (pre ++ [(ii (iti kx)), (ii 0)] ++ post) false] ho (by kernel_rfl) (by kernel_rfl) (by kernel_rfl) rfl (by kernel_rfl) rfl (by kernel_rfl) rfl fun w_13 a H HP => ?_
   refine znl (zibn (ztn ?_))
   exact ⟨(iti kx), 0, H.keep (by kernel_rfl), (HP.subw [3, 1, 2] [bx bq 55 (pre ++ [(ii (iti kx)), (ii 0)] ++ post) false, bx b_3 52 [(ii x0), (ii x1), (ii x2), (ii x3)] true, bx b_1 67 [(ii p.c), (ii p.nm), (ii 1), (ii 0), (.slice none 0 0), (ii 0), (ii 2), (ii p.len), (ii 1), (.slice p.IA 3 p.ic), (.slice none 0 0), (.slice none 0 0), (.slice none 0 0)] true] (by kernel_rfl) (by kernel_rfl)), (by omega), (by omega)⟩
  have g26p := ne_of_beq_false g26
  have H := H.as 26 (.bool false) rfl (congrArg Value.bool g26)
  refine zrg ?_
  refine H.ge HP [(26, (.bool ((pickI x0 12) == 1)))] [] fun a H => ?_
  refine ztn ?_
  refine w_if H rfl (fun g26_ => ?_) (fun g26_ => ?_)
  ·have g26_p := eq_of_beq g26_
   have H := H.as 26 (.bool true) rfl (congrArg Value.bool g26_)
   refine zsq (zrg ?_)
   refine H.go HP 1 [(29, (pt bq o))] [] fun a H => H.alloc HP 30 (fun b => (.slice (some ⟨b, 0, none⟩) 3 3)) 3 [(ii 1), (ii 7), (ii 8)] (by kernel_rfl) (fun w => by kernel_rfl) fun b_14 w_15 a H HP => H.v 31 (pt b_3 1) fun a H => H.go HP 1 [(32, (ii x1))] [1] fun a H => ?_
   refine H.cl 33 (Tryz.call18 _ _) (pick_any x1 3 w_15 hx1 (by omega)) ?_
   rintro e w_17 ⟨rfl, hw⟩
   refine ⟨_, rfl, ?_⟩
   intro a H
   have HP := hw ▸ HP
   have hp_16 := pickI_lt x1 3 (by omega)
   obtain ⟨kx, hkx⟩ : ∃ kx : Nat, pickI x1 3 = (kx : Int) := ⟨(pickI x1 3).toNat, by omega⟩
   have hib := iti_bd kx
   refine H.u 34 (.pointer (some ⟨b_14, 0 + kx * 1, none⟩)) (ex_index (b := b_14) (off := 0) (len := 3) (cap := 3) (e := 3) (k := 1) (ik := .i64) (i := pickI x1 3) (m := kx) (by kernel_rfl) (by kernel_rfl) hkx (by omega) (by kernel_rfl) (by kernel_rfl)) fun a H => H.u 35 (ii (iti kx)) (ex_l1 (iti_cell (HP.at_ 0 rfl) (by omega))) fun a H => H.go HP 2 [(37, (pt bq o))] [] fun a H => ?_
   refine H.storeW HP 3 bq o 0 55 pre [(ii item), (ii (index + 1))] post false (ii (iti kx)) [(bx b_14 3 [(ii 1), (ii 7), (ii 8)] true), bx b_3 52 [(ii x0), (ii x1), (ii x2), (ii x3)] true, bx b_1 67 [(ii p.c), (ii p.nm), (ii 1), (ii 0), (.slice none 0 0), (ii 0), (ii 2), (ii p.len), (ii 1), (.slice p.IA 3 p.ic), (.slice none 0 0), (.slice none 0 0), (.slice none 0 0)] true, bx bq 55 (pre ++ [(ii (iti kx)), (ii (index + 1))] ++ post) false] ho (by kernel_rfl) (by kernel_rfl) (by kernel_rfl) rfl (by kernel_rfl) rfl (by kernel_rfl) rfl fun w_18 a H HP => ?_
   refine znl (ztn (zrg ?_))
   refine H.go HP 3 [(40, (.pointer (some ⟨bq, o + 1, none⟩)))] [] fun a H => ?_
   refine H.storeW HP 3 bq o 1 55 pre [(ii (iti kx)), (ii (index + 1))] post false (ii 0) [(bx b_14 3 [(ii 1), (ii 7), (ii 8)] true), bx b_3 52 [(ii x0), (ii x1), (ii x2), (ii x3)] true, bx b_1 67 [(ii p.c), (ii p.nm), (ii 1), (ii 0), (.slice none 0 0), (ii 0), (ii 2), (ii p.len), (ii 1), (.slice p.IA 3 p.ic), (.slice none 0 0), (.slice none 0 0), (.slice none 0 0)] true, bx bq 55 (pre ++ [(ii (iti kx)), (ii 0)] ++ post) false] ho (by kernel_rfl) (by kernel_rfl) (by kernel_rfl) rfl (by kernel_rfl) rfl (by kernel_rfl) rfl fun w_19 a H HP => ?_
   refine znl (zibn (ztn ?_))
   exact ⟨(iti kx), 0, H.keep (by kernel_rfl), (HP.subw [3, 1, 2] [bx bq 55 (pre ++ [(ii (iti kx)), (ii 0)] ++ post) false, bx b_3 52 [(ii x0), (ii x1), (ii x2), (ii x3)] true, bx b_1 67 [(ii p.c), (ii p.nm), (ii 1), (ii 0), (.slice none 0 0), (ii 0), (ii 2), (ii p.len), (ii 1), (.slice p.IA 3 p.ic), (.slice none 0 0), (.slice none 0 0), (.slice none 0 0)] true] (by kernel_rfl) (by kernel_rfl)), (by omega), (by omega)⟩
  have g26_p := ne_of_beq_false g26_
  have H := H.as 26 (.bool false) rfl (congrArg Value.bool g26_)
  refine zsq (zrg ?_)
  refine H.ge HP [(41, (.bool ((pickI x0 12) == 2)))] [] fun a H => ?_
  refine ztn ?_
  refine w_if H rfl (fun g41 => ?_) (fun g41 => ?_)
  ·have g41p := eq_of_beq g41
   refine zsq (zrg ?_)
   refine H.go HP 1 [(43, (pt bq o))] [] fun a H => H.alloc HP 44 (fun b => (.slice (some ⟨b, 0, none⟩) 4 4)) 3 [(ii 1), (ii 7), (ii 8), (ii 0)] (by kernel_rfl) (fun w => by kernel_rfl) fun b_20 w_21 a H HP => H.v 45 (pt b_3 1) fun a H => H.go HP 1 [(46, (ii x1))] [1] fun a H => ?_
   refine H.cl 47 (Tryz.call18 _ _) (pick_any x1 4 w_21 hx1 (by omega)) ?_
   rintro e w_23 ⟨rfl, hw⟩
   refine ⟨_, rfl, ?_⟩
   intro a H
   have HP := hw ▸ HP
   have hp_22 := pickI_lt x1 4 (by omega)
   obtain ⟨kx, hkx⟩ : ∃ kx : Nat, pickI x1 4 = (kx : Int) := ⟨(pickI x1 4).toNat, by omega⟩
   have hib := itf_bd kx
   refine H.u 48 (.pointer (some ⟨b_20, 0 + kx * 1, none⟩)) (ex_index (b := b_20) (off := 0) (len := 4) (cap := 4) (e := 3) (k := 1) (ik := .i64) (i := pickI x1 4) (m := kx) (by kernel_rfl) (by kernel_rfl) hkx (by omega) (by kernel_rfl) (by kernel_rfl)) fun a H => H.u 49 (ii (itf kx)) (ex_l1 (itf_cell (HP.at_ 0 rfl) (by omega))) fun a H => H.go HP 2 [(51, (pt bq o))] [] fun a H => ?_
   refine H.storeW HP 3 bq o 0 55 pre [(ii item), (ii (index + 1))] post false (ii (itf kx)) [(bx b_20 3 [(ii 1), (ii 7), (ii 8), (ii 0)] true), bx b_3 52 [(ii x0), (ii x1), (ii x2), (ii x3)] true, bx b_1 67 [(ii p.c), (ii p.nm), (ii 1), (ii 0), (.slice none 0 0), (ii 0), (ii 2), (ii p.len), (ii 1), (.slice p.IA 3 p.ic), (.slice none 0 0), (.slice none 0 0), (.slice none 0 0)] true, bx bq 55 (pre ++ [(ii (itf kx)), (ii (index + 1))] ++ post) false] ho (by kernel_rfl) (by kernel_rfl) (by kernel_rfl) rfl (by kernel_rfl) rfl (by kernel_rfl) rfl fun w_24 a H HP => ?_
   refine znl (ztn (zrg ?_))
   refine H.go HP 1 [(52, (pt bq o))] [] fun a H => H.v 53 (pt b_3 2) fun a H => H.go HP 1 [(54, (ii x2))] [1] fun a H => ?_
   refine H.cl 55 (Tryz.call18 _ _) (pick_any x2 30 w_24 hx2 (by omega)) ?_
   rintro e w_26 ⟨rfl, hw⟩
   refine ⟨_, rfl, ?_⟩
   intro a H
   have HP := hw ▸ HP
   have hp_25 := pickI_lt x2 30 (by omega)
   refine H.go HP 2 [(57, (.pointer (some ⟨bq, o + 1, none⟩)))] [] fun a H => ?_
   refine H.storeW HP 3 bq o 1 55 pre [(ii (itf kx)), (ii (index + 1))] post false (ii (pickI x2 30)) [(bx b_20 3 [(ii 1), (ii 7), (ii 8), (ii 0)] true), bx b_3 52 [(ii x0), (ii x1), (ii x2), (ii x3)] true, bx b_1 67 [(ii p.c), (ii p.nm), (ii 1), (ii 0), (.slice none 0 0), (ii 0), (ii 2), (ii p.len), (ii 1), (.slice p.IA 3 p.ic), (.slice none 0 0), (.slice none 0 0), (.slice none 0 0)] true, bx bq 55 (pre ++ [(ii (itf kx)), (ii (pickI x2 30))] ++ post) false] ho (by kernel_rfl) (by kernel_rfl) (by kernel_rfl) rfl (by kernel_rfl) rfl (by kernel_rfl) rfl fun w_27 a H HP => ?_
   refine znl (zibn (ztn ?_))
   exact ⟨(itf kx), (pickI x2 30), H.keep (by kernel_rfl), (HP.subw [3, 1, 2] [bx bq 55 (pre ++ [(ii (itf kx)), (ii (pickI x2 30))] ++ post) false, bx b_3 52 [(ii x0), (ii x1), (ii x2), (ii x3)] true, bx b_1 67 [(ii p.c), (ii p.nm), (ii 1), (ii 0), (.slice none 0 0), (ii 0), (ii 2), (ii p.len), (ii 1), (.slice p.IA 3 p.ic), (.slice none 0 0), (.slice none 0 0), (.slice none 0 0)] true] (by kernel_rfl) (by kernel_rfl)), (by omega), (by omega)⟩
  have g41p := ne_of_beq_false g41
  refine zsk (zibn (ztn ?_))
  exact ⟨item, (index + 1), H.keep (by kernel_rfl), (HP.subw [2, 0, 1] [bx bq 55 (pre ++ [(ii item), (ii (index + 1))] ++ post) false, bx b_3 52 [(ii x0), (ii x1), (ii x2), (ii x3)] true, bx b_1 67 [(ii p.c), (ii p.nm), (ii 1), (ii 0), (.slice none 0 0), (ii 0), (ii 2), (ii p.len), (ii 1), (.slice p.IA 3 p.ic), (.slice none 0 0), (.slice none 0 0), (.slice none 0 0)] true] (by kernel_rfl) (by kernel_rfl)), (by omega), (by omega)⟩
 
 rintro a w_28 ⟨it, ix, H, HP, hit2, hix2⟩
 refine zsq (zrg ?_)
 refine H.go HP 3 [(59, (ii p.c)), (60, (ii fr))] [2] fun a H => H.cb HP 61 (Tryz.call42 _ _) (slate_any p.c fr w_28) fun w_29 hb a H HP => H.al HP 11 76 [(ii 0), (ii 0), (ii 0), (ii 0), (ii 0), (.bool false), (.string (bstr ([]))), (ii 0), (ii 0), (.string (bstr ([]))), (ii 0), (ii 0), (.slice none 0 0)] fun b_30 w_31 a H HP => H.sh HP 0 0 (.agg #[(ii p.c), (ii fr), (ii 0), (ii 0), (ii 0), (.bool true), (.string (bstr ([]))), (ii 255), (ii 1000), (.string (bstr ([64, 0, 0]))), (ii 0), (ii 0), (.slice none 0 0)]) rfl fun w_32 a H HP => ?_
 refine znl (ztn (zsq (zrg ?_)))
 refine H.go HP 4 [(63, (.slice LA lib.length lc)), (66, (pt bq o))] [] fun a H => H.u 67 (ii it) (ex_l1 (win_cell (k := 0) (HP.at_ 1 rfl) ho rfl)) fun a H => ?_
 obtain ⟨fa, hfa⟩ : ∃ r, findA it lib = r := ⟨_, rfl⟩
 have hpl : (fa.getD astZ).pics.length ≤ 2000000 := findA_len hlp hfa
 refine H.cl 68 (Tryz.call43 _ _) ((by have hh := mfind_any LA lib.length lc lib it w_32 (HP.fact 1 rfl) hln hlp; rw [hfa] at hh; exact hh)) ?_
 rintro e w_33 ⟨FB, fc, rfl, hfp, hfc1, hfc2, hfc3, hbf, hfr⟩
 refine ⟨_, rfl, ?_⟩
 intro a H
 have HP := (HP.next hbf).keepF ⟨rowFp (fa.getD astZ).pics.length FB, fun w => IsPics w FB (fa.getD astZ).pics.length (fa.getD astZ).pics⟩ hfp (fun _ _ h hk hs => ⟨h.1, h.2.keep hk hs⟩) (fun j hj => row_sep HP hfp.2 hfr hj)
 refine H.go HP 3 [(69, (.agg #[(ii ((fa.getD astZ).item)), (.slice FB ((fa.getD astZ).pics.length) fc)])), (70, (.bool fa.isSome))] [] fun a H => H.al HP 12 91 [(ii 0), (.slice none 0 0)] fun b_34 w_35 a H HP => H.sh HP 0 0 (.agg #[(ii ((fa.getD astZ).item)), (.slice FB ((fa.getD astZ).pics.length) fc)]) rfl fun w_36 a H HP => ?_
 refine H.ge HP [(13, (.bool fa.isSome))] [] fun a H => ?_
 refine ztn ?_
 refine w_cut (fun a wv => ∃ (u : Un), Sl 160 [(0, (pt bq o)), (2, (.slice LA lib.length lc)), (3, (ii fr)), (6, (pt b_1 0)), (9, (pt b_3 0)), (10, (.string (bstr ([])))), (11, (pt b_30 0))] a ∧ Hp w wv [bx b_30 76 [(ii u.channel), (ii u.frame), (ii u.version), (ii u.item), (ii u.index), (.bool u.key), (.string (bstr u.data)), (ii u.regions), (ii u.gain), (.string (bstr u.caption)), (ii u.os), (ii u.of), (.slice none 0 0)] true, bx bq 55 (pre ++ [(ii it), (ii ix)] ++ post) false, bx b_3 52 [(ii x0), (ii x1), (ii x2), (ii x3)] true, bx b_1 67 [(ii p.c), (ii p.nm), (ii 1), (ii 0), (.slice none 0 0), (ii 0), (ii 2), (ii p.len), (ii 1), (.slice p.IA 3 p.ic), (.slice none 0 0), (.slice none 0 0), (.slice none 0 0)] true] [laidK, astsK LA lib] ∧ (u.data.length ≤ 400) ∧ (u.channel = p.c)) ?_ ?_
 ·
  refine zsq ?_
  refine An.start (fun v => Hp w v [bx b_34 91 [(ii ((fa.getD astZ).item)), (.slice FB ((fa.getD astZ).pics.length) fc)] true, bx b_30 76 [(ii p.c), (ii fr), (ii 0), (ii 0), (ii 0), (.bool true), (.string (bstr ([]))), (ii 255), (ii 1000), (.string (bstr ([64, 0, 0]))), (ii 0), (ii 0), (.slice none 0 0)] true, bx bq 55 (pre ++ [(ii it), (ii ix)] ++ post) false, bx b_3 52 [(ii x0), (ii x1), (ii x2), (ii x3)] true, bx b_1 67 [(ii p.c), (ii p.nm), (ii 1), (ii 0), (.slice none 0 0), (ii 0), (ii 2), (ii p.len), (ii 1), (.slice p.IA 3 p.ic), (.slice none 0 0), (.slice none 0 0), (.slice none 0 0)] true] [⟨rowFp (fa.getD astZ).pics.length FB, fun w => IsPics w FB (fa.getD astZ).pics.length (fa.getD astZ).pics⟩, laidK, astsK LA lib]) 11 11 HP wide_follows rfl fun w_37 HP => ?_
  refine An.go H (.inr (HP)) 9 [0, 1] [(72, (.bool fa.isSome))] [] fun a H => ?_
  refine H.split 72 rfl (fun g72 H => ?_) (fun g72 H => ?_)
  ·have g72p := g72
   refine An.go H (.inr (HP)) 6 [2, 3, 4] [(75, (.pointer (some ⟨bq, o + 1, none⟩)))] [] fun a H => ?_
   refine An.vw H (HP) 5 76 (ii ix) (fun _ hS => ex_l1 (win_cell (k := 1) (hS.at_ 2 rfl) ho rfl)) fun a H => ?_
   refine An.go H (.inr (HP)) 0 [6, 7, 8, 9, 10] [(81, (.bool (decide (ix < (((fa.getD astZ).pics.length : Nat) : Int)))))] [0] fun a H => ?_
   refine An.done (by kernel_rfl) ?_
   refine ztn ?_
   refine w_if H rfl (fun g81 => ?_) (fun g81 => ?_)
   ·have g81p := of_decide_eq_true g81
    refine zsq (zrg ?_)
    refine H.go HP 3 [(84, (pt bq o))] [] fun a H => H.u 85 (ii it) (ex_l1 (win_cell (k := 0) (HP.at_ 2 rfl) ho rfl)) fun a H => H.go HP 1 [(86, (pt b_30 3))] [] fun a H => H.sh HP 1 3 (ii it) rfl fun w_38 a H HP => ?_
    refine znl (ztn (zsq (zrg ?_)))
    refine H.go HP 3 [(89, (.pointer (some ⟨bq, o + 1, none⟩)))] [] fun a H => H.u 90 (ii ix) (ex_l1 (win_cell (k := 1) (HP.at_ 2 rfl) ho rfl)) fun a H => H.go HP 1 [(91, (pt b_30 4))] [] fun a H => H.sh HP 1 4 (ii ix) rfl fun w_39 a H HP => ?_
    refine znl (ztn (zsq ?_))
    refine An.start (fun v => Hp w v [bx b_34 91 [(ii ((fa.getD astZ).item)), (.slice FB ((fa.getD astZ).pics.length) fc)] true, bx b_30 76 [(ii p.c), (ii fr), (ii 0), (ii it), (ii ix), (.bool true), (.string (bstr ([]))), (ii 255), (ii 1000), (.string (bstr ([64, 0, 0]))), (ii 0), (ii 0), (.slice none 0 0)] true, bx bq 55 (pre ++ [(ii it), (ii ix)] ++ post) false, bx b_3 52 [(ii x0), (ii x1), (ii x2), (ii x3)] true, bx b_1 67 [(ii p.c), (ii p.nm), (ii 1), (ii 0), (.slice none 0 0), (ii 0), (ii 2), (ii p.len), (ii 1), (.slice p.IA 3 p.ic), (.slice none 0 0), (.slice none 0 0), (.slice none 0 0)] true] [⟨rowFp (fa.getD astZ).pics.length FB, fun w => IsPics w FB (fa.getD astZ).pics.length (fa.getD astZ).pics⟩, laidK, astsK LA lib]) 10 11 HP wide_follows rfl fun w_40 HP => ?_
    refine An.go H (.inr (HP)) 6 [0, 1, 2, 3, 4] [(93, (.slice FB ((fa.getD astZ).pics.length) fc)), (96, (.pointer (some ⟨bq, o + 1, none⟩)))] [0] fun a H => ?_
    refine An.vw H (HP) 5 97 (ii ix) (fun _ hS => ex_l1 (win_cell (k := 1) (hS.at_ 2 rfl) ho rfl)) fun a H => ?_
    obtain ⟨kp, hkp⟩ : ∃ kp : Nat, ix = (kp : Int) := ⟨ix.toNat, by omega⟩
    obtain ⟨bu, ou, hA, hbu, hpc⟩ := pic_cells (HP.fact 0 rfl : IsPics _ FB _ _) (i := kp) (by omega)
    have hpd := find_data hld hfa (kx := kp) (by omega)
    refine An.q H (.inr (HP)) 6 98 (.pointer (some ⟨bu, ou + kp * 3, none⟩)) (fun _ => ex_indexA (b := bu) (off := ou) (len := (fa.getD astZ).pics.length) (cap := fc) (e := 96) (k := 3) (ik := .i64) (i := ix) (m := kp) hA (by kernel_rfl) (by kernel_rfl) hkp (by omega) (by kernel_rfl) (by kernel_rfl)) fun a H => ?_
    refine An.go H (.inr (HP)) 3 [7] [(99, (.pointer (some ⟨bu, ou + kp * 3, none⟩)))] [] fun a H => ?_
    refine An.vw H (HP) 8 100 (.bool (((fa.getD astZ).pics.getD kp picZ).key)) (fun _ hS => ex_l1 ((pic_cells2 (hS.fact 0 rfl : IsPics _ FB _ _) (i := kp) (by omega) hA) 0 _ rfl)) fun a H => ?_
    refine An.go H (.inr (HP)) 1 [9] [(101, (pt b_30 5))] [] fun a H => ?_
    refine An.one 10 (by kernel_rfl) ?_
    refine Op.sh H HP 1 5 (.bool (((fa.getD astZ).pics.getD kp picZ).key)) rfl rfl fun w_41 a H HP => ?_
    refine ⟨.inl (by kernel_rfl), ?_⟩
    refine An.done (by kernel_rfl) ?_
    refine ztn ?_
    refine An.start (fun v => Hp w v [bx b_34 91 [(ii ((fa.getD astZ).item)), (.slice FB ((fa.getD astZ).pics.length) fc)] true, bx b_30 76 [(ii p.c), (ii fr), (ii 0), (ii it), (ii ix), (.bool (((fa.getD astZ).pics.getD kp picZ).key)), (.string (bstr ([]))), (ii 255), (ii 1000), (.string (bstr ([64, 0, 0]))), (ii 0), (ii 0), (.slice none 0 0)] true, bx bq 55 (pre ++ [(ii it), (ii ix)] ++ post) false, bx b_3 52 [(ii x0), (ii x1), (ii x2), (ii x3)] true, bx b_1 67 [(ii p.c), (ii p.nm), (ii 1), (ii 0), (.slice none 0 0), (ii 0), (ii 2), (ii p.len), (ii 1), (.slice p.IA 3 p.ic), (.slice none 0 0), (.slice none 0 0), (.slice none 0 0)] true] [⟨rowFp (fa.getD astZ).pics.length FB, fun w => IsPics w FB (fa.getD astZ).pics.length (fa.getD astZ).pics⟩, laidK, astsK LA lib]) 10 11 HP wide_follows rfl fun w_42 HP => ?_
    refine An.go H (.inr (HP)) 6 [0, 1, 2, 3, 4] [(103, (.slice FB ((fa.getD astZ).pics.length) fc)), (106, (.pointer (some ⟨bq, o + 1, none⟩)))] [0] fun a H => ?_
    refine An.vw H (HP) 5 107 (ii ix) (fun _ hS => ex_l1 (win_cell (k := 1) (hS.at_ 2 rfl) ho rfl)) fun a H => ?_
    refine An.q H (.inr (HP)) 6 108 (.pointer (some ⟨bu, ou + kp * 3, none⟩)) (fun _ => ex_indexA (b := bu) (off := ou) (len := (fa.getD astZ).pics.length) (cap := fc) (e := 96) (k := 3) (ik := .i64) (i := ix) (m := kp) hA (by kernel_rfl) (by kernel_rfl) hkp (by omega) (by kernel_rfl) (by kernel_rfl)) fun a H => ?_
    refine An.go H (.inr (HP)) 3 [7] [(109, (.pointer (some ⟨bu, ou + kp * 3 + 1, none⟩)))] [] fun a H => ?_
    refine An.vw H (HP) 8 110 (.string (bstr (((fa.getD astZ).pics.getD kp picZ).str))) (fun _ hS => ex_l1 ((pic_cells2 (hS.fact 0 rfl : IsPics _ FB _ _) (i := kp) (by omega) hA) 1 _ rfl)) fun a H => ?_
    refine An.go H (.inr (HP)) 1 [9] [(111, (pt b_30 6))] [] fun a H => ?_
    refine An.one 10 (by kernel_rfl) ?_
    refine Op.sh H HP 1 6 (.string (bstr (((fa.getD astZ).pics.getD kp picZ).str))) rfl rfl fun w_43 a H HP => ?_
    refine ⟨.inl (by kernel_rfl), ?_⟩
    refine An.done (by kernel_rfl) ?_
    refine ztn ?_
    exact ⟨(⟨p.c, fr, 0, it, ix, ((fa.getD astZ).pics.getD kp picZ).key, ((fa.getD astZ).pics.getD kp picZ).str, 255, 1000, [64, 0, 0], 0, 0, none, 0, []⟩ : Un), H.keep (by kernel_rfl), (HP.subw [1, 2, 3, 4] [bx b_30 76 [(ii p.c), (ii fr), (ii 0), (ii it), (ii ix), (.bool (((fa.getD astZ).pics.getD kp picZ).key)), (.string (bstr (((fa.getD astZ).pics.getD kp picZ).str))), (ii 255), (ii 1000), (.string (bstr ([64, 0, 0]))), (ii 0), (ii 0), (.slice none 0 0)] true, bx bq 55 (pre ++ [(ii it), (ii ix)] ++ post) false, bx b_3 52 [(ii x0), (ii x1), (ii x2), (ii x3)] true, bx b_1 67 [(ii p.c), (ii p.nm), (ii 1), (ii 0), (.slice none 0 0), (ii 0), (ii 2), (ii p.len), (ii 1), (.slice p.IA 3 p.ic), (.slice none 0 0), (.slice none 0 0), (.slice none 0 0)] true] (by kernel_rfl) (by kernel_rfl)).untop, (by first | exact hpd | exact Nat.zero_le _), rfl⟩
   have g81p := of_decide_eq_false g81
   refine zsk (ztn ?_)
   exact ⟨(⟨p.c, fr, 0, 0, 0, true, [], 255, 1000, [64, 0, 0], 0, 0, none, 0, []⟩ : Un), H.keep (by kernel_rfl), (HP.subw [1, 2, 3, 4] [bx b_30 76 [(ii p.c), (ii fr), (ii 0), (ii 0), (ii 0), (.bool true), (.string (bstr ([]))), (ii 255), (ii 1000), (.string (bstr ([64, 0, 0]))), (ii 0), (ii 0), (.slice none 0 0)] true, bx bq 55 (pre ++ [(ii it), (ii ix)] ++ post) false, bx b_3 52 [(ii x0), (ii x1), (ii x2), (ii x3)] true, bx b_1 67 [(ii p.c), (ii p.nm), (ii 1), (ii 0), (.slice none 0 0), (ii 0), (ii 2), (ii p.len), (ii 1), (.slice p.IA 3 p.ic), (.slice none 0 0), (.slice none 0 0), (.slice none 0 0)] true] (by kernel_rfl) (by kernel_rfl)).untop, (by first | exact hpd | exact Nat.zero_le _), rfl⟩
  have g72p := g72
  refine An.go H (.inr (HP)) 0 [2, 3, 4, 5, 6, 7, 8, 9, 10] [(81, (.bool false))] [] fun a H => ?_
  refine An.done (by kernel_rfl) ?_
  refine ztn ?_
  refine w_iff H rfl ?_
  refine zsk (ztn ?_)
  exact ⟨(⟨p.c, fr, 0, 0, 0, true, [], 255, 1000, [64, 0, 0], 0, 0, none, 0, []⟩ : Un), H.keep (by kernel_rfl), (HP.subw [1, 2, 3, 4] [bx b_30 76 [(ii p.c), (ii fr), (ii 0), (ii 0), (ii 0), (.bool true), (.string (bstr ([]))), (ii 255), (ii 1000), (.string (bstr ([64, 0, 0]))), (ii 0), (ii 0), (.slice none 0 0)] true, bx bq 55 (pre ++ [(ii it), (ii ix)] ++ post) false, bx b_3 52 [(ii x0), (ii x1), (ii x2), (ii x3)] true, bx b_1 67 [(ii p.c), (ii p.nm), (ii 1), (ii 0), (.slice none 0 0), (ii 0), (ii 2), (ii p.len), (ii 1), (.slice p.IA 3 p.ic), (.slice none 0 0), (.slice none 0 0), (.slice none 0 0)] true] (by kernel_rfl) (by kernel_rfl)).untop, (by first | exact hpd | exact Nat.zero_le _), rfl⟩
 
 rintro a w_44 ⟨u, H, HP, hud, huf⟩
 refine zsq (zrg ?_)
 refine H.v 112 (pt b_3 3) fun a H => H.go HP 1 [(113, (ii x3))] [2] fun a H => ?_
 refine H.cl 114 (Tryz.call18 _ _) (pick_any x3 3 w_44 hx3 (by omega)) ?_
 rintro e w_46 ⟨rfl, hw⟩
 refine ⟨_, rfl, ?_⟩
 intro a H
 have HP := hw ▸ HP
 have hp_45 := pickI_lt x3 3 (by omega)
 refine H.wi 115 (2 + (pickI x3 3)) fun a H => H.go HP 1 [(116, (pt b_30 2))] [] fun a H => H.sh HP 0 2 (ii (2 + (pickI x3 3))) rfl fun w_47 a H HP => ?_
 refine znl (ztn ?_)
 refine w_cut (fun a wv => ∃ (v : Un), Sl 160 [(0, (pt bq o)), (2, (.slice LA lib.length lc)), (3, (ii fr)), (6, (pt b_1 0)), (9, (pt b_3 0)), (10, (.string (bstr ([])))), (11, (pt b_30 0))] a ∧ Hp w wv [bx b_30 76 [(ii v.channel), (ii v.frame), (ii v.version), (ii v.item), (ii v.index), (.bool v.key), (.string (bstr v.data)), (ii v.regions), (ii v.gain), (.string (bstr v.caption)), (ii v.os), (ii v.of), (.slice none 0 0)] true, bx bq 55 (pre ++ [(ii it), (ii ix)] ++ post) false, bx b_3 52 [(ii x0), (ii x1), (ii x2), (ii x3)] true, bx b_1 67 [(ii p.c), (ii p.nm), (ii 1), (ii 0), (.slice none 0 0), (ii 0), (ii 2), (ii p.len), (ii 1), (.slice p.IA 3 p.ic), (.slice none 0 0), (.slice none 0 0), (.slice none 0 0)] true] [laidK, astsK LA lib] ∧ (v.version ≤ 8) ∧ (v.al = [])) ?_ ?_
 ·
  refine zsq (zrg ?_)
  refine H.v 117 (pt b_3 0) fun a H => H.go HP 1 [(118, (ii x0))] [2] fun a H => ?_
  refine H.cl 119 (Tryz.call18 _ _) (pick_any x0 40 w_47 hx0 (by omega)) ?_
  rintro e w_49 ⟨rfl, hw⟩
  refine ⟨_, rfl, ?_⟩
  intro a H
  have HP := hw ▸ HP
  have hp_48 := pickI_lt x0 40 (by omega)
  refine znl (ztn (zbk (zsq (zrg ?_))))
  refine H.ge HP [(120, (.bool ((pickI x0 40) == 3)))] [] fun a H => ?_
  refine ztn ?_
  refine w_if H rfl (fun g120 => ?_) (fun g120 => ?_)
  ·have g120p := eq_of_beq g120
   refine zrg ?_
   refine H.go HP 1 [(122, (ii fr))] [] fun a H => H.wi 123 (fr - 1) fun a H => H.v 124 (pt b_3 1) fun a H => H.go HP 1 [(125, (ii x1))] [2] fun a H => ?_
   refine H.cl 126 (Tryz.call18 _ _) (pick_any x1 3 w_49 hx1 (by omega)) ?_
   rintro e w_51 ⟨rfl, hw⟩
   refine ⟨_, rfl, ?_⟩
   intro a H
   have HP := hw ▸ HP
   have hp_50 := pickI_lt x1 3 (by omega)
   refine H.wi 127 ((fr - 1) - (pickI x1 3)) fun a H => H.valE 128 (ii (if ((fr - 1) - (pickI x1 3)) > 0 then ((fr - 1) - (pickI x1 3)) else 0)) (ii (max 0 ((fr - 1) - (pickI x1 3)))) (by kernel_rfl) (by kernel_rfl) ((congrArg (Value.int .i64) (max_if _ _))) fun a H => H.go HP 1 [(129, (pt b_30 1))] [] fun a H => H.sh HP 0 1 (ii (max 0 ((fr - 1) - (pickI x1 3)))) rfl fun w_52 a H HP => ?_
   refine znl (zibn (ztn ?_))
   exact ⟨(⟨u.channel, max 0 ((fr - 1) - (pickI x1 3)), 2 + (pickI x3 3), u.item, u.index, u.key, u.data, u.regions, u.gain, u.caption, u.os, u.of, none, 0, []⟩ : Un), H.keep (by kernel_rfl), HP, (show 2 + (pickI x3 3) ≤ 8 from by omega), rfl⟩
  have g120p := ne_of_beq_false g120
  refine zsq (zrg ?_)
  refine H.ge HP [(130, (.bool ((pickI x0 40) == 4)))] [] fun a H => ?_
  refine ztn ?_
  refine w_if H rfl (fun g130 => ?_) (fun g130 => ?_)
  ·have g130p := eq_of_beq g130
   refine zrg ?_
   refine H.go HP 2 [(133, (.string (bstr u.data)))] [0] fun a H => H.u 134 (.string (bstr (u.data ++ ([120])))) (ex_sadd (by kernel_rfl) (by kernel_rfl) (by first | omega | (show u.data.length + 1 ≤ _; omega))) fun a H => H.go HP 1 [(135, (pt b_30 6))] [] fun a H => H.sh HP 0 6 (.string (bstr (u.data ++ ([120])))) rfl fun w_53 a H HP => ?_
   refine znl (zibn (ztn ?_))
   exact ⟨(⟨u.channel, u.frame, 2 + (pickI x3 3), u.item, u.index, u.key, u.data ++ ([120]), u.regions, u.gain, u.caption, u.os, u.of, none, 0, []⟩ : Un), H.keep (by kernel_rfl), HP, (show 2 + (pickI x3 3) ≤ 8 from by omega), rfl⟩
  have g130p := ne_of_beq_false g130
  refine zsq (zrg ?_)
  refine H.ge HP [(136, (.bool ((pickI x0 40) == 5)))] [] fun a H => ?_
  refine ztn ?_
  refine w_if H rfl (fun g136 => ?_) (fun g136 => ?_)
  ·have g136p := eq_of_beq g136
   refine zrg ?_
   refine H.go HP 2 [(139, (ii u.channel))] [0] fun a H => H.wi 140 (1 + u.channel) fun a H => H.go HP 1 [(141, (pt b_30 0))] [] fun a H => H.sh HP 0 0 (ii (1 + u.channel)) rfl fun w_54 a H HP => ?_
   refine znl (zibn (ztn ?_))
   exact ⟨(⟨1 + u.channel, u.frame, 2 + (pickI x3 3), u.item, u.index, u.key, u.data, u.regions, u.gain, u.caption, u.os, u.of, none, 0, []⟩ : Un), H.keep (by kernel_rfl), HP, (show 2 + (pickI x3 3) ≤ 8 from by omega), rfl⟩
  have g136p := ne_of_beq_false g136
  refine zsq (zrg ?_)
  refine H.ge HP [(142, (.bool ((pickI x0 40) == 6)))] [] fun a H => ?_
  refine ztn ?_
  refine w_if H rfl (fun g142 => ?_) (fun g142 => ?_)
  ·have g142p := eq_of_beq g142
   refine zrg ?_
   refine H.v 144 (pt b_3 1) fun a H => H.go HP 1 [(145, (ii x1))] [2] fun a H => ?_
   refine H.cl 146 (Tryz.call18 _ _) (pick_any x1 9 w_49 hx1 (by omega)) ?_
   rintro e w_56 ⟨rfl, hw⟩
   refine ⟨_, rfl, ?_⟩
   intro a H
   have HP := hw ▸ HP
   have hp_55 := pickI_lt x1 9 (by omega)
   refine H.go HP 1 [(147, (pt b_30 2))] [] fun a H => H.sh HP 0 2 (ii (pickI x1 9)) rfl fun w_57 a H HP => ?_
   refine znl (zibn (ztn ?_))
   exact ⟨(⟨u.channel, u.frame, pickI x1 9, u.item, u.index, u.key, u.data, u.regions, u.gain, u.caption, u.os, u.of, none, 0, []⟩ : Un), H.keep (by kernel_rfl), HP, (show pickI x1 9 ≤ 8 from by omega), rfl⟩
  have g142p := ne_of_beq_false g142
  refine zsq (zrg ?_)
  refine H.ge HP [(148, (.bool ((pickI x0 40) == 7)))] [] fun a H => ?_
  refine ztn ?_
  refine w_if H rfl (fun g148 => ?_) (fun g148 => ?_)
  ·have g148p := eq_of_beq g148
   refine zsq (zrg ?_)
   refine H.ge HP [(10, (.string (bstr ([]))))] [] fun a H => ?_
   refine ztn (zrt (zibr (ztr ?_)))
   refine H.r1 (.string (bstr ([]))) Tryz.results19 ?_
   have HP : Hp w w_49 [bx b_30 76 [(ii u.channel), (ii u.frame), (ii (2 + (pickI x3 3))), (ii u.item), (ii u.index), (.bool u.key), (.string (bstr u.data)), (ii u.regions), (ii u.gain), (.string (bstr u.caption)), (ii u.os), (ii u.of), (.slice none 0 0)] true, bx bq 55 (pre ++ [(ii it), (ii ix)] ++ post) false, bx b_3 52 [(ii x0), (ii x1), (ii x2), (ii x3)] true, bx b_1 67 [(ii p.c), (ii p.nm), (ii 1), (ii 0), (.slice none 0 0), (ii 0), (ii 2), (ii p.len), (ii 1), (.slice p.IA 3 p.ic), (.slice none 0 0), (.slice none 0 0), (.slice none 0 0)] true] [laidK, astsK LA lib] := HP
   exact ⟨[], it, ix, rfl, sent_nil _ _, hit2, hix2, HP.at_ 1 rfl, HP.only bq (by intro x hx; simp only [List.mem_cons, List.not_mem_nil, or_false] at hx; rcases hx with rfl | rfl | rfl | rfl; exact .inl rfl; exact .inr (fun k hk => hk); exact .inl rfl; exact .inl rfl)⟩
  have g148p := ne_of_beq_false g148
  refine zsq (zrg ?_)
  refine H.ge HP [(150, (.bool ((pickI x0 40) == 8)))] [] fun a H => ?_
  refine ztn ?_
  refine w_if H rfl (fun g150 => ?_) (fun g150 => ?_)
  ·have g150p := eq_of_beq g150
   refine zsq (zrg ?_)
   refine H.ge HP [(10, (.string (bstr ([103, 97, 114, 98, 97, 103, 101]))))] [] fun a H => ?_
   refine ztn (zrt (zibr (ztr ?_)))
   refine H.r1 (.string (bstr ([103, 97, 114, 98, 97, 103, 101]))) Tryz.results19 ?_
   have HP : Hp w w_49 [bx b_30 76 [(ii u.channel), (ii u.frame), (ii (2 + (pickI x3 3))), (ii u.item), (ii u.index), (.bool u.key), (.string (bstr u.data)), (ii u.regions), (ii u.gain), (.string (bstr u.caption)), (ii u.os), (ii u.of), (.slice none 0 0)] true, bx bq 55 (pre ++ [(ii it), (ii ix)] ++ post) false, bx b_3 52 [(ii x0), (ii x1), (ii x2), (ii x3)] true, bx b_1 67 [(ii p.c), (ii p.nm), (ii 1), (ii 0), (.slice none 0 0), (ii 0), (ii 2), (ii p.len), (ii 1), (.slice p.IA 3 p.ic), (.slice none 0 0), (.slice none 0 0), (.slice none 0 0)] true] [laidK, astsK LA lib] := HP
   exact ⟨[103, 97, 114, 98, 97, 103, 101], it, ix, rfl, sent_garb _ _, hit2, hix2, HP.at_ 1 rfl, HP.only bq (by intro x hx; simp only [List.mem_cons, List.not_mem_nil, or_false] at hx; rcases hx with rfl | rfl | rfl | rfl; exact .inl rfl; exact .inr (fun k hk => hk); exact .inl rfl; exact .inl rfl)⟩
  have g150p := ne_of_beq_false g150
  refine zsk (zibn (ztn ?_))
  exact ⟨(⟨u.channel, u.frame, 2 + (pickI x3 3), u.item, u.index, u.key, u.data, u.regions, u.gain, u.caption, u.os, u.of, none, 0, []⟩ : Un), H.keep (by kernel_rfl), HP, (show 2 + (pickI x3 3) ≤ 8 from by omega), rfl⟩
 
 rintro a w_58 ⟨v, H, HP, hvv, hva⟩
 refine zsq (zrg ?_)
 refine H.go HP 3 [(154, (.agg #[(ii p.nm), (ii 1)])), (155, (.agg #[(ii v.channel), (ii v.frame), (ii v.version), (ii v.item), (ii v.index), (.bool v.key), (.string (bstr v.data)), (ii v.regions), (ii v.gain), (.string (bstr v.caption)), (ii v.os), (ii v.of), (.slice none 0 0)]))] [3, 0] fun a H => H.cb HP 156 (Tryz.call28 _ _) ((by have hh := pack_any p.nm 1 (⟨v.channel, v.frame, v.version, v.item, v.index, v.key, v.data, v.regions, v.gain, v.caption, v.os, v.of, none, 0, []⟩ : Un) w_58 (HP.fact 0 rfl) (alts_nil _ _) (Nat.zero_le _); rw [packV_eq] at hh; exact hh)) fun w_59 hb a H HP => ?_
 refine H.ge HP [(14, (.string (bstr ((packP p.nm 1 (⟨v.channel, v.frame, v.version, v.item, v.index, v.key, v.data, v.regions, v.gain, v.caption, v.os, v.of, none, 0, []⟩ : Un)).getD []))))] [] fun a H => ?_
 refine ztn (zsq (zrg ?_))
 refine H.ge HP [(10, (.string (bstr ((packP p.nm 1 (⟨v.channel, v.frame, v.version, v.item, v.index, v.key, v.data, v.regions, v.gain, v.caption, v.os, v.of, none, 0, []⟩ : Un)).getD []))))] [] fun a H => ?_
 refine ztn (zrt ?_)
 refine H.r1 (.string (bstr ((packP p.nm 1 (⟨v.channel, v.frame, v.version, v.item, v.index, v.key, v.data, v.regions, v.gain, v.caption, v.os, v.of, none, 0, []⟩ : Un)).getD []))) Tryz.results19 ?_
 have HP : Hp w w_59 [bx b_30 76 [(ii v.channel), (ii v.frame), (ii v.version), (ii v.item), (ii v.index), (.bool v.key), (.string (bstr v.data)), (ii v.regions), (ii v.gain), (.string (bstr v.caption)), (ii v.os), (ii v.of), (.slice none 0 0)] true, bx bq 55 (pre ++ [(ii it), (ii ix)] ++ post) false, bx b_3 52 [(ii x0), (ii x1), (ii x2), (ii x3)] true, bx b_1 67 [(ii p.c), (ii p.nm), (ii 1), (ii 0), (.slice none 0 0), (ii 0), (ii 2), (ii p.len), (ii 1), (.slice p.IA 3 p.ic), (.slice none 0 0), (.slice none 0 0), (.slice none 0 0)] true] [laidK, astsK LA lib] := HP
 exact ⟨(packP p.nm 1 (⟨v.channel, v.frame, v.version, v.item, v.index, v.key, v.data, v.regions, v.gain, v.caption, v.os, v.of, none, 0, []⟩ : Un)).getD [], it, ix, rfl, sent_pack _ _ rfl hvv, hit2, hix2, HP.at_ 1 rfl, HP.only bq (by intro x hx; simp only [List.mem_cons, List.not_mem_nil, or_false] at hx; rcases hx with rfl | rfl | rfl | rfl; exact .inl rfl; exact .inr (fun k hk => hk); exact .inl rfl; exact .inl rfl)⟩
end Go.Proofs.YthpbaaadkhdifaaGreatDoor
