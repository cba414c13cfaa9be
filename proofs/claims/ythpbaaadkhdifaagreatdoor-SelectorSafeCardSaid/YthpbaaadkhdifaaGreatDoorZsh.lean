/- The statement SelectorSafe: for every input the law returns true and leaves its arguments as they were. No condition. -/
import Derived.Deep.Slices
import Derived.Deep.Fields
import Derived.ChangeSame
import Derived.ChangeArms
import Derived.SizedLaws
import Derived.OpenShut
import Derived.Test.YthpbaaadkhdifaaGreatDoorCards
import Derived.Test.YthpbaaadkhdifaaGreatDoorTie
import Derived.WalkKit
import Derived.ProofKit
import Derived.ShutString
import Derived.ChangeOld
import Derived.Below
import Derived.SevenTiedAt
import Derived.Test.YthpbaaadkhdifaaGreatDoorZsg
namespace Go.Proofs.YthpbaaadkhdifaaGreatDoor
set_option maxRecDepth 100000
set_option maxHeartbeats 4000000
open Go.ChangeShapes Go.WideShapes Go.ChangeAt Go.RowKit Go.Shelf
set_option linter.unusedVariables false
set_option linter.unusedSimpArgs false
theorem rel_new {hd hd1 : Bool} {at_ od at1 od1 mf mn lf ln : Int} {i : Int} (h : (hd = false ∧ lf = -100) ∨ (hd = true ∧ lf = at_ ∧ ln = od)) (hb : BeatOk hd at_ od i) (hr : recvP (hd, at_, od) mf mn = (hd1, at1, od1)) (h1 : 0 ≤ mf ∧ mf ≤ i) (h2 : 1 ≤ mn ∧ mn ≤ 3) (hg : mf > lf) : (hd1 = false ∧ mf = -100) ∨ (hd1 = true ∧ mf = at1 ∧ mn = od1) := by
 rw [recv_new h1.1 (by omega) (by rcases h with h | h; exact .inl h.1; exact .inr (by omega))] at hr
 cases hr
 exact .inr ⟨rfl, rfl, rfl⟩
theorem rel_old {hd hd1 : Bool} {at_ od at1 od1 mf mn lf ln : Int} {i : Int} (h : (hd = false ∧ lf = -100) ∨ (hd = true ∧ lf = at_ ∧ ln = od)) (hb : BeatOk hd at_ od i) (hr : recvP (hd, at_, od) mf mn = (hd1, at1, od1)) (h1 : 0 ≤ mf ∧ mf ≤ i) (h2 : 1 ≤ mn ∧ mn ≤ 3) (hg : ¬ mf > lf) : (hd1 = false ∧ lf = -100) ∨ (hd1 = true ∧ lf = at1 ∧ ln = od1) := by
 rcases h with h | ⟨e1, e2, e3⟩
 ·omega
 ·rw [recv_old (.inr (.inr ⟨e1, by omega⟩))] at hr
  cases hr
  exact .inr ⟨e1, e2, e3⟩
theorem rel_floor {hd : Bool} {at_ od lf ln : Int} (h : (hd = false ∧ lf = -100) ∨ (hd = true ∧ lf = at_ ∧ ln = od)) (hd1 : hd = true) : lf = at_ ∧ ln = od := by
 rcases h with h | h
 ·rw [hd1] at h; cases h.1
 ·exact h.2
theorem safe_law (XA : Option Addr) (xc : Nat) (xs : List Int) (AL : Option Addr) (cl : Nat) (l : List (Nat → Int)) (w : World) (hL : Laid w) (hxr : IsRow 1 i1C w XA xs) (hxi : ∀ n ∈ xs, in64 n) (hxl : xs.length ≤ 1000000000000000) (hlr : IsRow 9 ar9 w AL l) (hin : ∀ q ∈ l, ∀ k, in64 (q k)) (hll : l.length ≤ 1000000000000000) :
  Calls Tryz.prog 4 #[.slice XA xs.length xc, .slice AL l.length cl] w fun e w' => e = .returned (.bool true) ∧ Below w.heap.size w w' := by
 have HP := ((((Hp.start w).keepF (rowF 1 i1C XA xs) hxr (rowF_ok _ _ _ _) (fun k hk => ⟨hxr.lt k hk, fun x hx => by cases hx⟩)).keepF (rowF 9 ar9 AL l) hlr (rowF_ok _ _ _ _) (fun k hk => ⟨hlr.lt k hk, fun x hx => by cases hx⟩)).keepF laidK hL laidK_ok (fun k hk => ⟨hL.lt k hk, fun x hx => by cases hx⟩))
 refine w_enter 199 [(0, (.slice XA xs.length xc)), (1, (.slice AL l.length cl))] Tryz.func4 rfl Tryz.ntmps4 (by kernel_rfl) (by kernel_rfl) fun a H => ?_
 refine zsq (zrg ?_)
 refine H.ge HP [(4, (.bool false))] [] fun a H => ?_
 refine ztn (zsq (zrg ?_))
 refine H.cb HP 20 (Tryz.call10 _ _) (sane_any w (HP.fact 0 rfl)) fun w_1 hb a H HP => ?_
 refine H.ge HP [(5, (.bool true))] [] fun a H => ?_
 refine ztn (zsq (zrg ?_))
 refine H.go HP 1 [(21, (.slice XA xs.length xc))] [] fun a H => ?_
 refine H.cl 22 (Tryz.call11 _ _) (libraryL_any XA xc xs w_1 hxl hxi (HP.fact 2 rfl)) ?_
 rintro e w_2 ⟨LA, lc, li, rfl, hli, hlib, hb⟩
 refine ⟨_, rfl, ?_⟩
 intro a H
 have HP := (HP.next hb).keepF (astsK LA li) hlib (fun _ _ h hk hs => IsAsts.keep h hk hs) (fun k hk => ⟨IsAsts.lt hlib hk, fun x hx => by cases hx⟩)
 refine H.ge HP [(6, (.slice LA li.length lc))] [] fun a H => ?_
 refine ztn (zsq (zrg ?_))
 refine H.cl 23 (Tryz.call12 _ _) (plansL_any w_2) ?_
 rintro e w_3 ⟨AP, cp, I0, i0, I1, i1, rfl, hcp, hpr, hpi, hb⟩
 refine ⟨_, rfl, ?_⟩
 intro a H
 have HP := (((HP.next hb).keepF (itsK [(pl0 I0 i0), (pl1 I1 i1)]) hpi (itsK_ok _) (fun k hk => ⟨itsK_lt hpi hk, fun x hx => by cases hx⟩)).keepF (rowF 13 plnC AP [(pl0 I0 i0)]) (pl_take hpr) (rowF_ok _ _ _ _) (fun k hk => ⟨IsRow.lt (pl_take hpr) k hk, fun x hx => by cases hx⟩))
 refine H.u 24 (.slice AP 1 cp) (ex_sliceH (len := 2) (k := .i64) (m := 1) (sz := 13) (by kernel_rfl) (by kernel_rfl) (by kernel_rfl) (by kernel_rfl) rfl (by omega)) fun a H => ?_
 refine H.ge HP [(7, (.slice AP 1 cp))] [] fun a H => ?_
 refine ztn (zsq (zrg ?_))
 refine H.go HP 2 [(26, (.slice AP 1 cp)), (27, (.slice LA li.length lc))] [] fun a H => ?_
 refine H.cl 28 (Tryz.call13 _ _) (newL_any AP cp lc [(pl0 I0 i0)] LA li w_3 plOk0 hli (HP.fact 3 rfl) (its_0 (HP.fact 1 rfl)) (HP.fact 0 rfl) (HP.fact 2 rfl)) ?_
 rintro e w_4 ⟨bs, cs, kcs, Ss, kSs, ls, rests, rfl, hN, hbn⟩
 refine ⟨_, rfl, ?_⟩
 intro a H
 have HP := (HP.gainSel hN hbn : Hp w _ [bx bs 111 [(.slice (some ⟨cs, 0, none⟩) 1 kcs), (.slice Ss ls.length kSs), (.bool false), (ii 0), (ii 0)] true, bx cs 115 (flat chC [mkCh (pl0 I0 i0)] ++ rests) true] [astsK Ss ls, rowF 13 plnC AP [(pl0 I0 i0)], itsK [(pl0 I0 i0), (pl1 I1 i1)], astsK LA li, laidK, rowF 9 ar9 AL l, rowF 1 i1C XA xs])
 have h1s := hN.sel1 hli
 refine H.ge HP [(8, (pt bs 0)), (9, (ii 0))] [] fun a H => ?_
 refine ztn (zsq (zsq (zrg ?_)))
 refine H.ge HP [(32, (.bool false))] [] fun a H => ?_
 refine ztn ?_
 refine w_iff H rfl ?_
 refine zsk (ztn (zsq (zrg ?_)))
 refine H.alloc HP 33 (fun b => (.slice (some ⟨b, 0, none⟩) 2 2)) 55 [(ii 0), (ii 0), (ii 0), (ii 0)] (by kernel_rfl) (fun w => ex_make2 (n := 2) (size := 2) (bytes := 16) (z := .agg #[.int .i64 0, .int .i64 0]) (e := 55) (by kernel_rfl) (by kernel_rfl) (by kernel_rfl) (by kernel_rfl) (by decide) (by decide) (by decide) (by kernel_rfl)) fun cb w_5 a H HP => ?_
 refine H.ge HP [(10, (.slice (some ⟨cb, 0, none⟩) 2 2))] [] fun a H => ?_
 refine ztn (zsq (zrg ?_))
 refine H.go HP 1 [(34, (.agg #[(ii 0), (ii 0), (ii 0), (ii (-100)), (ii 0), (ii 0), (ii 0), (ii 0), (ii 0), (ii 0), (ii 0), (ii 0), (ii 0), (ii 0), (ii 0), (ii 0), (ii 0), (.slice none 0 0), (ii 0), (ii 0), (ii 0), (ii 0), (ii 0), (ii 0), (ii 0), (ii 0), (ii 0), (ii 0), (ii 0), (ii 0), (.string (bstr ([])))]))] [] fun a H => H.al HP 11 47 [(ii 0), (ii 0), (ii 0), (ii 0), (ii 0), (ii 0), (ii 0), (ii 0), (ii 0), (ii 0), (ii 0), (ii 0), (ii 0), (ii 0), (ii 0), (ii 0), (ii 0), (.slice none 0 0), (ii 0), (ii 0), (ii 0), (ii 0), (ii 0), (ii 0), (ii 0), (ii 0), (ii 0), (ii 0), (ii 0), (ii 0), (.string (bstr ([])))] fun b_6 w_7 a H HP => H.st HP 0 b_6 0 31 47 true (.agg #[(ii 0), (ii 0), (ii 0), (ii (-100)), (ii 0), (ii 0), (ii 0), (ii 0), (ii 0), (ii 0), (ii 0), (ii 0), (ii 0), (ii 0), (ii 0), (ii 0), (ii 0), (.slice none 0 0), (ii 0), (ii 0), (ii 0), (ii 0), (ii 0), (ii 0), (ii 0), (ii 0), (ii 0), (ii 0), (ii 0), (ii 0), (.string (bstr ([])))]) [bx b_6 47 [(ii 0), (ii 0), (ii 0), (ii (-100)), (ii 0), (ii 0), (ii 0), (ii 0), (ii 0), (ii 0), (ii 0), (ii 0), (ii 0), (ii 0), (ii 0), (ii 0), (ii 0), (.slice none 0 0), (ii 0), (ii 0), (ii 0), (ii 0), (ii 0), (ii 0), (ii 0), (ii 0), (ii 0), (ii 0), (ii 0), (ii 0), (.string (bstr ([])))] true, bx cb 55 [(ii 0), (ii 0), (ii 0), (ii 0)] true, bx bs 111 [(.slice (some ⟨cs, 0, none⟩) 1 kcs), (.slice Ss ls.length kSs), (.bool false), (ii 0), (ii 0)] true, bx cs 115 (flat chC [mkCh (pl0 I0 i0)] ++ rests) true] rfl fun w_8 a H HP => ?_
 refine znl (ztn (zsq (zsq (zrg ?_))))
 refine H.ge HP [(12, (ii 0))] [] fun a H => ?_
 refine ztn (zbk ?_)
 obtain ⟨bp, op, hApl0⟩ := pl_at (q := (pl0 I0 i0)) (HP.fact 1 rfl : IsRow 13 plnC _ AP [(pl0 I0 i0)])
 refine w_loop (fun mm a wv => ∃ (i : Nat), ∃ (hd : Bool), ∃ (at_ : Int), ∃ (od : Int), ∃ (c : Ch), ∃ (t0 : Int), ∃ (x0 : Int), ∃ (t1 : Int), ∃ (x1 : Int), ∃ (lk : Int), ∃ (lt : Int), ∃ (lf : Int), ∃ (ln : Int), l.length - i = mm ∧ Sl 199 [(12, (ii i)), (0, (.slice XA xs.length xc)), (1, (.slice AL l.length cl)), (5, (.bool true)), (6, (.slice LA li.length lc)), (7, (.slice AP 1 cp)), (8, (pt bs 0)), (10, (.slice (some ⟨cb, 0, none⟩) 2 2)), (11, (pt b_6 0))] a ∧ Hp w wv [bx b_6 47 [(ii lk), (ii lt), (ii 0), (ii lf), (ii ln), (ii 0), (ii 0), (ii 0), (ii 0), (ii 0), (ii 0), (ii 0), (ii 0), (ii 0), (ii 0), (ii 0), (ii 0), (.slice none 0 0), (ii 0), (ii 0), (ii 0), (ii 0), (ii 0), (ii 0), (ii 0), (ii 0), (ii 0), (ii 0), (ii 0), (ii 0), (.string (bstr ([])))] true, bx cb 55 [(ii t0), (ii x0), (ii t1), (ii x1)] true, bx bs 111 [(.slice (some ⟨cs, 0, none⟩) 1 kcs), (.slice Ss ls.length kSs), (.bool hd), (ii at_), (ii od)] true, bx cs 115 (flat chC [c] ++ rests) true] [astsK Ss ls, rowF 13 plnC AP [(pl0 I0 i0)], itsK [(pl0 I0 i0), (pl1 I1 i1)], astsK LA li, laidK, rowF 9 ar9 AL l, rowF 1 i1C XA xs] ∧ (i ≤ l.length) ∧ (i ≤ 50) ∧ (BeatOk hd at_ od (i : Int)) ∧ (ChOk 50 3 c) ∧ ((0 ≤ t0 ∧ t0 ≤ 8) ∧ (0 ≤ t1 ∧ t1 ≤ 8) ∧ (0 ≤ x0 ∧ x0 ≤ 29 + (i : Int)) ∧ (0 ≤ x1 ∧ x1 ≤ 29 + (i : Int))) ∧ ((hd = false ∧ lf = -100) ∨ (hd = true ∧ lf = at_ ∧ ln = od))) (l.length - 0) ?_ ?_
 ·exact ⟨0, false, 0, 0, mkCh (pl0 I0 i0), 0, 0, 0, 0, 0, 0, -100, 0, (by omega), H.keep (by kernel_rfl), (HP.subw [0, 1, 2, 3] [bx b_6 47 [(ii 0), (ii 0), (ii 0), (ii (-100)), (ii 0), (ii 0), (ii 0), (ii 0), (ii 0), (ii 0), (ii 0), (ii 0), (ii 0), (ii 0), (ii 0), (ii 0), (ii 0), (.slice none 0 0), (ii 0), (ii 0), (ii 0), (ii 0), (ii 0), (ii 0), (ii 0), (ii 0), (ii 0), (ii 0), (ii 0), (ii 0), (.string (bstr ([])))] true, bx cb 55 [(ii 0), (ii 0), (ii 0), (ii 0)] true, bx bs 111 [(.slice (some ⟨cs, 0, none⟩) 1 kcs), (.slice Ss ls.length kSs), (.bool false), (ii 0), (ii 0)] true, bx cs 115 (flat chC [mkCh (pl0 I0 i0)] ++ rests) true] (by kernel_rfl) (by kernel_rfl)), (Nat.zero_le _), (Nat.zero_le _), beat_zero, (ch_ok0 (pl0 I0 i0)), (by omega), (.inl ⟨rfl, rfl⟩)⟩
 rintro mm a w_9 ⟨i, hd, at_, od, c, t0, x0, t1, x1, lk, lt, lf, ln, hmeas, H, HP, hil, hi50, hbo, hc, hcu, hrel⟩
 refine zsq (zsq (zrg ?_))
 refine H.go HP 5 [(39, (.bool (decide ((i : Int) < (l.length : Int)))))] [] fun a H => ?_
 refine H.split 39 rfl (fun g39 H => ?_) (fun g39 H => ?_)
 ·have g39p := of_decide_eq_true g39
  refine H.ge HP [(42, (.bool (decide ((i : Int) < 50))))] [] fun a H => ?_
  refine ztn ?_
  refine w_if H rfl (fun g42 => ?_) (fun g42 => ?_)
  ·have g42p := of_decide_eq_true g42
   refine zsk (ztn (zsq (zbk (zsq ?_))))
   obtain ⟨bL, oL, q, hAL, _, _, hq, hqm, _⟩ := IsRow.get ar9_size (HP.fact 5 rfl) (i := i) (by omega)
   have hqi := hin q hqm
   refine zrg ?_
   refine H.go HP 3 [(46, (ii i)), (47, (.slice AL l.length cl)), (48, (ii i))] [] fun a H => H.u 49 (.pointer (some ⟨bL, oL + i * 9, none⟩)) (ex_indexA (b := bL) (off := oL) (len := l.length) (cap := cl) (e := 50) (k := 9) (ik := .i64) (i := (i : Int)) (m := i) hAL (by kernel_rfl) (by kernel_rfl) rfl (by omega) (by kernel_rfl) (by kernel_rfl)) fun a H => H.v 50 (.pointer (some ⟨bL, oL + i * 9 + 8, none⟩)) fun a H => H.u 51 (ii (q 8)) (ex_l1 (IsRow.cells ar9_size (HP.fact 5 rfl : IsRow 9 ar9 _ AL l) hAL hq 8 _ rfl)) fun a H => ?_
   refine H.cl 52 (Tryz.call15 _ _) (beatL_any (i : Int) (q 8) w_9 (by omega) (hqi 8)) ?_
   rintro e w_10 ⟨mf, mn, isb, rfl, hmf, hmn, hb⟩
   refine ⟨_, rfl, ?_⟩
   intro a H
   have HP := HP.next hb
   refine H.go HP 3 [(53, (.agg #[(ii 3), (ii 2), (ii 0), (ii mf), (ii mn), (ii 0), (ii 0), (ii 0), (ii 0), (ii 0), (ii 0), (ii 0), (ii 0), (ii 0), (ii 0), (ii 0), (ii 0), (.slice none 0 0), (ii 0), (ii 0), (ii 0), (ii 0), (ii 0), (ii 0), (ii 0), (ii 0), (ii 0), (ii 0), (ii 0), (ii 0), (.string (bstr ([])))])), (54, (.bool isb))] [] fun a H => H.al HP 13 47 [(ii 0), (ii 0), (ii 0), (ii 0), (ii 0), (ii 0), (ii 0), (ii 0), (ii 0), (ii 0), (ii 0), (ii 0), (ii 0), (ii 0), (ii 0), (ii 0), (ii 0), (.slice none 0 0), (ii 0), (ii 0), (ii 0), (ii 0), (ii 0), (ii 0), (ii 0), (ii 0), (ii 0), (ii 0), (ii 0), (ii 0), (.string (bstr ([])))] fun b_11 w_12 a H HP => H.st HP 0 b_11 0 31 47 true (.agg #[(ii 3), (ii 2), (ii 0), (ii mf), (ii mn), (ii 0), (ii 0), (ii 0), (ii 0), (ii 0), (ii 0), (ii 0), (ii 0), (ii 0), (ii 0), (ii 0), (ii 0), (.slice none 0 0), (ii 0), (ii 0), (ii 0), (ii 0), (ii 0), (ii 0), (ii 0), (ii 0), (ii 0), (ii 0), (ii 0), (ii 0), (.string (bstr ([])))]) [bx b_11 47 [(ii 3), (ii 2), (ii 0), (ii mf), (ii mn), (ii 0), (ii 0), (ii 0), (ii 0), (ii 0), (ii 0), (ii 0), (ii 0), (ii 0), (ii 0), (ii 0), (ii 0), (.slice none 0 0), (ii 0), (ii 0), (ii 0), (ii 0), (ii 0), (ii 0), (ii 0), (ii 0), (ii 0), (ii 0), (ii 0), (ii 0), (.string (bstr ([])))] true, bx b_6 47 [(ii lk), (ii lt), (ii 0), (ii lf), (ii ln), (ii 0), (ii 0), (ii 0), (ii 0), (ii 0), (ii 0), (ii 0), (ii 0), (ii 0), (ii 0), (ii 0), (ii 0), (.slice none 0 0), (ii 0), (ii 0), (ii 0), (ii 0), (ii 0), (ii 0), (ii 0), (ii 0), (ii 0), (ii 0), (ii 0), (ii 0), (.string (bstr ([])))] true, bx cb 55 [(ii t0), (ii x0), (ii t1), (ii x1)] true, bx bs 111 [(.slice (some ⟨cs, 0, none⟩) 1 kcs), (.slice Ss ls.length kSs), (.bool hd), (ii at_), (ii od)] true, bx cs 115 (flat chC [c] ++ rests) true] rfl fun w_13 a H HP => ?_
   refine H.ge HP [(14, (.bool isb))] [] fun a H => ?_
   refine ztn ?_
   refine w_cut (fun a wv => ∃ (hd2 : Bool), ∃ (at2 : Int), ∃ (od2 : Int), ∃ (lk2 : Int), ∃ (lt2 : Int), ∃ (lf2 : Int), ∃ (ln2 : Int), Sl 199 [(0, (.slice XA xs.length xc)), (1, (.slice AL l.length cl)), (5, (.bool true)), (6, (.slice LA li.length lc)), (7, (.slice AP 1 cp)), (8, (pt bs 0)), (10, (.slice (some ⟨cb, 0, none⟩) 2 2)), (11, (pt b_6 0)), (12, (ii i))] a ∧ Hp w wv [bx b_6 47 [(ii lk2), (ii lt2), (ii 0), (ii lf2), (ii ln2), (ii 0), (ii 0), (ii 0), (ii 0), (ii 0), (ii 0), (ii 0), (ii 0), (ii 0), (ii 0), (ii 0), (ii 0), (.slice none 0 0), (ii 0), (ii 0), (ii 0), (ii 0), (ii 0), (ii 0), (ii 0), (ii 0), (ii 0), (ii 0), (ii 0), (ii 0), (.string (bstr ([])))] true, bx bs 111 [(.slice (some ⟨cs, 0, none⟩) 1 kcs), (.slice Ss ls.length kSs), (.bool hd2), (ii at2), (ii od2)] true, bx cb 55 [(ii t0), (ii x0), (ii t1), (ii x1)] true, bx cs 115 (flat chC [c] ++ rests) true] [astsK Ss ls, rowF 13 plnC AP [(pl0 I0 i0)], itsK [(pl0 I0 i0), (pl1 I1 i1)], astsK LA li, laidK, rowF 9 ar9 AL l, rowF 1 i1C XA xs] ∧ (BeatOk hd2 at2 od2 (i : Int)) ∧ ((hd2 = false ∧ lf2 = -100) ∨ (hd2 = true ∧ lf2 = at2 ∧ ln2 = od2))) ?_ ?_
   ·
    refine zsq (zrg ?_)
    refine H.ge HP [(55, (.bool isb))] [] fun a H => ?_
    refine ztn ?_
    refine w_if H rfl (fun g55 => ?_) (fun g55 => ?_)
    ·have g55p := g55
     refine zsq (zrg ?_)
     refine H.go HP 2 [(56, (pt bs 0)), (57, (.agg #[(ii 3), (ii 2), (ii 0), (ii mf), (ii mn), (ii 0), (ii 0), (ii 0), (ii 0), (ii 0), (ii 0), (ii 0), (ii 0), (ii 0), (ii 0), (ii 0), (ii 0), (.slice none 0 0), (ii 0), (ii 0), (ii 0), (ii 0), (ii 0), (ii 0), (ii 0), (ii 0), (ii 0), (ii 0), (ii 0), (ii 0), (.string (bstr ([])))]))] [0] fun a H => ?_
     obtain ⟨hd1, at1, od1, hr1⟩ : ∃ x y z, recvP (hd, at_, od) mf mn = (x, y, z) := ⟨_, _, _, rfl⟩
     refine H.cl 58 (Tryz.call16 _ _) (receive_any bs cs 1 kcs Ss ls.length kSs hd at_ od 2 mf mn w_13 (HP.at_ 3 rfl) (by decide)) ?_
     rintro e w_14 ⟨rfl, hbx, hgr⟩
     refine ⟨_, rfl, ?_⟩
     intro a H
     have HP := (HP.changed 3 rfl [(.slice (some ⟨cs, 0, none⟩) 1 kcs), (.slice Ss ls.length kSs), (.bool hd1), (ii at1), (ii od1)] [bx b_11 47 [(ii 3), (ii 2), (ii 0), (ii mf), (ii mn), (ii 0), (ii 0), (ii 0), (ii 0), (ii 0), (ii 0), (ii 0), (ii 0), (ii 0), (ii 0), (ii 0), (ii 0), (.slice none 0 0), (ii 0), (ii 0), (ii 0), (ii 0), (ii 0), (ii 0), (ii 0), (ii 0), (ii 0), (ii 0), (ii 0), (ii 0), (.string (bstr ([])))] true, bx b_6 47 [(ii lk), (ii lt), (ii 0), (ii lf), (ii ln), (ii 0), (ii 0), (ii 0), (ii 0), (ii 0), (ii 0), (ii 0), (ii 0), (ii 0), (ii 0), (ii 0), (ii 0), (.slice none 0 0), (ii 0), (ii 0), (ii 0), (ii 0), (ii 0), (ii 0), (ii 0), (ii 0), (ii 0), (ii 0), (ii 0), (ii 0), (.string (bstr ([])))] true, bx cb 55 [(ii t0), (ii x0), (ii t1), (ii x1)] true, bx bs 111 [(.slice (some ⟨cs, 0, none⟩) 1 kcs), (.slice Ss ls.length kSs), (.bool hd1), (ii at1), (ii od1)] true, bx cs 115 (flat chC [c] ++ rests) true] (by kernel_rfl) hgr (by have hh := hbx; rw [hr1] at hh; exact hh))
     refine znl (ztn (zsq (zrg ?_)))
     refine H.ge HP [(63, (.bool (decide (mf > lf))))] [0, 1] fun a H => ?_
     refine ztn ?_
     refine w_if H rfl (fun g63 => ?_) (fun g63 => ?_)
     ·have g63p := of_decide_eq_true g63
      refine zrg ?_
      refine H.go HP 1 [(64, (.agg #[(ii 3), (ii 2), (ii 0), (ii mf), (ii mn), (ii 0), (ii 0), (ii 0), (ii 0), (ii 0), (ii 0), (ii 0), (ii 0), (ii 0), (ii 0), (ii 0), (ii 0), (.slice none 0 0), (ii 0), (ii 0), (ii 0), (ii 0), (ii 0), (ii 0), (ii 0), (ii 0), (ii 0), (ii 0), (ii 0), (ii 0), (.string (bstr ([])))]))] [0] fun a H => H.st HP 1 b_6 0 31 47 true (.agg #[(ii 3), (ii 2), (ii 0), (ii mf), (ii mn), (ii 0), (ii 0), (ii 0), (ii 0), (ii 0), (ii 0), (ii 0), (ii 0), (ii 0), (ii 0), (ii 0), (ii 0), (.slice none 0 0), (ii 0), (ii 0), (ii 0), (ii 0), (ii 0), (ii 0), (ii 0), (ii 0), (ii 0), (ii 0), (ii 0), (ii 0), (.string (bstr ([])))]) [bx b_11 47 [(ii 3), (ii 2), (ii 0), (ii mf), (ii mn), (ii 0), (ii 0), (ii 0), (ii 0), (ii 0), (ii 0), (ii 0), (ii 0), (ii 0), (ii 0), (ii 0), (ii 0), (.slice none 0 0), (ii 0), (ii 0), (ii 0), (ii 0), (ii 0), (ii 0), (ii 0), (ii 0), (ii 0), (ii 0), (ii 0), (ii 0), (.string (bstr ([])))] true, bx b_6 47 [(ii 3), (ii 2), (ii 0), (ii mf), (ii mn), (ii 0), (ii 0), (ii 0), (ii 0), (ii 0), (ii 0), (ii 0), (ii 0), (ii 0), (ii 0), (ii 0), (ii 0), (.slice none 0 0), (ii 0), (ii 0), (ii 0), (ii 0), (ii 0), (ii 0), (ii 0), (ii 0), (ii 0), (ii 0), (ii 0), (ii 0), (.string (bstr ([])))] true, bx cb 55 [(ii t0), (ii x0), (ii t1), (ii x1)] true, bx bs 111 [(.slice (some ⟨cs, 0, none⟩) 1 kcs), (.slice Ss ls.length kSs), (.bool hd1), (ii at1), (ii od1)] true, bx cs 115 (flat chC [c] ++ rests) true] rfl fun w_15 a H HP => ?_
      refine znl (ztn ?_)
      exact ⟨hd1, at1, od1, 3, 2, mf, mn, H.keep (by kernel_rfl), (HP.subw [1, 3, 2, 4] [bx b_6 47 [(ii 3), (ii 2), (ii 0), (ii mf), (ii mn), (ii 0), (ii 0), (ii 0), (ii 0), (ii 0), (ii 0), (ii 0), (ii 0), (ii 0), (ii 0), (ii 0), (ii 0), (.slice none 0 0), (ii 0), (ii 0), (ii 0), (ii 0), (ii 0), (ii 0), (ii 0), (ii 0), (ii 0), (ii 0), (ii 0), (ii 0), (.string (bstr ([])))] true, bx bs 111 [(.slice (some ⟨cs, 0, none⟩) 1 kcs), (.slice Ss ls.length kSs), (.bool hd1), (ii at1), (ii od1)] true, bx cb 55 [(ii t0), (ii x0), (ii t1), (ii x1)] true, bx cs 115 (flat chC [c] ++ rests) true] (by kernel_rfl) (by kernel_rfl)), (recv_ok hbo hr1 hmf (by omega)), (rel_new hrel hbo hr1 hmf hmn (by omega))⟩
     have g63p := of_decide_eq_false g63
     refine zsk (ztn ?_)
     exact ⟨hd1, at1, od1, lk, lt, lf, ln, H.keep (by kernel_rfl), (HP.subw [1, 3, 2, 4] [bx b_6 47 [(ii lk), (ii lt), (ii 0), (ii lf), (ii ln), (ii 0), (ii 0), (ii 0), (ii 0), (ii 0), (ii 0), (ii 0), (ii 0), (ii 0), (ii 0), (ii 0), (ii 0), (.slice none 0 0), (ii 0), (ii 0), (ii 0), (ii 0), (ii 0), (ii 0), (ii 0), (ii 0), (ii 0), (ii 0), (ii 0), (ii 0), (.string (bstr ([])))] true, bx bs 111 [(.slice (some ⟨cs, 0, none⟩) 1 kcs), (.slice Ss ls.length kSs), (.bool hd1), (ii at1), (ii od1)] true, bx cb 55 [(ii t0), (ii x0), (ii t1), (ii x1)] true, bx cs 115 (flat chC [c] ++ rests) true] (by kernel_rfl) (by kernel_rfl)), (recv_ok hbo hr1 hmf (by omega)), (rel_old hrel hbo hr1 hmf hmn (by omega))⟩
    have g55p := g55
    refine zsk (ztn ?_)
    exact ⟨hd, at_, od, lk, lt, lf, ln, H.keep (by kernel_rfl), (HP.subw [1, 3, 2, 4] [bx b_6 47 [(ii lk), (ii lt), (ii 0), (ii lf), (ii ln), (ii 0), (ii 0), (ii 0), (ii 0), (ii 0), (ii 0), (ii 0), (ii 0), (ii 0), (ii 0), (ii 0), (ii 0), (.slice none 0 0), (ii 0), (ii 0), (ii 0), (ii 0), (ii 0), (ii 0), (ii 0), (ii 0), (ii 0), (ii 0), (ii 0), (ii 0), (.string (bstr ([])))] true, bx bs 111 [(.slice (some ⟨cs, 0, none⟩) 1 kcs), (.slice Ss ls.length kSs), (.bool hd), (ii at_), (ii od)] true, bx cb 55 [(ii t0), (ii x0), (ii t1), (ii x1)] true, bx cs 115 (flat chC [c] ++ rests) true] (by kernel_rfl) (by kernel_rfl)), hbo, hrel⟩
   
   rintro a w_16 ⟨hd2, at2, od2, lk2, lt2, lf2, ln2, H, HP, hbo2, hrel2⟩
   have hbb0 := hbo2.a0; have hbb1 := hbo2.a1
   refine zsq ?_
   have HP := HP.front 2 rfl _ rfl
   refine An.start (fun v => Hp w v [bx b_6 47 [(ii lk2), (ii lt2), (ii 0), (ii lf2), (ii ln2), (ii 0), (ii 0), (ii 0), (ii 0), (ii 0), (ii 0), (ii 0), (ii 0), (ii 0), (ii 0), (ii 0), (ii 0), (.slice none 0 0), (ii 0), (ii 0), (ii 0), (ii 0), (ii 0), (ii 0), (ii 0), (ii 0), (ii 0), (ii 0), (ii 0), (ii 0), (.string (bstr ([])))] true, bx bs 111 [(.slice (some ⟨cs, 0, none⟩) 1 kcs), (.slice Ss ls.length kSs), (.bool hd2), (ii at2), (ii od2)] true, bx cs 115 (flat chC [c] ++ rests) true] [astsK Ss ls, rowF 13 plnC AP [(pl0 I0 i0)], itsK [(pl0 I0 i0), (pl1 I1 i1)], astsK LA li, laidK, rowF 9 ar9 AL l, rowF 1 i1C XA xs]) 30 30 HP wide_follows rfl fun w_17 HP => ?_
   refine An.go H (.inr ((HP.tail rfl))) 29 [0] [(65, (.slice (some ⟨cb, 0, none⟩) 2 2))] [] fun a H => ?_
   refine An.q H (.inr ((HP.tail rfl))) 1 66 (pt cb 0) (fun _ => ex_index (b := cb) (off := 0) (len := 2) (cap := 2) (e := 55) (k := 2) (ik := .i64) (i := 0) (m := 0) (by kernel_rfl) (by kernel_rfl) rfl (by decide) (by kernel_rfl) (by kernel_rfl)) fun a H => ?_
   refine An.go H (.inr ((HP.tail rfl))) 27 [2] [(67, (.slice AP 1 cp))] [] fun a H => ?_
   refine An.q H (.inr ((HP.tail rfl))) 3 68 (.pointer (some ⟨bp, op + 0 * 13, none⟩)) (fun _ => ex_indexA (b := bp) (off := op) (len := 1) (cap := cp) (e := 67) (k := 13) (ik := .i64) (i := 0) (m := 0) hApl0 (by kernel_rfl) (by kernel_rfl) rfl (by decide) (by kernel_rfl) (by kernel_rfl)) fun a H => ?_
   refine An.vw H ((HP.tail rfl)) 4 69 (.agg #[(ii 3), (ii 50), (ii 1), (ii 0), (.slice none 0 0), (ii 0), (ii 2), (ii 500), (ii 1), (.slice I0 3 i0), (.slice none 0 0), (.slice none 0 0), (.slice none 0 0)]) (fun _ hS => ex_lN [(ii 3), (ii 50), (ii 1), (ii 0), (.slice none 0 0), (ii 0), (ii 2), (ii 500), (ii 1), (.slice I0 3 i0), (.slice none 0 0), (.slice none 0 0), (.slice none 0 0)] (IsRow.cells plnC_size (hS.fact 1 rfl : IsRow 13 plnC _ AP [(pl0 I0 i0)]) hApl0 (i := 0) (x := (pl0 I0 i0)) rfl)) fun a H => ?_
   refine An.go H (.inr ((HP.tail rfl))) 21 [5, 6, 7, 8] [(70, (.slice LA li.length lc)), (71, (ii i)), (72, (.slice AL l.length cl)), (73, (ii i))] [] fun a H => ?_
   refine An.q H (.inr ((HP.tail rfl))) 9 74 (.pointer (some ⟨bL, oL + i * 9, none⟩)) (fun _ => ex_indexA (b := bL) (off := oL) (len := l.length) (cap := cl) (e := 50) (k := 9) (ik := .i64) (i := (i : Int)) (m := i) hAL (by kernel_rfl) (by kernel_rfl) rfl (by omega) (by kernel_rfl) (by kernel_rfl)) fun a H => ?_
   refine An.p H (.inr ((HP.tail rfl))) 10 75 (.pointer (some ⟨bL, oL + i * 9, none⟩)) fun a H => ?_
   refine An.vw H ((HP.tail rfl)) 11 76 (ii (q 0)) (fun _ hS => ex_l1 (IsRow.cells ar9_size (hS.fact 5 rfl : IsRow 9 ar9 _ AL l) hAL hq 0 _ rfl)) fun a H => ?_
   refine An.go H (.inr ((HP.tail rfl))) 16 [12, 13] [(77, (.slice AL l.length cl)), (78, (ii i))] [] fun a H => ?_
   refine An.q H (.inr ((HP.tail rfl))) 14 79 (.pointer (some ⟨bL, oL + i * 9, none⟩)) (fun _ => ex_indexA (b := bL) (off := oL) (len := l.length) (cap := cl) (e := 50) (k := 9) (ik := .i64) (i := (i : Int)) (m := i) hAL (by kernel_rfl) (by kernel_rfl) rfl (by omega) (by kernel_rfl) (by kernel_rfl)) fun a H => ?_
   refine An.p H (.inr ((HP.tail rfl))) 15 80 (.pointer (some ⟨bL, oL + i * 9 + 1, none⟩)) fun a H => ?_
   refine An.vw H ((HP.tail rfl)) 16 81 (ii (q 1)) (fun _ hS => ex_l1 (IsRow.cells ar9_size (hS.fact 5 rfl : IsRow 9 ar9 _ AL l) hAL hq 1 _ rfl)) fun a H => ?_
   refine An.go H (.inr ((HP.tail rfl))) 11 [17, 18] [(82, (.slice AL l.length cl)), (83, (ii i))] [] fun a H => ?_
   refine An.q H (.inr ((HP.tail rfl))) 19 84 (.pointer (some ⟨bL, oL + i * 9, none⟩)) (fun _ => ex_indexA (b := bL) (off := oL) (len := l.length) (cap := cl) (e := 50) (k := 9) (ik := .i64) (i := (i : Int)) (m := i) hAL (by kernel_rfl) (by kernel_rfl) rfl (by omega) (by kernel_rfl) (by kernel_rfl)) fun a H => ?_
   refine An.p H (.inr ((HP.tail rfl))) 20 85 (.pointer (some ⟨bL, oL + i * 9 + 2, none⟩)) fun a H => ?_
   refine An.vw H ((HP.tail rfl)) 21 86 (ii (q 2)) (fun _ hS => ex_l1 (IsRow.cells ar9_size (hS.fact 5 rfl : IsRow 9 ar9 _ AL l) hAL hq 2 _ rfl)) fun a H => ?_
   refine An.go H (.inr ((HP.tail rfl))) 6 [22, 23] [(87, (.slice AL l.length cl)), (88, (ii i))] [] fun a H => ?_
   refine An.q H (.inr ((HP.tail rfl))) 24 89 (.pointer (some ⟨bL, oL + i * 9, none⟩)) (fun _ => ex_indexA (b := bL) (off := oL) (len := l.length) (cap := cl) (e := 50) (k := 9) (ik := .i64) (i := (i : Int)) (m := i) hAL (by kernel_rfl) (by kernel_rfl) rfl (by omega) (by kernel_rfl) (by kernel_rfl)) fun a H => ?_
   refine An.p H (.inr ((HP.tail rfl))) 25 90 (.pointer (some ⟨bL, oL + i * 9 + 3, none⟩)) fun a H => ?_
   refine An.vw H ((HP.tail rfl)) 26 91 (ii (q 3)) (fun _ hS => ex_l1 (IsRow.cells ar9_size (hS.fact 5 rfl : IsRow 9 ar9 _ AL l) hAL hq 3 _ rfl)) fun a H => ?_
   refine An.go H (.inr ((HP.tail rfl))) 2 [27] [(92, (.agg #[(ii (q 0)), (ii (q 1)), (ii (q 2)), (ii (q 3))]))] [] fun a H => ?_
   refine An.one 28 (by kernel_rfl) ?_
   refine Op.call H 93 rfl (by kernel_rfl) (Eq.trans (by kernel_rfl : _ = (callFunc 19 #[(pt cb 0), (.agg #[(ii 3), (ii 50), (ii 1), (ii 0), (.slice none 0 0), (ii 0), (ii 2), (ii 500), (ii 1), (.slice I0 3 i0), (.slice none 0 0), (.slice none 0 0), (.slice none 0 0)]), (.slice LA li.length lc), (ii i), (.agg #[(ii (q 0)), (ii (q 1)), (ii (q 2)), (ii (q 3))])]).run Tryz.prog w_17) (Tryz.call19 _ _)) (sent0_any cb 0 lc (pl0 I0 i0) LA li (i : Int) (q 0) (q 1) (q 2) (q 3) t0 x0 [] [(ii t1), (ii x1)] w_17 rfl (by omega) pl0_ok1.1 (hqi 0) (hqi 1) (hqi 2) (hqi 3) (by omega) (by omega) (HP.factNo 3 0 rfl rfl) (HP.ge2 4 0 rfl rfl) (HP.fact 4 rfl) (HP.fact 3 rfl) hli.max hli.pl hli.dl (HP.at_ 0 rfl)) ?_
   rintro e w_18 ⟨s1, it1, ix1, rfl, hsn1, hit1, hix1, hbx, hgr⟩
   refine ⟨_, rfl, ?_⟩
   intro a H
   have HP := (HP.changed 0 rfl [(ii it1), (ii ix1), (ii t1), (ii x1)] [bx cb 55 [(ii it1), (ii ix1), (ii t1), (ii x1)] true, bx b_6 47 [(ii lk2), (ii lt2), (ii 0), (ii lf2), (ii ln2), (ii 0), (ii 0), (ii 0), (ii 0), (ii 0), (ii 0), (ii 0), (ii 0), (ii 0), (ii 0), (ii 0), (ii 0), (.slice none 0 0), (ii 0), (ii 0), (ii 0), (ii 0), (ii 0), (ii 0), (ii 0), (ii 0), (ii 0), (ii 0), (ii 0), (ii 0), (.string (bstr ([])))] true, bx bs 111 [(.slice (some ⟨cs, 0, none⟩) 1 kcs), (.slice Ss ls.length kSs), (.bool hd2), (ii at2), (ii od2)] true, bx cs 115 (flat chC [c] ++ rests) true] (by kernel_rfl) hgr hbx)
   refine ⟨.inr ((HP.tail rfl)), ?_⟩
   refine An.go H (.inr ((HP.tail rfl))) 0 [29] [(15, (.string (bstr s1)))] [] fun a H => ?_
   refine An.done (by kernel_rfl) ?_
   refine ztn (zsq ?_)
   have HP := HP.front 0 rfl _ rfl
   refine An.start (fun v => Hp w v [bx b_6 47 [(ii lk2), (ii lt2), (ii 0), (ii lf2), (ii ln2), (ii 0), (ii 0), (ii 0), (ii 0), (ii 0), (ii 0), (ii 0), (ii 0), (ii 0), (ii 0), (ii 0), (ii 0), (.slice none 0 0), (ii 0), (ii 0), (ii 0), (ii 0), (ii 0), (ii 0), (ii 0), (ii 0), (ii 0), (ii 0), (ii 0), (ii 0), (.string (bstr ([])))] true, bx bs 111 [(.slice (some ⟨cs, 0, none⟩) 1 kcs), (.slice Ss ls.length kSs), (.bool hd2), (ii at2), (ii od2)] true, bx cs 115 (flat chC [c] ++ rests) true] [astsK Ss ls, rowF 13 plnC AP [(pl0 I0 i0)], itsK [(pl0 I0 i0), (pl1 I1 i1)], astsK LA li, laidK, rowF 9 ar9 AL l, rowF 1 i1C XA xs]) 30 30 HP wide_follows rfl fun w_19 HP => ?_
   refine An.go H (.inr ((HP.tail rfl))) 29 [0] [(94, (.slice (some ⟨cb, 0, none⟩) 2 2))] [] fun a H => ?_
   refine An.q H (.inr ((HP.tail rfl))) 1 95 (pt cb 2) (fun _ => ex_index (b := cb) (off := 0) (len := 2) (cap := 2) (e := 55) (k := 2) (ik := .i64) (i := 1) (m := 1) (by kernel_rfl) (by kernel_rfl) rfl (by decide) (by kernel_rfl) (by kernel_rfl)) fun a H => ?_
   refine An.go H (.inr ((HP.tail rfl))) 27 [2] [(96, (.slice AP 1 cp))] [] fun a H => ?_
   refine An.q H (.inr ((HP.tail rfl))) 3 97 (.pointer (some ⟨bp, op + 0 * 13, none⟩)) (fun _ => ex_indexA (b := bp) (off := op) (len := 1) (cap := cp) (e := 67) (k := 13) (ik := .i64) (i := 0) (m := 0) hApl0 (by kernel_rfl) (by kernel_rfl) rfl (by decide) (by kernel_rfl) (by kernel_rfl)) fun a H => ?_
   refine An.vw H ((HP.tail rfl)) 4 98 (.agg #[(ii 3), (ii 50), (ii 1), (ii 0), (.slice none 0 0), (ii 0), (ii 2), (ii 500), (ii 1), (.slice I0 3 i0), (.slice none 0 0), (.slice none 0 0), (.slice none 0 0)]) (fun _ hS => ex_lN [(ii 3), (ii 50), (ii 1), (ii 0), (.slice none 0 0), (ii 0), (ii 2), (ii 500), (ii 1), (.slice I0 3 i0), (.slice none 0 0), (.slice none 0 0), (.slice none 0 0)] (IsRow.cells plnC_size (hS.fact 1 rfl : IsRow 13 plnC _ AP [(pl0 I0 i0)]) hApl0 (i := 0) (x := (pl0 I0 i0)) rfl)) fun a H => ?_
   refine An.go H (.inr ((HP.tail rfl))) 21 [5, 6, 7, 8] [(99, (.slice LA li.length lc)), (100, (ii i)), (101, (.slice AL l.length cl)), (102, (ii i))] [] fun a H => ?_
   refine An.q H (.inr ((HP.tail rfl))) 9 103 (.pointer (some ⟨bL, oL + i * 9, none⟩)) (fun _ => ex_indexA (b := bL) (off := oL) (len := l.length) (cap := cl) (e := 50) (k := 9) (ik := .i64) (i := (i : Int)) (m := i) hAL (by kernel_rfl) (by kernel_rfl) rfl (by omega) (by kernel_rfl) (by kernel_rfl)) fun a H => ?_
   refine An.p H (.inr ((HP.tail rfl))) 10 104 (.pointer (some ⟨bL, oL + i * 9 + 4, none⟩)) fun a H => ?_
   refine An.vw H ((HP.tail rfl)) 11 105 (ii (q 4)) (fun _ hS => ex_l1 (IsRow.cells ar9_size (hS.fact 5 rfl : IsRow 9 ar9 _ AL l) hAL hq 4 _ rfl)) fun a H => ?_
   refine An.go H (.inr ((HP.tail rfl))) 16 [12, 13] [(106, (.slice AL l.length cl)), (107, (ii i))] [] fun a H => ?_
   refine An.q H (.inr ((HP.tail rfl))) 14 108 (.pointer (some ⟨bL, oL + i * 9, none⟩)) (fun _ => ex_indexA (b := bL) (off := oL) (len := l.length) (cap := cl) (e := 50) (k := 9) (ik := .i64) (i := (i : Int)) (m := i) hAL (by kernel_rfl) (by kernel_rfl) rfl (by omega) (by kernel_rfl) (by kernel_rfl)) fun a H => ?_
   refine An.p H (.inr ((HP.tail rfl))) 15 109 (.pointer (some ⟨bL, oL + i * 9 + 5, none⟩)) fun a H => ?_
   refine An.vw H ((HP.tail rfl)) 16 110 (ii (q 5)) (fun _ hS => ex_l1 (IsRow.cells ar9_size (hS.fact 5 rfl : IsRow 9 ar9 _ AL l) hAL hq 5 _ rfl)) fun a H => ?_
   refine An.go H (.inr ((HP.tail rfl))) 11 [17, 18] [(111, (.slice AL l.length cl)), (112, (ii i))] [] fun a H => ?_
   refine An.q H (.inr ((HP.tail rfl))) 19 113 (.pointer (some ⟨bL, oL + i * 9, none⟩)) (fun _ => ex_indexA (b := bL) (off := oL) (len := l.length) (cap := cl) (e := 50) (k := 9) (ik := .i64) (i := (i : Int)) (m := i) hAL (by kernel_rfl) (by kernel_rfl) rfl (by omega) (by kernel_rfl) (by kernel_rfl)) fun a H => ?_
   refine An.p H (.inr ((HP.tail rfl))) 20 114 (.pointer (some ⟨bL, oL + i * 9 + 6, none⟩)) fun a H => ?_
   refine An.vw H ((HP.tail rfl)) 21 115 (ii (q 6)) (fun _ hS => ex_l1 (IsRow.cells ar9_size (hS.fact 5 rfl : IsRow 9 ar9 _ AL l) hAL hq 6 _ rfl)) fun a H => ?_
   refine An.go H (.inr ((HP.tail rfl))) 6 [22, 23] [(116, (.slice AL l.length cl)), (117, (ii i))] [] fun a H => ?_
   refine An.q H (.inr ((HP.tail rfl))) 24 118 (.pointer (some ⟨bL, oL + i * 9, none⟩)) (fun _ => ex_indexA (b := bL) (off := oL) (len := l.length) (cap := cl) (e := 50) (k := 9) (ik := .i64) (i := (i : Int)) (m := i) hAL (by kernel_rfl) (by kernel_rfl) rfl (by omega) (by kernel_rfl) (by kernel_rfl)) fun a H => ?_
   refine An.p H (.inr ((HP.tail rfl))) 25 119 (.pointer (some ⟨bL, oL + i * 9 + 7, none⟩)) fun a H => ?_
   refine An.vw H ((HP.tail rfl)) 26 120 (ii (q 7)) (fun _ hS => ex_l1 (IsRow.cells ar9_size (hS.fact 5 rfl : IsRow 9 ar9 _ AL l) hAL hq 7 _ rfl)) fun a H => ?_
   refine An.go H (.inr ((HP.tail rfl))) 2 [27] [(121, (.agg #[(ii (q 4)), (ii (q 5)), (ii (q 6)), (ii (q 7))]))] [] fun a H => ?_
   refine An.one 28 (by kernel_rfl) ?_
   refine Op.call H 122 rfl (by kernel_rfl) (Eq.trans (by kernel_rfl : _ = (callFunc 19 #[(pt cb 2), (.agg #[(ii 3), (ii 50), (ii 1), (ii 0), (.slice none 0 0), (ii 0), (ii 2), (ii 500), (ii 1), (.slice I0 3 i0), (.slice none 0 0), (.slice none 0 0), (.slice none 0 0)]), (.slice LA li.length lc), (ii i), (.agg #[(ii (q 4)), (ii (q 5)), (ii (q 6)), (ii (q 7))])]).run Tryz.prog w_19) (Tryz.call19 _ _)) (sent0_any cb 2 lc (pl0 I0 i0) LA li (i : Int) (q 4) (q 5) (q 6) (q 7) t1 x1 [(ii it1), (ii ix1)] [] w_19 rfl (by omega) pl0_ok1.1 (hqi 4) (hqi 5) (hqi 6) (hqi 7) (by omega) (by omega) (HP.factNo 3 0 rfl rfl) (HP.ge2 4 0 rfl rfl) (HP.fact 4 rfl) (HP.fact 3 rfl) hli.max hli.pl hli.dl (HP.at_ 0 rfl)) ?_
   rintro e w_20 ⟨s2, it2, ix2, rfl, hsn2, hit2, hix2, hbx, hgr⟩
   refine ⟨_, rfl, ?_⟩
   intro a H
   have HP := (HP.changed 0 rfl [(ii it1), (ii ix1), (ii it2), (ii ix2)] [bx cb 55 [(ii it1), (ii ix1), (ii it2), (ii ix2)] true, bx b_6 47 [(ii lk2), (ii lt2), (ii 0), (ii lf2), (ii ln2), (ii 0), (ii 0), (ii 0), (ii 0), (ii 0), (ii 0), (ii 0), (ii 0), (ii 0), (ii 0), (ii 0), (ii 0), (.slice none 0 0), (ii 0), (ii 0), (ii 0), (ii 0), (ii 0), (ii 0), (ii 0), (ii 0), (ii 0), (ii 0), (ii 0), (ii 0), (.string (bstr ([])))] true, bx bs 111 [(.slice (some ⟨cs, 0, none⟩) 1 kcs), (.slice Ss ls.length kSs), (.bool hd2), (ii at2), (ii od2)] true, bx cs 115 (flat chC [c] ++ rests) true] (by kernel_rfl) hgr hbx)
   refine ⟨.inr ((HP.tail rfl)), ?_⟩
   refine An.go H (.inr ((HP.tail rfl))) 0 [29] [(16, (.string (bstr s2)))] [] fun a H => ?_
   refine An.done (by kernel_rfl) ?_
   refine ztn (zsq (zrg ?_))
   refine H.go HP 3 [(123, (pt bs 0)), (124, (ii i)), (125, (.string (bstr s1)))] [] fun a H => H.alloc HP 126 (fun b => (.slice (some ⟨b, 0, none⟩) 1 1)) 9 [(.string (bstr s1))] (by kernel_rfl) (fun w => by kernel_rfl) fun b_21 w_22 a H HP => H.go HP 1 [(127, (.string (bstr s2)))] [] fun a H => H.alloc HP 128 (fun b => (.slice (some ⟨b, 0, none⟩) 1 1)) 9 [(.string (bstr s2))] (by kernel_rfl) (fun w => by kernel_rfl) fun b_23 w_24 a H HP => ?_
   refine H.cl 129 (Tryz.call20 _ _) (chooseL1 bs cs kcs kSs Ss h1s hd2 at2 od2 (i : Int) rests c hc (some ⟨b_21, 0, none⟩) (some ⟨b_23, 0, none⟩) 1 1 [s1] [s2] w_24 (rows_ok hsn1.ok) (rows_ok hsn2.ok) (by omega) (by omega) (HP.ne 4 5 rfl rfl (by decide)) (HP.factNo 0 5 rfl rfl) (HP.ge2 4 5 rfl rfl) (rowFp_ne (HP.ne 1 5 rfl rfl (by decide))) (rowFp_ne (HP.ne 0 5 rfl rfl (by decide))) (HP.fact 4 rfl) (HP.fact 0 rfl) (HP.at_ 4 rfl) (HP.at_ 5 rfl) (str1 (HP.at_ 1 rfl)) (str1 (HP.at_ 0 rfl))) ?_
   rintro e w_25 ⟨A1, k1, u1, g1, tk1, B1, d1, rfl, hch1, hal1, hrw1, hnw1, hbx, hgr⟩
   refine ⟨_, rfl, ?_⟩
   intro a H
   have HP := (HP.changedRow 5 rfl (flat chC [chN c u1 g1 tk1] ++ rests) [bx b_23 9 [(.string (bstr s2))] true, bx b_21 9 [(.string (bstr s1))] true, bx cb 55 [(ii it1), (ii ix1), (ii it2), (ii ix2)] true, bx b_6 47 [(ii lk2), (ii lt2), (ii 0), (ii lf2), (ii ln2), (ii 0), (ii 0), (ii 0), (ii 0), (ii 0), (ii 0), (ii 0), (ii 0), (ii 0), (ii 0), (ii 0), (ii 0), (.slice none 0 0), (ii 0), (ii 0), (ii 0), (ii 0), (ii 0), (ii 0), (ii 0), (ii 0), (ii 0), (ii 0), (ii 0), (ii 0), (.string (bstr ([])))] true, bx bs 111 [(.slice (some ⟨cs, 0, none⟩) 1 kcs), (.slice Ss ls.length kSs), (.bool hd2), (ii at2), (ii od2)] true, bx cs 115 (flat chC [chN c u1 g1 tk1] ++ rests) true] (by kernel_rfl) hgr hbx hrw1 hnw1)
   obtain ⟨bu1, ou1, hAu1⟩ := row_at unC_size hrw1
   refine H.ge HP [(17, (.slice A1 1 k1))] [] fun a H => ?_
   refine ztn (zsq (zsq ?_))
   refine An.start (fun v => Hp w v [bx b_23 9 [(.string (bstr s2))] true, bx b_21 9 [(.string (bstr s1))] true, bx cb 55 [(ii it1), (ii ix1), (ii it2), (ii ix2)] true, bx b_6 47 [(ii lk2), (ii lt2), (ii 0), (ii lf2), (ii ln2), (ii 0), (ii 0), (ii 0), (ii 0), (ii 0), (ii 0), (ii 0), (ii 0), (ii 0), (ii 0), (ii 0), (ii 0), (.slice none 0 0), (ii 0), (ii 0), (ii 0), (ii 0), (ii 0), (ii 0), (ii 0), (ii 0), (ii 0), (ii 0), (ii 0), (ii 0), (.string (bstr ([])))] true, bx bs 111 [(.slice (some ⟨cs, 0, none⟩) 1 kcs), (.slice Ss ls.length kSs), (.bool hd2), (ii at2), (ii od2)] true, bx cs 115 (flat chC [chN c u1 g1 tk1] ++ rests) true] [rowF 13 unC A1 [uv u1 B1 d1], astsK Ss ls, rowF 13 plnC AP [(pl0 I0 i0)], itsK [(pl0 I0 i0), (pl1 I1 i1)], astsK LA li, laidK, rowF 9 ar9 AL l, rowF 1 i1C XA xs]) 30 30 HP wide_follows rfl fun w_26 HP => ?_
   refine An.go H (.inr (HP)) 25 [0, 1, 2, 3, 4] [(133, (.bool false)), (134, (.slice A1 1 k1))] [] fun a H => ?_
   refine An.q H (.inr (HP)) 5 135 (.pointer (some ⟨bu1, ou1 + 0 * 13, none⟩)) (fun _ => ex_indexA (b := bu1) (off := ou1) (len := 1) (cap := k1) (e := 76) (k := 13) (ik := .i64) (i := 0) (m := 0) hAu1 (by kernel_rfl) (by kernel_rfl) rfl (by decide) (by kernel_rfl) (by kernel_rfl)) fun a H => ?_
   refine An.go H (.inr (HP)) 23 [6] [(136, (.pointer (some ⟨bu1, ou1 + 0 * 13 + 1, none⟩)))] [] fun a H => ?_
   refine An.vw H (HP) 7 137 (ii u1.frame) (fun _ hS => ex_l1 (IsRow.cells unC_size (hS.fact 0 rfl : IsRow 13 unC _ A1 [uv u1 B1 d1]) hAu1 (i := 0) (x := uv u1 B1 d1) rfl 1 _ rfl)) fun a H => ?_
   refine An.go H (.inr (HP)) 21 [8] [(138, (ii i))] [] fun a H => ?_
   refine An.pureE H (.inr (HP)) 9 139 (.bool (u1.frame != (i : Int))) (.bool false) rfl (by kernel_rfl) (by kernel_rfl) (fun _ _ _ h => h) (fun _ => by kernel_rfl) ((congrArg Value.bool (by rw [hch1.fr]; simp))) fun a H => ?_
   refine An.go H (.inr (HP)) 17 [10, 11, 12] [(141, (.bool false)), (142, (.slice A1 1 k1))] [] fun a H => ?_
   refine An.q H (.inr (HP)) 13 143 (.pointer (some ⟨bu1, ou1 + 0 * 13, none⟩)) (fun _ => ex_indexA (b := bu1) (off := ou1) (len := 1) (cap := k1) (e := 76) (k := 13) (ik := .i64) (i := 0) (m := 0) hAu1 (by kernel_rfl) (by kernel_rfl) rfl (by decide) (by kernel_rfl) (by kernel_rfl)) fun a H => ?_
   refine An.go H (.inr (HP)) 15 [14] [(144, (.pointer (some ⟨bu1, ou1 + 0 * 13, none⟩)))] [] fun a H => ?_
   refine An.vw H (HP) 15 145 (ii u1.channel) (fun _ hS => ex_l1 (IsRow.cells unC_size (hS.fact 0 rfl : IsRow 13 unC _ A1 [uv u1 B1 d1]) hAu1 (i := 0) (x := uv u1 B1 d1) rfl 0 _ rfl)) fun a H => ?_
   refine An.go H (.inr (HP)) 13 [16] [(146, (.slice AP 1 cp))] [] fun a H => ?_
   refine An.q H (.inr (HP)) 17 147 (.pointer (some ⟨bp, op + 0 * 13, none⟩)) (fun _ => ex_indexA (b := bp) (off := op) (len := 1) (cap := cp) (e := 67) (k := 13) (ik := .i64) (i := 0) (m := 0) hApl0 (by kernel_rfl) (by kernel_rfl) rfl (by decide) (by kernel_rfl) (by kernel_rfl)) fun a H => ?_
   refine An.go H (.inr (HP)) 11 [18] [(148, (.pointer (some ⟨bp, op + 0 * 13, none⟩)))] [] fun a H => ?_
   refine An.vw H (HP) 19 149 (ii 3) (fun _ hS => ex_l1 (IsRow.cells plnC_size (hS.fact 2 rfl : IsRow 13 plnC _ AP [(pl0 I0 i0)]) hApl0 (i := 0) (x := (pl0 I0 i0)) rfl 0 _ rfl)) fun a H => ?_
   refine An.pureE H (.inr (HP)) 20 150 (.bool (u1.channel != 3)) (.bool false) rfl (by kernel_rfl) (by kernel_rfl) (fun _ _ _ h => h) (fun _ => by kernel_rfl) ((congrArg Value.bool (by rw [hch1.ch, hc.nb]; rfl))) fun a H => ?_
   refine An.go H (.inr (HP)) 5 [21, 22, 23, 24] [(152, (.bool false)), (153, (.slice LA li.length lc)), (154, (.slice A1 1 k1))] [] fun a H => ?_
   refine An.q H (.inr (HP)) 25 155 (.pointer (some ⟨bu1, ou1 + 0 * 13, none⟩)) (fun _ => ex_indexA (b := bu1) (off := ou1) (len := 1) (cap := k1) (e := 76) (k := 13) (ik := .i64) (i := 0) (m := 0) hAu1 (by kernel_rfl) (by kernel_rfl) rfl (by decide) (by kernel_rfl) (by kernel_rfl)) fun a H => ?_
   refine An.vw H (HP) 26 156 (.agg #[(ii u1.channel), (ii u1.frame), (ii u1.version), (ii u1.item), (ii u1.index), (.bool u1.key), (.string (bstr u1.data)), (ii u1.regions), (ii u1.gain), (.string (bstr u1.caption)), (ii u1.os), (ii u1.of), (.slice B1 0 d1)]) (fun _ hS => ex_lN [(ii u1.channel), (ii u1.frame), (ii u1.version), (ii u1.item), (ii u1.index), (.bool u1.key), (.string (bstr u1.data)), (ii u1.regions), (ii u1.gain), (.string (bstr u1.caption)), (ii u1.os), (ii u1.of), (.slice B1 0 d1)] (IsRow.cells unC_size (hS.fact 0 rfl : IsRow 13 unC _ A1 [uv u1 B1 d1]) hAu1 (i := 0) (x := uv u1 B1 d1) rfl)) fun a H => ?_
   refine An.one 27 (by kernel_rfl) ?_
   refine Op.call H 157 rfl (by kernel_rfl) (Eq.trans (by kernel_rfl : _ = (callFunc 27 #[(.slice LA li.length lc), (.agg #[(ii u1.channel), (ii u1.frame), (ii u1.version), (ii u1.item), (ii u1.index), (.bool u1.key), (.string (bstr u1.data)), (ii u1.regions), (ii u1.gain), (.string (bstr u1.caption)), (ii u1.os), (ii u1.of), (.slice B1 0 d1)])]).run Tryz.prog w_26) (Tryz.call27 _ _)) ((by have hh := genuine_any LA lc li (uv u1 B1 d1) w_26 (HP.fact 4 rfl) hli.max hli.pl; rw [show genuineP li (uv u1 B1 d1) = true from hch1.gen] at hh; exact hh)) ?_
   rintro e w_27 ⟨rfl, hb⟩
   refine ⟨_, rfl, ?_⟩
   intro a H
   have HP := HP.next hb
   refine ⟨.inr (HP), ?_⟩
   refine An.go H (.inr (HP)) 0 [28, 29] [(159, (.bool false))] [] fun a H => ?_
   refine An.done (by kernel_rfl) ?_
   refine ztn ?_
   refine w_iff H rfl ?_
   refine zsk (ztn (zsq (zsq (zrg ?_))))
   refine H.go HP 1 [(160, (.slice A1 1 k1))] [] fun a H => H.u 161 (.pointer (some ⟨bu1, ou1 + 0 * 13, none⟩)) (ex_indexA (b := bu1) (off := ou1) (len := 1) (cap := k1) (e := 76) (k := 13) (ik := .i64) (i := 0) (m := 0) hAu1 (by kernel_rfl) (by kernel_rfl) rfl (by decide) (by kernel_rfl) (by kernel_rfl)) fun a H => H.go HP 1 [(162, (.pointer (some ⟨bu1, ou1 + 0 * 13 + 3, none⟩)))] [] fun a H => H.u 163 (ii u1.item) (ex_l1 (IsRow.cells unC_size (HP.fact 0 rfl : IsRow 13 unC _ A1 [uv u1 B1 d1]) hAu1 (i := 0) (x := uv u1 B1 d1) rfl 3 _ rfl)) fun a H => ?_
   refine H.ge HP [(164, (.bool (u1.item == 0)))] [] fun a H => ?_
   refine ztn ?_
   refine w_if H rfl (fun g164 => ?_) (fun g164 => ?_)
   ·have g164p := eq_of_beq g164
    refine wp_exit (then_exit ?_)
    refine w_exit_here ?_
    refine ztn (zrg ?_)
    refine H.go HP 1 [(43, (ii i))] [] fun a H => H.wi 44 ((i : Int) + 1) fun a H => ?_
    refine H.ge HP [(12, (ii ((i : Int) + 1)))] [] fun a H => ?_
    refine ztn ?_
    have H := H.as 12 (ii ((i + 1 : Nat) : Int)) rfl rfl
    refine ⟨_, ?_, i + 1, hd2, at2, od2, (chN c u1 g1 tk1), it1, ix1, it2, ix2, lk2, lt2, lf2, ln2, rfl, H.keep (by kernel_rfl), (HP.subw [3, 2, 4, 5] [bx b_6 47 [(ii lk2), (ii lt2), (ii 0), (ii lf2), (ii ln2), (ii 0), (ii 0), (ii 0), (ii 0), (ii 0), (ii 0), (ii 0), (ii 0), (ii 0), (ii 0), (ii 0), (ii 0), (.slice none 0 0), (ii 0), (ii 0), (ii 0), (ii 0), (ii 0), (ii 0), (ii 0), (ii 0), (ii 0), (ii 0), (ii 0), (ii 0), (.string (bstr ([])))] true, bx cb 55 [(ii it1), (ii ix1), (ii it2), (ii ix2)] true, bx bs 111 [(.slice (some ⟨cs, 0, none⟩) 1 kcs), (.slice Ss ls.length kSs), (.bool hd2), (ii at2), (ii od2)] true, bx cs 115 (flat chC [chN c u1 g1 tk1] ++ rests) true] (by kernel_rfl) (by kernel_rfl)).untop, (by omega), (by omega), (beat_more hbo2), (hch1.ok hc), (by omega), hrel2⟩
    omega
   have g164p := ne_of_beq_false g164
   refine zsk (ztn (zsq (zsq ?_)))
   obtain ⟨sx, fx, hsx, hun, hfl, hfv⟩ := hch1.src.resolve_left g164p
   obtain ⟨hf1, hf2, hf3, hf4⟩ := floor_in hfl
   obtain ⟨hl1, hl2⟩ := rel_floor hrel2 hf1
   have hbb := hbo2.a0
   rw [hc.num, hc.den] at hun
   have hpk := (pack_uv (B := B1) (d := d1) hal1).trans (pack_unpack hun)
   refine An.start (fun v => Hp w v [bx b_23 9 [(.string (bstr s2))] true, bx b_21 9 [(.string (bstr s1))] true, bx cb 55 [(ii it1), (ii ix1), (ii it2), (ii ix2)] true, bx b_6 47 [(ii lk2), (ii lt2), (ii 0), (ii lf2), (ii ln2), (ii 0), (ii 0), (ii 0), (ii 0), (ii 0), (ii 0), (ii 0), (ii 0), (ii 0), (ii 0), (ii 0), (ii 0), (.slice none 0 0), (ii 0), (ii 0), (ii 0), (ii 0), (ii 0), (ii 0), (ii 0), (ii 0), (ii 0), (ii 0), (ii 0), (ii 0), (.string (bstr ([])))] true, bx bs 111 [(.slice (some ⟨cs, 0, none⟩) 1 kcs), (.slice Ss ls.length kSs), (.bool hd2), (ii at2), (ii od2)] true, bx cs 115 (flat chC [chN c u1 g1 tk1] ++ rests) true] [rowF 13 unC A1 [uv u1 B1 d1], astsK Ss ls, rowF 13 plnC AP [(pl0 I0 i0)], itsK [(pl0 I0 i0), (pl1 I1 i1)], astsK LA li, laidK, rowF 9 ar9 AL l, rowF 1 i1C XA xs]) 14 14 HP wide_follows rfl fun w_28 HP => ?_
   refine An.go H (.inr (HP)) 11 [0, 1, 2] [(165, (ii i)), (167, (ii lf2))] [3] fun a H => ?_
   refine An.pureE H (.inr (HP)) 3 168 (ii (IntKind.i64.wrap ((i : Int) - lf2))) (ii ((i : Int) - lf2)) rfl (by kernel_rfl) (by kernel_rfl) (fun _ _ _ h => h) (fun _ => by kernel_rfl) ((by rw [wrap_ini64 _ (by omega)])) fun a H => ?_
   refine An.pureE H (.inr (HP)) 4 169 (.bool (decide ((i : Int) - lf2 > 8))) (.bool false) rfl (by kernel_rfl) (by kernel_rfl) (fun _ _ _ h => h) (fun _ => by kernel_rfl) ((congrArg Value.bool (decide_eq_false (by omega)))) fun a H => ?_
   refine An.go H (.inr (HP)) 7 [5, 6] [(170, (.bool false)), (171, (.slice A1 1 k1))] [] fun a H => ?_
   refine An.q H (.inr (HP)) 7 172 (.pointer (some ⟨bu1, ou1 + 0 * 13, none⟩)) (fun _ => ex_indexA (b := bu1) (off := ou1) (len := 1) (cap := k1) (e := 76) (k := 13) (ik := .i64) (i := 0) (m := 0) hAu1 (by kernel_rfl) (by kernel_rfl) rfl (by decide) (by kernel_rfl) (by kernel_rfl)) fun a H => ?_
   refine An.go H (.inr (HP)) 5 [8] [(173, (.pointer (some ⟨bu1, ou1 + 0 * 13 + 2, none⟩)))] [] fun a H => ?_
   refine An.vw H (HP) 9 174 (ii u1.version) (fun _ hS => ex_l1 (IsRow.cells unC_size (hS.fact 0 rfl : IsRow 13 unC _ A1 [uv u1 B1 d1]) hAu1 (i := 0) (x := uv u1 B1 d1) rfl 2 _ rfl)) fun a H => ?_
   refine An.go H (.inr (HP)) 2 [10, 11] [(176, (ii ln2))] [3] fun a H => ?_
   refine An.pureE H (.inr (HP)) 12 177 (.bool (decide (u1.version < ln2))) (.bool false) rfl (by kernel_rfl) (by kernel_rfl) (fun _ _ _ h => h) (fun _ => by kernel_rfl) ((congrArg Value.bool (decide_eq_false (by omega)))) fun a H => ?_
   refine An.go H (.inr (HP)) 0 [13] [(178, (.bool false))] [] fun a H => ?_
   refine An.done (by kernel_rfl) ?_
   refine ztn ?_
   refine w_iff H rfl ?_
   refine zsk (ztn (zsq ?_))
   refine An.start (fun v => Hp w v [bx b_23 9 [(.string (bstr s2))] true, bx b_21 9 [(.string (bstr s1))] true, bx cb 55 [(ii it1), (ii ix1), (ii it2), (ii ix2)] true, bx b_6 47 [(ii lk2), (ii lt2), (ii 0), (ii lf2), (ii ln2), (ii 0), (ii 0), (ii 0), (ii 0), (ii 0), (ii 0), (ii 0), (ii 0), (ii 0), (ii 0), (ii 0), (ii 0), (.slice none 0 0), (ii 0), (ii 0), (ii 0), (ii 0), (ii 0), (ii 0), (ii 0), (ii 0), (ii 0), (ii 0), (ii 0), (ii 0), (.string (bstr ([])))] true, bx bs 111 [(.slice (some ⟨cs, 0, none⟩) 1 kcs), (.slice Ss ls.length kSs), (.bool hd2), (ii at2), (ii od2)] true, bx cs 115 (flat chC [chN c u1 g1 tk1] ++ rests) true] [rowF 13 unC A1 [uv u1 B1 d1], astsK Ss ls, rowF 13 plnC AP [(pl0 I0 i0)], itsK [(pl0 I0 i0), (pl1 I1 i1)], astsK LA li, laidK, rowF 9 ar9 AL l, rowF 1 i1C XA xs]) 13 13 HP wide_follows rfl fun w_29 HP => ?_
   refine An.go H (.inr (HP)) 12 [0] [(180, (.slice AP 1 cp))] [] fun a H => ?_
   refine An.q H (.inr (HP)) 1 181 (.pointer (some ⟨bp, op + 0 * 13, none⟩)) (fun _ => ex_indexA (b := bp) (off := op) (len := 1) (cap := cp) (e := 67) (k := 13) (ik := .i64) (i := 0) (m := 0) hApl0 (by kernel_rfl) (by kernel_rfl) rfl (by decide) (by kernel_rfl) (by kernel_rfl)) fun a H => ?_
   refine An.go H (.inr (HP)) 10 [2] [(182, (.pointer (some ⟨bp, op + 0 * 13 + 1, none⟩)))] [] fun a H => ?_
   refine An.vw H (HP) 3 183 (.agg #[(ii 50), (ii 1)]) (fun _ hS => ex_lN [(ii 50), (ii 1)] (cells_sub (IsRow.cells plnC_size (hS.fact 2 rfl : IsRow 13 plnC _ AP [(pl0 I0 i0)]) hApl0 (i := 0) (x := (pl0 I0 i0)) rfl) 1 2)) fun a H => ?_
   refine An.go H (.inr (HP)) 8 [4] [(184, (.slice A1 1 k1))] [] fun a H => ?_
   refine An.q H (.inr (HP)) 5 185 (.pointer (some ⟨bu1, ou1 + 0 * 13, none⟩)) (fun _ => ex_indexA (b := bu1) (off := ou1) (len := 1) (cap := k1) (e := 76) (k := 13) (ik := .i64) (i := 0) (m := 0) hAu1 (by kernel_rfl) (by kernel_rfl) rfl (by decide) (by kernel_rfl) (by kernel_rfl)) fun a H => ?_
   refine An.vw H (HP) 6 186 (.agg #[(ii u1.channel), (ii u1.frame), (ii u1.version), (ii u1.item), (ii u1.index), (.bool u1.key), (.string (bstr u1.data)), (ii u1.regions), (ii u1.gain), (.string (bstr u1.caption)), (ii u1.os), (ii u1.of), (.slice B1 0 d1)]) (fun _ hS => ex_lN [(ii u1.channel), (ii u1.frame), (ii u1.version), (ii u1.item), (ii u1.index), (.bool u1.key), (.string (bstr u1.data)), (ii u1.regions), (ii u1.gain), (.string (bstr u1.caption)), (ii u1.os), (ii u1.of), (.slice B1 0 d1)] (IsRow.cells unC_size (hS.fact 0 rfl : IsRow 13 unC _ A1 [uv u1 B1 d1]) hAu1 (i := 0) (x := uv u1 B1 d1) rfl)) fun a H => ?_
   refine An.one 7 (by kernel_rfl) ?_
   refine Op.call H 187 rfl (by kernel_rfl) (Eq.trans (by kernel_rfl : _ = (callFunc 28 #[(.agg #[(ii 50), (ii 1)]), (.agg #[(ii u1.channel), (ii u1.frame), (ii u1.version), (ii u1.item), (ii u1.index), (.bool u1.key), (.string (bstr u1.data)), (ii u1.regions), (ii u1.gain), (.string (bstr u1.caption)), (ii u1.os), (ii u1.of), (.slice B1 0 d1)])]).run Tryz.prog w_29) (Tryz.call28 _ _)) ((by have hh := pack_any 50 1 (uv u1 B1 d1) w_29 (HP.fact 5 rfl) (alts_uv _ _ _) (Nat.zero_le _); rw [hpk] at hh; exact hh)) ?_
   rintro e w_30 ⟨rfl, hb⟩
   refine ⟨_, rfl, ?_⟩
   intro a H
   have HP := HP.next hb
   refine ⟨.inr (HP), ?_⟩
   refine An.go H (.inr (HP)) 0 [8, 9, 10, 11, 12] [(18, (.string (bstr sx)))] [] fun a H => ?_
   refine An.done (by kernel_rfl) ?_
   refine ztn (zsq (zrg ?_))
   refine H.go HP 2 [(190, (.string (bstr sx))), (191, (.string (bstr s1)))] [] fun a H => H.valE 192 (.bool (!((bstr sx).toList == (bstr s1).toList))) (.bool (!(sx == s1))) (by kernel_rfl) (by kernel_rfl) ((congrArg (fun b => Value.bool (!b)) (bstr_eq _ _))) fun a H => H.go HP 1 [(193, (.bool (!(sx == s1))))] [] fun a H => ?_
   refine H.split 193 rfl (fun g193 H => ?_) (fun g193 H => ?_)
   ·have g193p := not_is_true g193
    refine H.go HP 2 [(194, (.string (bstr sx))), (195, (.string (bstr s2)))] [] fun a H => H.valE 196 (.bool (!((bstr sx).toList == (bstr s2).toList))) (.bool (!(sx == s2))) (by kernel_rfl) (by kernel_rfl) ((congrArg (fun b => Value.bool (!b)) (bstr_eq _ _))) fun a H => ?_
    refine H.ge HP [(197, (.bool (!(sx == s2))))] [] fun a H => ?_
    refine ztn ?_
    refine w_if H rfl (fun g197 => ?_) (fun g197 => ?_)
    ·have g197p := not_is_true g197
     refine zsq (zrg ?_)
     refine H.ge HP [(4, (.bool false))] [] fun a H => ?_
     refine ztn (zrt (zibr (ztr (ztr (zibr (ztr ?_))))))
     refine H.r1 (.bool false) Tryz.results4 ?_
     exact absurd hsx (by intro h; rcases h with h | h; (have h2 : (sx == s1) = true := beq_iff_eq.2 h; simp [h2] at g193p); (have h2 : (sx == s2) = true := beq_iff_eq.2 h; simp [h2] at g197p))
    have g197p := not_is_false g197
    refine zsk (zibn (ztn (zrg ?_)))
    refine H.go HP 1 [(43, (ii i))] [] fun a H => H.wi 44 ((i : Int) + 1) fun a H => ?_
    refine H.ge HP [(12, (ii ((i : Int) + 1)))] [] fun a H => ?_
    refine ztn ?_
    have H := H.as 12 (ii ((i + 1 : Nat) : Int)) rfl rfl
    refine ⟨_, ?_, i + 1, hd2, at2, od2, (chN c u1 g1 tk1), it1, ix1, it2, ix2, lk2, lt2, lf2, ln2, rfl, H.keep (by kernel_rfl), (HP.subw [3, 2, 4, 5] [bx b_6 47 [(ii lk2), (ii lt2), (ii 0), (ii lf2), (ii ln2), (ii 0), (ii 0), (ii 0), (ii 0), (ii 0), (ii 0), (ii 0), (ii 0), (ii 0), (ii 0), (ii 0), (ii 0), (.slice none 0 0), (ii 0), (ii 0), (ii 0), (ii 0), (ii 0), (ii 0), (ii 0), (ii 0), (ii 0), (ii 0), (ii 0), (ii 0), (.string (bstr ([])))] true, bx cb 55 [(ii it1), (ii ix1), (ii it2), (ii ix2)] true, bx bs 111 [(.slice (some ⟨cs, 0, none⟩) 1 kcs), (.slice Ss ls.length kSs), (.bool hd2), (ii at2), (ii od2)] true, bx cs 115 (flat chC [chN c u1 g1 tk1] ++ rests) true] (by kernel_rfl) (by kernel_rfl)).untop, (by omega), (by omega), (beat_more hbo2), (hch1.ok hc), (by omega), hrel2⟩
    omega
   have g193p := not_is_false g193
   refine H.ge HP [(197, (.bool false))] [] fun a H => ?_
   refine ztn ?_
   refine w_iff H rfl ?_
   refine zsk (zibn (ztn (zrg ?_)))
   refine H.go HP 1 [(43, (ii i))] [] fun a H => H.wi 44 ((i : Int) + 1) fun a H => ?_
   refine H.ge HP [(12, (ii ((i : Int) + 1)))] [] fun a H => ?_
   refine ztn ?_
   have H := H.as 12 (ii ((i + 1 : Nat) : Int)) rfl rfl
   refine ⟨_, ?_, i + 1, hd2, at2, od2, (chN c u1 g1 tk1), it1, ix1, it2, ix2, lk2, lt2, lf2, ln2, rfl, H.keep (by kernel_rfl), (HP.subw [3, 2, 4, 5] [bx b_6 47 [(ii lk2), (ii lt2), (ii 0), (ii lf2), (ii ln2), (ii 0), (ii 0), (ii 0), (ii 0), (ii 0), (ii 0), (ii 0), (ii 0), (ii 0), (ii 0), (ii 0), (ii 0), (.slice none 0 0), (ii 0), (ii 0), (ii 0), (ii 0), (ii 0), (ii 0), (ii 0), (ii 0), (ii 0), (ii 0), (ii 0), (ii 0), (.string (bstr ([])))] true, bx cb 55 [(ii it1), (ii ix1), (ii it2), (ii ix2)] true, bx bs 111 [(.slice (some ⟨cs, 0, none⟩) 1 kcs), (.slice Ss ls.length kSs), (.bool hd2), (ii at2), (ii od2)] true, bx cs 115 (flat chC [chN c u1 g1 tk1] ++ rests) true] (by kernel_rfl) (by kernel_rfl)).untop, (by omega), (by omega), (beat_more hbo2), (hch1.ok hc), (by omega), hrel2⟩
   omega
  have g42p := of_decide_eq_false g42
  refine wp_exit (then_exit (then_exit ?_))
  refine w_exit_here ?_
  refine ztn (zsq (zrg ?_))
  refine H.ge HP [(4, (.bool true))] [] fun a H => ?_
  refine ztn (zrt ?_)
  refine H.r1 (.bool true) Tryz.results4 ?_
  exact ⟨rfl, HP.bl⟩
 have g39p := of_decide_eq_false g39
 refine H.ge HP [(42, (.bool false))] [] fun a H => ?_
 refine ztn ?_
 refine w_iff H rfl ?_
 refine wp_exit (then_exit (then_exit ?_))
 refine w_exit_here ?_
 refine ztn (zsq (zrg ?_))
 refine H.ge HP [(4, (.bool true))] [] fun a H => ?_
 refine ztn (zrt ?_)
 refine H.r1 (.bool true) Tryz.results4 ?_
 exact ⟨rfl, HP.bl⟩
open Go.Deep
structure Op (P : Program) (t : TypeId) (α : Type) where
  size : Nat
  cells : α → List Value
  ok : World → α → Prop
  csize : P.cellsOf t = size
  len : ∀ a, (cells a).length = size
  opens : ∀ {H : Type} {enc : TypeId × Value → H} {w : World} {base : Nat} {held : Bool} {fuel : Nat} {cs : List Value} {x : DataW H × List MemPlace},
    DataW.trod enc P w base (fun _ => true) held fuel t cs = some x → (∀ n ∈ x.1.weights P t, n ≤ reachBytes) → ∃ a, cs = cells a ∧ ok w a
structure SlA (α : Type) where
  A : Option Addr
  c : Nat
  l : List α
section
variable {P : Program} {t e : TypeId} {α β : Type}
noncomputable def opInt (k : IntKind) (hu : P.underlying t = some (.int k)) (hc : P.cellsOf t = 1) : Op P t Int where
  size := 1
  cells n := [.int k n]
  ok _ n := (Lit.int k n).wf = true
  csize := hc
  len _ := rfl
  opens h _ := by
    obtain ⟨n, rfl, rfl, hw⟩ := DataW.trod_int hu h
    exact ⟨n, rfl, hw⟩
theorem weightsAll_mem {H : Type} {d : DataW H} {l : List (DataW H)} (h : d ∈ l) : ∀ n ∈ d.weights P e, n ∈ DataW.weightsAll P e l := by
  induction l with
  | nil => cases h
  | cons y l ih =>
    intro n hn
    rw [DataW.weightsAll]
    rcases List.mem_cons.1 h with rfl | h
    · exact List.mem_append_left _ hn
    · exact List.mem_append_right _ (ih h n hn)
theorem choose_list {Q : Nat → α → Prop} : ∀ n : Nat, (∀ i, i < n → ∃ a, Q i a) → ∃ l : List α, l.length = n ∧ ∀ i a, l[i]? = some a → Q i a := by
  intro n
  induction n with
  | zero => intro _; exact ⟨[], rfl, by simp⟩
  | succ n ih =>
    intro h
    obtain ⟨l, hl, hq⟩ := ih (fun i hi => h i (by omega))
    obtain ⟨a, ha⟩ := h n (by omega)
    refine ⟨l ++ [a], by simp [hl], fun i b hb => ?_⟩
    by_cases hi : i < l.length
    · rw [List.getElem?_append_left hi] at hb
      exact hq i b hb
    · rw [List.getElem?_append_right (by omega)] at hb
      have h0 : i - l.length = 0 := by
        have := (List.getElem?_eq_some_iff.1 hb).1
        simp at this
        omega
      rw [h0] at hb
      simp at hb
      subst hb
      obtain rfl : i = n := by omega
      exact ha
theorem flatO_get {f : α → List Value} {s : Nat} (hf : ∀ a, (f a).length = s) : ∀ (l : List α) (i j : Nat) (a : α), l[i]? = some a → j < s → (l.flatMap f)[i * s + j]? = (f a)[j]? := by
  intro l
  induction l with
  | nil => intro i j a h; simp at h
  | cons y l ih =>
    intro i j a h hj
    cases i with
    | zero =>
      simp at h
      subst h
      simp only [List.flatMap_cons, Nat.zero_mul, Nat.zero_add]
      rw [List.getElem?_append_left (by rw [hf]; exact hj)]
    | succ i =>
      simp only [List.flatMap_cons]
      rw [List.getElem?_append_right (by rw [hf, Nat.add_mul]; omega), hf, show (i + 1) * s + j - s = i * s + j by rw [Nat.add_mul]; omega]
      exact ih i j a (by simpa using h) hj
theorem flatO_len {f : α → List Value} {s : Nat} (hf : ∀ a, (f a).length = s) : ∀ l : List α, (l.flatMap f).length = l.length * s := by
  intro l
  induction l with
  | nil => simp
  | cons y l ih => simp only [List.flatMap_cons, List.length_append, List.length_cons, ih, hf, Nat.add_mul]; omega
theorem rd_of_cells {w : World} {a : Addr} {s : Nat} {f : α → List Value} (hf : ∀ x, (f x).length = s) (hs : 0 < s) {l : List α}
    (h : ∀ i x, l[i]? = some x → ∀ j, j < s → w.cell? ((a.add (i * s)).add j) = (f x)[j]?) : Rd w s (some a) l.length (l.flatMap f) := by
  refine ⟨flatO_len hf l, ?_⟩
  by_cases hn : l.length = 0
  · exact .inl hn
  · have hl : 0 < l.length := by omega
    have h0 := h 0 l[0] (List.getElem?_eq_getElem hl) 0 hs
    have hv : ∃ v, (f l[0])[0]? = some v := ⟨_, List.getElem?_eq_getElem (by rw [hf]; exact hs)⟩
    obtain ⟨v, hv⟩ := hv
    rw [hv] at h0
    have hsp : a.spot = none := by
      unfold World.cell? at h0
      split at h0
      · by_cases hs : a.spot.isSome = true
        · simp [Addr.add, hs] at h0
        · simpa using hs
      · simp at h0
    obtain ⟨b, off, sp⟩ := a
    simp only at hsp
    subst hsp
    have e0 : (((⟨b, off, none⟩ : Addr).add (0 * s)).add 0) = ⟨b, off, none⟩ := by simp [Addr.add]
    rw [e0] at h0
    refine .inr ⟨b, off, rfl, World.block_lt_of_cell? w _ h0, fun i hi => ?_⟩
    have hq : i / s < l.length := Nat.div_lt_of_lt_mul (by rw [Nat.mul_comm]; exact hi)
    have hm : i % s < s := Nat.mod_lt _ hs
    have hx := h (i / s) l[i / s] (List.getElem?_eq_getElem hq) (i % s) hm
    have hg := flatO_get hf l (i / s) (i % s) _ (List.getElem?_eq_getElem hq) hm
    have hi2 : i / s * s + i % s = i := by rw [Nat.mul_comm]; exact Nat.div_add_mod i s
    rw [hi2] at hg
    rw [hg, ← hx]
    congr 1
    simp only [Addr.add]
    split <;> split <;> simp <;> omega
noncomputable def opSlice (o : Op P e α) (bytes : Nat) (hu : P.underlying t = some (.slice e)) (hb : P.bytesOf e = bytes) (hc : P.cellsOf t = 1) (hs : 0 < o.size) : Op P t (SlA α) where
  size := 1
  cells s := [.slice s.A s.l.length s.c]
  ok w s := Rd w o.size s.A s.l.length (s.l.flatMap o.cells) ∧ (∀ a ∈ s.l, o.ok w a) ∧ s.l.length ≤ s.c ∧ s.c ≤ maxLen ∧ (s.A = none → s.c = 0) ∧ s.c * bytes ≤ reachBytes
  csize := hc
  len _ := rfl
  opens {H enc w base held fuel cs x} h hw := by
    rcases open_slice hu h with ⟨rfl, rfl⟩ | ⟨a, len, cap, m, n, D, Pl, rfl, hba, hl, hm, hmm, rfl, hi⟩
    · exact ⟨⟨none, 0, []⟩, rfl, Rd.nil _ _ _, by simp, Nat.le_refl _, Nat.zero_le _, fun _ => rfl, by simp⟩
    · simp only [if_true] at hmm
      subst hmm
      have hwt : ∀ k ∈ ((len + (m - len)) * bytes) :: DataW.weightsAll P e ((List.range len).map D), k ≤ reachBytes := by
        intro k hk
        simp only [DataW.weights, hu, hb] at hw
        rcases List.mem_cons.1 hk with rfl | hk
        · exact hw _ (by simp)
        · exact hw k (by simp [hk])
      obtain ⟨l, hll, hq⟩ := choose_list (Q := fun i x => (∀ j, j < o.size → w.cell? ((a.add (i * o.size)).add j) = (o.cells x)[j]?) ∧ o.ok w x) len (fun i hi' => by
        obtain ⟨cs', hcs, htr⟩ := hi i (by omega)
        obtain ⟨x, rfl, hok⟩ := o.opens htr (fun k hk => hwt k (List.mem_cons_of_mem _ (weightsAll_mem (d := D i) (List.mem_map.2 ⟨i, by simpa using hi', rfl⟩) k hk)))
        rw [o.csize] at hcs
        obtain ⟨_, _, hat⟩ := World.cells?_some hcs
        exact ⟨x, hat, hok⟩)
      subst hll
      refine ⟨⟨some a, m, l⟩, rfl, rd_of_cells o.len hs (fun i x hx => (hq i x hx).1), fun x hx => ?_, hl, hm, (fun h => by cases h), ?_⟩
      · obtain ⟨i, hi', hx'⟩ := List.getElem_of_mem hx
        exact (hq i x (by rw [List.getElem?_eq_getElem hi', hx'])).2
      · have := hwt _ (List.mem_cons_self ..)
        rwa [Nat.add_sub_cancel' hl] at this
noncomputable def opMap (o : Op P t α) (f : α → β) (cells' : β → List Value) (ok' : World → β → Prop) (h1 : ∀ a, o.cells a = cells' (f a)) (h2 : ∀ w a, o.ok w a → ok' w (f a)) (h3 : ∀ b, (cells' b).length = o.size) : Op P t β where
  size := o.size
  cells := cells'
  ok := ok'
  csize := o.csize
  len := h3
  opens h hw := by
    obtain ⟨a, ha, hok⟩ := o.opens h hw
    exact ⟨f a, by rw [ha, h1], h2 _ _ hok⟩
end
theorem flat_range_take {cs : List Value} {n s : Nat} (h : cs.length = n * s) : (List.range n).flatMap (fun i => (cs.drop (i * s)).take s) = cs := by
  induction n generalizing cs with
  | zero => simp at h; subst h; rfl
  | succ n ih =>
    rw [List.range_succ_eq_map, List.flatMap_cons, List.flatMap_map, Nat.zero_mul, List.drop_zero]
    have hl : (cs.drop s).length = n * s := by rw [List.length_drop, h, Nat.succ_mul]; omega
    have := ih hl
    simp only [List.drop_drop] at this
    have e : (fun i => (cs.drop (i.succ * s)).take s) = fun i => (cs.drop (s + i * s)).take s := by
      funext i; rw [Nat.succ_mul, Nat.add_comm]
    rw [e, this, List.take_append_drop]
theorem flat_range_len {f : Nat → List Value} {s : Nat} (hf : ∀ a, (f a).length = s) (n : Nat) : ((List.range n).flatMap f).length = n * s := by
  rw [flatO_len (f := f) hf, List.length_range]
section
variable {P : Program} {t e : TypeId} {α β : Type}
noncomputable def opArr (o : Op P e α) (n : Nat) (hn : 0 < n) (hu : P.underlying t = some (.array n e)) (hc : P.cellsOf t = n * o.size) : Op P t (Nat → α) where
  size := n * o.size
  cells f := (List.range n).flatMap fun i => o.cells (f i)
  ok w f := ∀ i, o.ok w (f i)
  csize := hc
  len f := flat_range_len (fun i => o.len (f i)) n
  opens {H enc w base held fuel cs x} h hw := by
    obtain ⟨xs, m, _, rfl, hcl, hxl, hf⟩ := DataW.trod_array hu h
    have hwt : ∀ k ∈ DataW.weightsAll P e (xs.map (·.1)), k ≤ reachBytes := fun k hk => hw k (by simpa [DataW.weights, hu] using hk)
    obtain ⟨l, hll, hq⟩ := choose_list (Q := fun i a => (cs.drop (i * o.size)).take o.size = o.cells a ∧ o.ok w a) n (fun i hi => by
      have g := hf i hi
      rw [o.csize] at g
      rw [List.getElem?_eq_getElem (by omega)] at g
      obtain ⟨a, ha, hok⟩ := o.opens g (fun k hk => hwt k (weightsAll_mem (List.mem_map.2 ⟨xs[i]'(by omega), List.getElem_mem _, rfl⟩) k hk))
      exact ⟨a, ha, hok⟩)
    have h0 : 0 < l.length := by omega
    refine ⟨fun i => l.getD i l[0], ?_, fun i => ?_⟩
    · rw [hc] at hcl
      conv => lhs; rw [← flat_range_take hcl]
      have key : ∀ i ∈ List.range n, (cs.drop (i * o.size)).take o.size = o.cells (l.getD i l[0]) := by
        intro i hi
        have hi' : i < l.length := by rw [List.mem_range] at hi; omega
        have := (hq i l[i] (List.getElem?_eq_getElem hi')).1
        rw [this]
        simp [List.getD, List.getElem?_eq_getElem hi']
      rw [List.flatMap_def, List.flatMap_def, List.map_congr_left key]
    · by_cases hi : i < l.length
      · have := (hq i l[i] (List.getElem?_eq_getElem hi)).2
        simpa [List.getD, List.getElem?_eq_getElem hi] using this
      · have := (hq 0 l[0] (List.getElem?_eq_getElem h0)).2
        simpa [List.getD, List.getElem?_eq_none (by omega : l.length ≤ i)] using this
end
theorem in64_of {n : Int} (h : (Lit.int .i64 n).wf = true) : in64 n := by
  unfold in64
  simp [Lit.wf, IntKind.min, IntKind.max, IntKind.signed, IntKind.bits] at h
  omega
noncomputable def opI0 : Op Tryz.prog 3 Int := opInt .i64 Tryz.underlying3 (by kernel_rfl)
noncomputable def opI : Op Tryz.prog 3 Int := opMap opI0 id (fun a => (i1C a).toList) (fun _ a => in64 a) (fun a => rfl) (fun w a h => in64_of h) (fun _ => rfl)
noncomputable def op9 : Op Tryz.prog 50 (Nat → Int) := opMap (opArr opI0 9 (by decide) Tryz.underlying50 (by kernel_rfl)) (fun f k => f (min k 8)) (fun a => (ar9 a).toList) (fun _ a => ∀ k, in64 (a k)) (fun a => rfl) (fun w a h => fun k => in64_of (h _)) (fun _ => rfl)
noncomputable def opInts : Op Tryz.prog 22 (SlA Int) := opSlice opI 8 Tryz.underlying22 (by kernel_rfl) (by kernel_rfl) (by decide)
noncomputable def op9s : Op Tryz.prog 23 (SlA (Nat → Int)) := opSlice op9 72 Tryz.underlying23 (by kernel_rfl) (by kernel_rfl) (by decide)
structure RowOk {α : Type} (k : Nat) (cs : α → Array Value) (w : World) (s : SlA α) (ok : α → Prop) (most : Nat) : Prop where
  row : IsRow k cs w s.A s.l
  all : ∀ a ∈ s.l, ok a
  len : s.l.length ≤ most
theorem ints_ok {w : World} {s : SlA Int} (h : opInts.ok w s) : RowOk 1 i1C w s in64 1000000000000000 := by
  obtain ⟨h1, h2, h3, h4, h5, h6⟩ := h
  refine ⟨h1, h2, ?_⟩
  have : s.c * 8 ≤ 140737488351232 := h6
  omega
theorem ar9_ok {w : World} {s : SlA (Nat → Int)} (h : op9s.ok w s) : RowOk 9 ar9 w s (fun q => ∀ k, in64 (q k)) 1000000000000000 := by
  obtain ⟨h1, h2, h3, h4, h5, h6⟩ := h
  refine ⟨h1, h2, ?_⟩
  have : s.c * 72 ≤ 140737488351232 := h6
  omega
end Go.Proofs.YthpbaaadkhdifaaGreatDoor
namespace Go.Proofs.YthpbaaadkhdifaaGreatDoor.selectorSafe
set_option maxRecDepth 100000
set_option maxHeartbeats 4000000
open Go.ChangeShapes Go.WideShapes Go.ChangeAt Go.RowKit
theorem walk (a0 : SlA Int) (a1 : SlA (Nat → Int)) (w : World) (hL : Laid w) (h0 : opInts.ok w a0) (h1 : op9s.ok w a1) :
    Calls Tryz.prog 4 #[(opInts.cells a0).headD undef, (op9s.cells a1).headD undef] w fun e w' => e = .returned (.bool true) ∧ Below w.heap.size w w' :=
  safe_law a0.A a0.c a0.l a1.A a1.c a1.l w hL (ints_ok h0).row (ints_ok h0).all (ints_ok h0).len (ar9_ok h1).row (ar9_ok h1).all (ar9_ok h1).len
end Go.Proofs.YthpbaaadkhdifaaGreatDoor.selectorSafe
namespace Go.Proofs.YthpbaaadkhdifaaGreatDoor.selectorSafe
set_option maxRecDepth 100000
set_option maxHeartbeats 4000000
open Go.ChangeShapes Go.WideShapes Go.ChangeAt Go.RowKit
open Go.ChangeMaps (open_string shut_string)
set_option linter.unusedVariables false
theorem own : ownKnob Tryz.prog.godebug = none := by kernel_rfl
theorem laidOut : laidOutB Tryz.prog = true := by kernel_rfl
set_option maxRecDepth 100000 in
theorem lifted (os : Os) (started : os.Started) (H : Type) (enc : TypeId × Value → H) :
    ReturnsInHanded {} Tryz.checked os 4 .any (fun w args => (Rows.selectorSafeSpec.pre enc Tryz.prog Tryz.f4 [] false w args ∧ laidMetH Tryz.prog laid2 w) ∧ sizedMet enc Tryz.prog Tryz.f4 (OpenSpec.ofChange Rows.selectorSafeSpec) false w args) (Rows.selectorSafeSpec.post enc Tryz.prog Tryz.f4 false true false false) := by
  refine returnsInHanded_of_change_and (C := Tryz.checked) (X := fun w _ => laidMetH Tryz.prog laid2 w) (fun _ _ _ hh h => h.of_heap hh) own started (by kernel_rfl) Tryz.func4
    (ChangeSpec.witness_shaped (enc := enc) (C := Tryz.checked) (os := os) (X := fun w _ => laidMetH Tryz.prog laid2 w) false (World.doorLaid Tryz.prog 4000 os) #[.slice none 0 0, .slice none 0 0] 12 rfl (World.shaped_of_RefB (by kernel_rfl) (by kernel_rfl)) (by kernel_rfl) (by kernel_rfl) (by kernel_rfl) (door_met os _)) ?_
  intro W base args ds gs before hval0 hW hcnd hsz0 hL _
  have hval : ∀ (j : Nat) t v, Tryz.f4.params[j]? = some t → args[j]? = some v → Value.okWide Tryz.prog W .any base t v := hval0
  have hW' := hW
  obtain ⟨p, q, hA0, hV, rfl, hfz, hnd⟩ := hW
  have hA : DataW.TrodAll enc Tryz.prog W 0 (fun _ => true) true Tryz.f4.params.toList args.toList ds p := hA0
  have hsz : (DataW.weightsEach Tryz.prog (Tryz.f4.params.toList ++ Rows.selectorSafeSpec.plain.varTypes Tryz.prog) (ds ++ gs)).all (· ≤ reachBytes) = true := hsz0
  rw [Tryz.params4] at hA hval hsz
  obtain ⟨v0, vs0, d0, ds0, p0, q0, hargs, rfl, rfl, h0, r0⟩ := trodAll_cons hA
  obtain ⟨v1, vs1, d1, ds1, p1, q1, rfl, rfl, rfl, h1, r1⟩ := trodAll_cons r0
  obtain ⟨rfl, rfl, rfl⟩ := trodAll_nil r1
  obtain rfl : args = #[v0, v1] := by cases args; simp_all
  obtain ⟨rfl, rfl⟩ := trodVars_none hV
  obtain ⟨a0x, len0, cap0, rfl⟩ := okWide_slice Tryz.underlying22 (hval 0 22 v0 rfl rfl)
  have k0 := h0
  have lt0 : ∀ x ∈ p0, x.block < W.heap.size := by obtain ⟨m, hm⟩ := k0; exact DataW.trod_lt m _ _ _ hm
  obtain ⟨a0, w0, e0⟩ : ∃ a, opInts.ok W a ∧ Value.slice a0x len0 cap0 = (opInts.cells a).headD undef := by
    obtain ⟨fuel, hf⟩ := h0
    obtain ⟨a, ha, hok⟩ := opInts.opens hf (fun n hn => of_decide_eq_true (List.all_eq_true.1 hsz n (DataW.weights_mem_each (j := 0) (t := 22) (by rfl) (by rfl) n hn)))
    refine ⟨a, hok, ?_⟩
    have : [Value.slice a0x len0 cap0] = opInts.cells a := ha
    rw [← this]
    rfl
  rw [e0] at k0 hW' ⊢
  obtain ⟨a1x, len1, cap1, rfl⟩ := okWide_slice Tryz.underlying23 (hval 1 23 v1 rfl rfl)
  have k1 := h1
  have lt1 : ∀ x ∈ p1, x.block < W.heap.size := by obtain ⟨m, hm⟩ := k1; exact DataW.trod_lt m _ _ _ hm
  obtain ⟨a1, w1, e1⟩ : ∃ a, op9s.ok W a ∧ Value.slice a1x len1 cap1 = (op9s.cells a).headD undef := by
    obtain ⟨fuel, hf⟩ := h1
    obtain ⟨a, ha, hok⟩ := op9s.opens hf (fun n hn => of_decide_eq_true (List.all_eq_true.1 hsz n (DataW.weights_mem_each (j := 1) (t := 23) (by rfl) (by rfl) n hn)))
    refine ⟨a, hok, ?_⟩
    have : [Value.slice a1x len1 cap1] = op9s.cells a := ha
    rw [← this]
    rfl
  rw [e1] at k1 hW' ⊢
  clear hA0 hval0 hsz0
  refine (walk a0 a1 W (laid_of hL) w0 w1).mono fun e W' ⟨he, bel⟩ => ?_
  subst he
  exact ⟨_, rfl, _, _, _, [], _, [], hW', trodAll_mk1 (shut_bool Tryz.underlying4 _), (trodAll_cons_mk (Below.trod laidOut (by kernel_rfl) (of_decide_eq_true (by kernel_rfl)) k0 bel lt0) (trodAll_cons_mk (Below.trod laidOut (by kernel_rfl) (of_decide_eq_true (by kernel_rfl)) k1 bel lt1) trodAll_mk0)), rfl, bel.frame _, fun h => by cases h⟩
theorem over : Rows.selectorSafeRow.holds Tryz.pinned (OpenSpec.ofChange Rows.selectorSafeSpec) :=
  OpenClaim.holds_of_wide 4 Tryz.f4 rfl rfl rfl rfl rfl rfl rfl ⟨rfl, rfl, rfl, rfl, rfl⟩ rfl rfl rfl rfl rfl (by kernel_rfl) Tryz.func4 (by kernel_rfl)
    (of_decide_eq_true (by kernel_rfl)) (by unfold Func.isWrapper; first | (rw [if_pos (by decide +kernel)]; kernel_rfl) | (rw [if_neg (by decide +kernel)]; exact ⟨rfl, rfl⟩))
    (fun os started H enc _ => lifted os started H enc)
theorem proved : Rows.SelectorSafeCardSaid :=
  Claim7.holds_tied_plain_at .later [] [.data, .data] true (true, "9dee3736a47d5fde62d585030fb6813f4463abab0d4d0d63d0a04982675a9e5c") false
    over (fun _ h => by cases h) (by kernel_rfl) (fun _ h => by cases h) selectorSafe_row_tie rfl ⟨rfl, rfl⟩ (by kernel_rfl) rfl
    (fun f fn hf hfn => by
      obtain rfl : f = 4 := Option.some.inj ((show Tryz.prog.funcNamed "onair/onairlaw22.SelectorSafe" = some 4 by kernel_rfl).symm.trans hf) |>.symm
      obtain rfl : fn = Tryz.f4 := (Option.some.inj (Tryz.func4.symm.trans hfn)).symm
      exact ⟨by kernel_rfl, fun j t ht => by
        rw [Tryz.params4] at ht
        have hm : t ∈ [22, 23] := by simpa using Array.mem_of_getElem? ht
        have hall : ([22, 23].all fun u => !Tryz.prog.wantsStandIn u) = true := by kernel_rfl
        exact (show Tryz.prog.wantsStandIn t = false by simpa using List.all_eq_true.1 hall t hm)⟩)
    (by kernel_rfl)
#print axioms proved
end Go.Proofs.YthpbaaadkhdifaaGreatDoor.selectorSafe
