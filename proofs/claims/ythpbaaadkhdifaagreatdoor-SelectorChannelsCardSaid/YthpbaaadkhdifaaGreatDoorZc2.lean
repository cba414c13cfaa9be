/- The statement SelectorChannels: for every input the law returns true and leaves its arguments as they were. No condition. -/
import Derived.Test.YthpbaaadkhdifaaGreatDoorCards
import Derived.Test.YthpbaaadkhdifaaGreatDoorTie
import Derived.WalkKit
import Derived.ProofKit
import Derived.OpenShut
import Derived.ShutString
import Derived.ChangeOld
import Derived.Below
import Derived.SizedLaws
import Derived.SevenTiedAt
import Derived.Test.YthpbaaadkhdifaaGreatDoorZch
namespace Go.Proofs.YthpbaaadkhdifaaGreatDoor
set_option maxRecDepth 100000
set_option maxHeartbeats 4000000
open Go.ChangeShapes Go.WideShapes Go.ChangeAt Go.RowKit Go.Shelf
set_option linter.unusedVariables false
set_option linter.unusedSimpArgs false
theorem chan_law (XA : Option Addr) (xc : Nat) (xs : List Int) (AL : Option Addr) (cl : Nat) (l : List (Nat → Int)) (w : World) (hL : Laid w) (hxr : IsRow 1 i1C w XA xs) (hxi : ∀ n ∈ xs, in64 n) (hxl : xs.length ≤ 1000000000000000) (hlr : IsRow 9 ar9 w AL l) (hin : ∀ q ∈ l, ∀ k, in64 (q k)) (hll : l.length ≤ 1000000000000000) :
  Calls Tryz.prog 7 #[.slice XA xs.length xc, .slice AL l.length cl] w fun e w' => e = .returned (.bool true) ∧ Below w.heap.size w w' := by
 have HP := ((((Hp.start w).keepF (rowF 1 i1C XA xs) hxr (rowF_ok _ _ _ _) (fun k hk => ⟨hxr.lt k hk, fun x hx => by cases hx⟩)).keepF (rowF 9 ar9 AL l) hlr (rowF_ok _ _ _ _) (fun k hk => ⟨hlr.lt k hk, fun x hx => by cases hx⟩)).keepF laidK hL laidK_ok (fun k hk => ⟨hL.lt k hk, fun x hx => by cases hx⟩))
 refine w_enter 168 [(0, (.slice XA xs.length xc)), (1, (.slice AL l.length cl))] Tryz.func7 rfl Tryz.ntmps7 (by kernel_rfl) (by kernel_rfl) fun a H => ?_
 refine zsq (zrg ?_)
 refine H.ge HP [(4, (.bool false))] [] fun a H => ?_
 refine ztn (zsq (zrg ?_))
 refine H.cb HP 20 (Tryz.call10 _ _) (sane_any w (HP.fact 0 rfl)) fun w_1 hb a H HP => ?_
 refine H.ge HP [(5, (.bool true))] [] fun a H => ?_
 refine ztn (zsq (zrg ?_))
 refine H.go HP 1 [(21, (.slice XA xs.length xc))] [] fun a H => ?_
 refine H.cl 22 (Tryz.call11 _ _) (libraryL_any XA xc xs w_1 hxl hxi (HP.fact 2 rfl)) ?_
 rintro e w_2 ⟨LA, lc, li, rfl, hli, hlib, hb⟩
 refine ⟨_, rfl, ?_⟩
 intro a H
 have HP := (HP.next hb).keepF (astsK LA li) hlib (fun _ _ h hk hs => IsAsts.keep h hk hs) (fun k hk => ⟨IsAsts.lt hlib hk, fun x hx => by cases hx⟩)
 refine H.ge HP [(6, (.slice LA li.length lc))] [] fun a H => ?_
 refine ztn (zsq (zrg ?_))
 refine H.cl 23 (Tryz.call12 _ _) (plansL_any w_2) ?_
 rintro e w_3 ⟨AP, cp, I0, i0, I1, i1, rfl, hcp, hpr, hpi, hb⟩
 refine ⟨_, rfl, ?_⟩
 intro a H
 have HP := ((((HP.next hb).keepF (itsK [(pl0 I0 i0), (pl1 I1 i1)]) hpi (itsK_ok _) (fun k hk => ⟨itsK_lt hpi hk, fun x hx => by cases hx⟩)).keepF (rowF 13 plnC AP [(pl0 I0 i0), (pl1 I1 i1)]) hpr (rowF_ok _ _ _ _) (fun k hk => ⟨IsRow.lt hpr k hk, fun x hx => by cases hx⟩)).keepF (rowF 13 plnC (dropA AP cp 1 13) [(pl1 I1 i1)]) (pl_drop hpr hcp) (rowF_ok _ _ _ _) (fun k hk => ⟨IsRow.lt (pl_drop hpr hcp) k hk, fun x hx => by cases hx⟩))
 refine H.ge HP [(7, (.slice AP 2 cp))] [] fun a H => ?_
 refine ztn (zsq (zrg ?_))
 refine H.go HP 2 [(25, (.slice AP 2 cp)), (26, (.slice LA li.length lc))] [] fun a H => ?_
 refine H.cl 27 (Tryz.call13 _ _) (newL_any AP cp lc [(pl0 I0 i0), (pl1 I1 i1)] LA li w_3 plOk2 hli (HP.fact 4 rfl) ((HP.fact 2 rfl)) (HP.fact 1 rfl) (HP.fact 3 rfl)) ?_
 rintro e w_4 ⟨bs, cs, kcs, Ss, kSs, ls, rests, rfl, hN, hbn⟩
 refine ⟨_, rfl, ?_⟩
 intro a H
 have HP := (HP.gainSel hN hbn : Hp w _ [bx bs 111 [(.slice (some ⟨cs, 0, none⟩) 2 kcs), (.slice Ss ls.length kSs), (.bool false), (ii 0), (ii 0)] true, bx cs 115 (flat chC [mkCh (pl0 I0 i0), mkCh (pl1 I1 i1)] ++ rests) true] [astsK Ss ls, rowF 13 plnC (dropA AP cp 1 13) [(pl1 I1 i1)], rowF 13 plnC AP [(pl0 I0 i0), (pl1 I1 i1)], itsK [(pl0 I0 i0), (pl1 I1 i1)], astsK LA li, laidK, rowF 9 ar9 AL l, rowF 1 i1C XA xs])
 have h1s := hN.sel1 hli
 refine H.ge HP [(8, (pt bs 0)), (9, (ii 0))] [] fun a H => ?_
 refine ztn (zsq (zrg ?_))
 refine H.go HP 1 [(31, (.slice AP 2 cp))] [] fun a H => H.u 32 (.slice (dropA AP cp 1 13) 1 (cp - 1)) (ex_sliceLo (len := 2) (i := 1) (sz := 13) (by kernel_rfl) (by kernel_rfl) (by kernel_rfl) (by kernel_rfl) rfl (by decide)) fun a H => H.go HP 1 [(33, (.slice LA li.length lc))] [] fun a H => ?_
 refine H.cl 34 (Tryz.call13 _ _) (newL_any (dropA AP cp 1 13) (cp - 1) lc [(pl1 I1 i1)] LA li w_4 plOk1 hli (HP.fact 5 rfl) (its_1 (HP.fact 3 rfl)) (HP.fact 1 rfl) (HP.fact 4 rfl)) ?_
 rintro e w_5 ⟨bt, ct, kct, St, kSt, lt, restt, rfl, hN, hbn⟩
 refine ⟨_, rfl, ?_⟩
 intro a H
 have HP := (HP.gainSel hN hbn : Hp w _ [bx bt 111 [(.slice (some ⟨ct, 0, none⟩) 1 kct), (.slice St lt.length kSt), (.bool false), (ii 0), (ii 0)] true, bx ct 115 (flat chC [mkCh (pl1 I1 i1)] ++ restt) true, bx bs 111 [(.slice (some ⟨cs, 0, none⟩) 2 kcs), (.slice Ss ls.length kSs), (.bool false), (ii 0), (ii 0)] true, bx cs 115 (flat chC [mkCh (pl0 I0 i0), mkCh (pl1 I1 i1)] ++ rests) true] [astsK St lt, astsK Ss ls, rowF 13 plnC (dropA AP cp 1 13) [(pl1 I1 i1)], rowF 13 plnC AP [(pl0 I0 i0), (pl1 I1 i1)], itsK [(pl0 I0 i0), (pl1 I1 i1)], astsK LA li, laidK, rowF 9 ar9 AL l, rowF 1 i1C XA xs])
 have h1t := hN.sel1 hli
 refine H.ge HP [(10, (pt bt 0)), (11, (ii 0))] [] fun a H => ?_
 refine ztn (zsq (zsq (zrg ?_)))
 refine H.ge HP [(42, (.bool false))] [] fun a H => ?_
 refine ztn ?_
 refine w_iff H rfl ?_
 refine zsk (ztn (zsq (zrg ?_)))
 refine H.alloc HP 43 (fun b => (.slice (some ⟨b, 0, none⟩) 2 2)) 55 [(ii 0), (ii 0), (ii 0), (ii 0)] (by kernel_rfl) (fun w => ex_make2 (n := 2) (size := 2) (bytes := 16) (z := .agg #[.int .i64 0, .int .i64 0]) (e := 55) (by kernel_rfl) (by kernel_rfl) (by kernel_rfl) (by kernel_rfl) (by decide) (by decide) (by decide) (by kernel_rfl)) fun cb w_6 a H HP => ?_
 refine H.ge HP [(12, (.slice (some ⟨cb, 0, none⟩) 2 2))] [] fun a H => ?_
 refine ztn (zsq (zsq (zrg ?_)))
 refine H.ge HP [(13, (ii 0))] [] fun a H => ?_
 refine ztn (zbk ?_)
 obtain ⟨bp, op, hAplA⟩ := pl_at (q := (pl0 I0 i0)) (HP.fact 3 rfl : IsRow 13 plnC _ AP [(pl0 I0 i0), (pl1 I1 i1)])
 refine w_loop (fun mm a wv => ∃ (i : Nat), ∃ (hd : Bool), ∃ (at_ : Int), ∃ (od : Int), ∃ (c : Ch), ∃ (c2 : Ch), ∃ (t0 : Int), ∃ (x0 : Int), ∃ (t1 : Int), ∃ (x1 : Int), l.length - i = mm ∧ Sl 168 [(13, (ii i)), (0, (.slice XA xs.length xc)), (1, (.slice AL l.length cl)), (5, (.bool true)), (6, (.slice LA li.length lc)), (7, (.slice AP 2 cp)), (8, (pt bs 0)), (10, (pt bt 0)), (12, (.slice (some ⟨cb, 0, none⟩) 2 2))] a ∧ Hp w wv [bx cb 55 [(ii t0), (ii x0), (ii t1), (ii x1)] true, bx bs 111 [(.slice (some ⟨cs, 0, none⟩) 2 kcs), (.slice Ss ls.length kSs), (.bool hd), (ii at_), (ii od)] true, bx cs 115 (flat chC [c, c2] ++ rests) true, bx bt 111 [(.slice (some ⟨ct, 0, none⟩) 1 kct), (.slice St lt.length kSt), (.bool hd), (ii at_), (ii od)] true, bx ct 115 (flat chC [c2] ++ restt) true] [astsK St lt, astsK Ss ls, rowF 13 plnC (dropA AP cp 1 13) [(pl1 I1 i1)], rowF 13 plnC AP [(pl0 I0 i0), (pl1 I1 i1)], itsK [(pl0 I0 i0), (pl1 I1 i1)], astsK LA li, laidK, rowF 9 ar9 AL l, rowF 1 i1C XA xs] ∧ (i ≤ l.length) ∧ (i ≤ 40) ∧ (BeatOk hd at_ od (i : Int)) ∧ (ChOk 50 3 c) ∧ (ChOk 25 0 c2) ∧ ((0 ≤ t0 ∧ t0 ≤ 8) ∧ (0 ≤ x0 ∧ x0 ≤ 29 + (i : Int)) ∧ (0 ≤ t1 ∧ t1 ≤ 8) ∧ (0 ≤ x1 ∧ x1 ≤ 29 + (i : Int)))) (l.length - 0) ?_ ?_
 ·exact ⟨0, false, 0, 0, (mkCh (pl0 I0 i0)), (mkCh (pl1 I1 i1)), 0, 0, 0, 0, (by omega), H.keep (by kernel_rfl), (HP.subw [0, 3, 4, 1, 2] [bx cb 55 [(ii 0), (ii 0), (ii 0), (ii 0)] true, bx bs 111 [(.slice (some ⟨cs, 0, none⟩) 2 kcs), (.slice Ss ls.length kSs), (.bool false), (ii 0), (ii 0)] true, bx cs 115 (flat chC [mkCh (pl0 I0 i0), mkCh (pl1 I1 i1)] ++ rests) true, bx bt 111 [(.slice (some ⟨ct, 0, none⟩) 1 kct), (.slice St lt.length kSt), (.bool false), (ii 0), (ii 0)] true, bx ct 115 (flat chC [mkCh (pl1 I1 i1)] ++ restt) true] (by kernel_rfl) (by kernel_rfl)), (Nat.zero_le _), (Nat.zero_le _), beat_zero, (ch_ok0 (pl0 I0 i0)), (ch_ok0 (pl1 I1 i1)), (by omega)⟩
 rintro mm a w_7 ⟨i, hd, at_, od, c, c2, t0, x0, t1, x1, hmeas, H, HP, hil, hin_, hbo, hc, hc2, hcu⟩
 refine zsq (zsq (zrg ?_))
 refine H.go HP 5 [(48, (.bool (decide ((i : Int) < (l.length : Int)))))] [] fun a H => ?_
 refine H.split 48 rfl (fun g48 H => ?_) (fun g48 H => ?_)
 ·have g48p := of_decide_eq_true g48
  refine H.ge HP [(51, (.bool (decide ((i : Int) < 40))))] [] fun a H => ?_
  refine ztn ?_
  refine w_if H rfl (fun g51 => ?_) (fun g51 => ?_)
  ·have g51p := of_decide_eq_true g51
   refine zsk (ztn (zsq (zbk (zsq ?_))))
   obtain ⟨bL, oL, q, hAL, _, _, hq, hqm, _⟩ := IsRow.get ar9_size (HP.fact 7 rfl) (i := i) (by omega)
   have hqi := hin q hqm
   refine zrg ?_
   refine H.go HP 3 [(55, (ii i)), (56, (.slice AL l.length cl)), (57, (ii i))] [] fun a H => H.u 58 (.pointer (some ⟨bL, oL + i * 9, none⟩)) (ex_indexA (b := bL) (off := oL) (len := l.length) (cap := cl) (e := 50) (k := 9) (ik := .i64) (i := (i : Int)) (m := i) hAL (by kernel_rfl) (by kernel_rfl) rfl (by omega) (by kernel_rfl) (by kernel_rfl)) fun a H => H.v 59 (.pointer (some ⟨bL, oL + i * 9 + 8, none⟩)) fun a H => H.u 60 (ii (q 8)) (ex_l1 (IsRow.cells ar9_size (HP.fact 7 rfl : IsRow 9 ar9 _ AL l) hAL hq 8 _ rfl)) fun a H => ?_
   refine H.cl 61 (Tryz.call15 _ _) (beatL_any (i : Int) (q 8) w_7 (by omega) (hqi 8)) ?_
   rintro e w_8 ⟨mf, mn, isb, rfl, hmf, hmn, hb⟩
   refine ⟨_, rfl, ?_⟩
   intro a H
   have HP := HP.next hb
   refine H.go HP 3 [(62, (.agg #[(ii 3), (ii 2), (ii 0), (ii mf), (ii mn), (ii 0), (ii 0), (ii 0), (ii 0), (ii 0), (ii 0), (ii 0), (ii 0), (ii 0), (ii 0), (ii 0), (ii 0), (.slice none 0 0), (ii 0), (ii 0), (ii 0), (ii 0), (ii 0), (ii 0), (ii 0), (ii 0), (ii 0), (ii 0), (ii 0), (ii 0), (.string (bstr ([])))])), (63, (.bool isb))] [] fun a H => H.al HP 14 47 [(ii 0), (ii 0), (ii 0), (ii 0), (ii 0), (ii 0), (ii 0), (ii 0), (ii 0), (ii 0), (ii 0), (ii 0), (ii 0), (ii 0), (ii 0), (ii 0), (ii 0), (.slice none 0 0), (ii 0), (ii 0), (ii 0), (ii 0), (ii 0), (ii 0), (ii 0), (ii 0), (ii 0), (ii 0), (ii 0), (ii 0), (.string (bstr ([])))] fun b_9 w_10 a H HP => H.st HP 0 b_9 0 31 47 true (.agg #[(ii 3), (ii 2), (ii 0), (ii mf), (ii mn), (ii 0), (ii 0), (ii 0), (ii 0), (ii 0), (ii 0), (ii 0), (ii 0), (ii 0), (ii 0), (ii 0), (ii 0), (.slice none 0 0), (ii 0), (ii 0), (ii 0), (ii 0), (ii 0), (ii 0), (ii 0), (ii 0), (ii 0), (ii 0), (ii 0), (ii 0), (.string (bstr ([])))]) [bx b_9 47 [(ii 3), (ii 2), (ii 0), (ii mf), (ii mn), (ii 0), (ii 0), (ii 0), (ii 0), (ii 0), (ii 0), (ii 0), (ii 0), (ii 0), (ii 0), (ii 0), (ii 0), (.slice none 0 0), (ii 0), (ii 0), (ii 0), (ii 0), (ii 0), (ii 0), (ii 0), (ii 0), (ii 0), (ii 0), (ii 0), (ii 0), (.string (bstr ([])))] true, bx cb 55 [(ii t0), (ii x0), (ii t1), (ii x1)] true, bx bs 111 [(.slice (some ⟨cs, 0, none⟩) 2 kcs), (.slice Ss ls.length kSs), (.bool hd), (ii at_), (ii od)] true, bx cs 115 (flat chC [c, c2] ++ rests) true, bx bt 111 [(.slice (some ⟨ct, 0, none⟩) 1 kct), (.slice St lt.length kSt), (.bool hd), (ii at_), (ii od)] true, bx ct 115 (flat chC [c2] ++ restt) true] rfl fun w_11 a H HP => ?_
   refine H.ge HP [(15, (.bool isb))] [] fun a H => ?_
   refine ztn ?_
   refine w_cut (fun a wv => ∃ (hd2 : Bool), ∃ (at2 : Int), ∃ (od2 : Int), Sl 168 [(13, (ii i)), (0, (.slice XA xs.length xc)), (1, (.slice AL l.length cl)), (5, (.bool true)), (6, (.slice LA li.length lc)), (7, (.slice AP 2 cp)), (8, (pt bs 0)), (10, (pt bt 0)), (12, (.slice (some ⟨cb, 0, none⟩) 2 2))] a ∧ Hp w wv [bx cb 55 [(ii t0), (ii x0), (ii t1), (ii x1)] true, bx bs 111 [(.slice (some ⟨cs, 0, none⟩) 2 kcs), (.slice Ss ls.length kSs), (.bool hd2), (ii at2), (ii od2)] true, bx cs 115 (flat chC [c, c2] ++ rests) true, bx bt 111 [(.slice (some ⟨ct, 0, none⟩) 1 kct), (.slice St lt.length kSt), (.bool hd2), (ii at2), (ii od2)] true, bx ct 115 (flat chC [c2] ++ restt) true] [astsK St lt, astsK Ss ls, rowF 13 plnC (dropA AP cp 1 13) [(pl1 I1 i1)], rowF 13 plnC AP [(pl0 I0 i0), (pl1 I1 i1)], itsK [(pl0 I0 i0), (pl1 I1 i1)], astsK LA li, laidK, rowF 9 ar9 AL l, rowF 1 i1C XA xs] ∧ (BeatOk hd2 at2 od2 (i : Int))) ?_ ?_
   ·
    refine zsq (zrg ?_)
    refine H.ge HP [(64, (.bool isb))] [] fun a H => ?_
    refine ztn ?_
    refine w_if H rfl (fun g64 => ?_) (fun g64 => ?_)
    ·have g64p := g64
     refine zsq (zrg ?_)
     refine H.go HP 2 [(65, (pt bs 0)), (66, (.agg #[(ii 3), (ii 2), (ii 0), (ii mf), (ii mn), (ii 0), (ii 0), (ii 0), (ii 0), (ii 0), (ii 0), (ii 0), (ii 0), (ii 0), (ii 0), (ii 0), (ii 0), (.slice none 0 0), (ii 0), (ii 0), (ii 0), (ii 0), (ii 0), (ii 0), (ii 0), (ii 0), (ii 0), (ii 0), (ii 0), (ii 0), (.string (bstr ([])))]))] [0] fun a H => ?_
     obtain ⟨hd1, at1, od1, hr1⟩ : ∃ x y z, recvP (hd, at_, od) mf mn = (x, y, z) := ⟨_, _, _, rfl⟩
     refine H.cl 67 (Tryz.call16 _ _) (receive_any bs cs 2 kcs Ss ls.length kSs hd at_ od 2 mf mn w_11 (HP.at_ 2 rfl) (by decide)) ?_
     rintro e w_12 ⟨rfl, hbx, hgr⟩
     refine ⟨_, rfl, ?_⟩
     intro a H
     have HP := (HP.changed 2 rfl [(.slice (some ⟨cs, 0, none⟩) 2 kcs), (.slice Ss ls.length kSs), (.bool hd1), (ii at1), (ii od1)] [bx b_9 47 [(ii 3), (ii 2), (ii 0), (ii mf), (ii mn), (ii 0), (ii 0), (ii 0), (ii 0), (ii 0), (ii 0), (ii 0), (ii 0), (ii 0), (ii 0), (ii 0), (ii 0), (.slice none 0 0), (ii 0), (ii 0), (ii 0), (ii 0), (ii 0), (ii 0), (ii 0), (ii 0), (ii 0), (ii 0), (ii 0), (ii 0), (.string (bstr ([])))] true, bx cb 55 [(ii t0), (ii x0), (ii t1), (ii x1)] true, bx bs 111 [(.slice (some ⟨cs, 0, none⟩) 2 kcs), (.slice Ss ls.length kSs), (.bool hd1), (ii at1), (ii od1)] true, bx cs 115 (flat chC [c, c2] ++ rests) true, bx bt 111 [(.slice (some ⟨ct, 0, none⟩) 1 kct), (.slice St lt.length kSt), (.bool hd), (ii at_), (ii od)] true, bx ct 115 (flat chC [c2] ++ restt) true] (by kernel_rfl) hgr (by have hh := hbx; rw [hr1] at hh; exact hh))
     refine znl (ztn (zrg ?_))
     refine H.go HP 2 [(68, (pt bt 0)), (69, (.agg #[(ii 3), (ii 2), (ii 0), (ii mf), (ii mn), (ii 0), (ii 0), (ii 0), (ii 0), (ii 0), (ii 0), (ii 0), (ii 0), (ii 0), (ii 0), (ii 0), (ii 0), (.slice none 0 0), (ii 0), (ii 0), (ii 0), (ii 0), (ii 0), (ii 0), (ii 0), (ii 0), (ii 0), (ii 0), (ii 0), (ii 0), (.string (bstr ([])))]))] [0] fun a H => ?_
     refine H.cl 70 (Tryz.call16 _ _) (receive_any bt ct 1 kct St lt.length kSt hd at_ od 2 mf mn w_12 (HP.at_ 4 rfl) (by decide)) ?_
     rintro e w_13 ⟨rfl, hbx, hgr⟩
     refine ⟨_, rfl, ?_⟩
     intro a H
     have HP := (HP.changed 4 rfl [(.slice (some ⟨ct, 0, none⟩) 1 kct), (.slice St lt.length kSt), (.bool hd1), (ii at1), (ii od1)] [bx b_9 47 [(ii 3), (ii 2), (ii 0), (ii mf), (ii mn), (ii 0), (ii 0), (ii 0), (ii 0), (ii 0), (ii 0), (ii 0), (ii 0), (ii 0), (ii 0), (ii 0), (ii 0), (.slice none 0 0), (ii 0), (ii 0), (ii 0), (ii 0), (ii 0), (ii 0), (ii 0), (ii 0), (ii 0), (ii 0), (ii 0), (ii 0), (.string (bstr ([])))] true, bx cb 55 [(ii t0), (ii x0), (ii t1), (ii x1)] true, bx bs 111 [(.slice (some ⟨cs, 0, none⟩) 2 kcs), (.slice Ss ls.length kSs), (.bool hd1), (ii at1), (ii od1)] true, bx cs 115 (flat chC [c, c2] ++ rests) true, bx bt 111 [(.slice (some ⟨ct, 0, none⟩) 1 kct), (.slice St lt.length kSt), (.bool hd1), (ii at1), (ii od1)] true, bx ct 115 (flat chC [c2] ++ restt) true] (by kernel_rfl) hgr (by have hh := hbx; rw [hr1] at hh; exact hh))
     refine znl (ztn ?_)
     exact ⟨hd1, at1, od1, H.keep (by kernel_rfl), (HP.subw [1, 2, 3, 4, 5] [bx cb 55 [(ii t0), (ii x0), (ii t1), (ii x1)] true, bx bs 111 [(.slice (some ⟨cs, 0, none⟩) 2 kcs), (.slice Ss ls.length kSs), (.bool hd1), (ii at1), (ii od1)] true, bx cs 115 (flat chC [c, c2] ++ rests) true, bx bt 111 [(.slice (some ⟨ct, 0, none⟩) 1 kct), (.slice St lt.length kSt), (.bool hd1), (ii at1), (ii od1)] true, bx ct 115 (flat chC [c2] ++ restt) true] (by kernel_rfl) (by kernel_rfl)), (recv_ok hbo hr1 hmf (by omega))⟩
    have g64p := g64
    refine zsk (ztn ?_)
    exact ⟨hd, at_, od, H.keep (by kernel_rfl), (HP.subw [1, 2, 3, 4, 5] [bx cb 55 [(ii t0), (ii x0), (ii t1), (ii x1)] true, bx bs 111 [(.slice (some ⟨cs, 0, none⟩) 2 kcs), (.slice Ss ls.length kSs), (.bool hd), (ii at_), (ii od)] true, bx cs 115 (flat chC [c, c2] ++ rests) true, bx bt 111 [(.slice (some ⟨ct, 0, none⟩) 1 kct), (.slice St lt.length kSt), (.bool hd), (ii at_), (ii od)] true, bx ct 115 (flat chC [c2] ++ restt) true] (by kernel_rfl) (by kernel_rfl)), hbo⟩
   
   rintro a w_14 ⟨hd2, at2, od2, H, HP, hbo2⟩
   have hbb0 := hbo2.a0; have hbb1 := hbo2.a1
   refine zsq ?_
   have HP := HP.front 0 rfl _ rfl
   refine An.start (fun v => Hp w v [bx bs 111 [(.slice (some ⟨cs, 0, none⟩) 2 kcs), (.slice Ss ls.length kSs), (.bool hd2), (ii at2), (ii od2)] true, bx cs 115 (flat chC [c, c2] ++ rests) true, bx bt 111 [(.slice (some ⟨ct, 0, none⟩) 1 kct), (.slice St lt.length kSt), (.bool hd2), (ii at2), (ii od2)] true, bx ct 115 (flat chC [c2] ++ restt) true] [astsK St lt, astsK Ss ls, rowF 13 plnC (dropA AP cp 1 13) [(pl1 I1 i1)], rowF 13 plnC AP [(pl0 I0 i0), (pl1 I1 i1)], itsK [(pl0 I0 i0), (pl1 I1 i1)], astsK LA li, laidK, rowF 9 ar9 AL l, rowF 1 i1C XA xs]) 30 30 HP wide_follows rfl fun w_15 HP => ?_
   refine An.go H (.inr ((HP.tail rfl))) 29 [0] [(71, (.slice (some ⟨cb, 0, none⟩) 2 2))] [] fun a H => ?_
   refine An.q H (.inr ((HP.tail rfl))) 1 72 (pt cb 0) (fun _ => ex_index (b := cb) (off := 0) (len := 2) (cap := 2) (e := 55) (k := 2) (ik := .i64) (i := 0) (m := 0) (by kernel_rfl) (by kernel_rfl) rfl (by decide) (by kernel_rfl) (by kernel_rfl)) fun a H => ?_
   refine An.go H (.inr ((HP.tail rfl))) 27 [2] [(73, (.slice AP 2 cp))] [] fun a H => ?_
   refine An.q H (.inr ((HP.tail rfl))) 3 74 (.pointer (some ⟨bp, op + 0 * 13, none⟩)) (fun _ => ex_indexA (b := bp) (off := op) (len := 2) (cap := cp) (e := 67) (k := 13) (ik := .i64) (i := 0) (m := 0) hAplA (by kernel_rfl) (by kernel_rfl) rfl (by decide) (by kernel_rfl) (by kernel_rfl)) fun a H => ?_
   refine An.vw H ((HP.tail rfl)) 4 75 (.agg #[(ii 3), (ii 50), (ii 1), (ii 0), (.slice none 0 0), (ii 0), (ii 2), (ii 500), (ii 1), (.slice I0 3 i0), (.slice none 0 0), (.slice none 0 0), (.slice none 0 0)]) (fun _ hS => ex_lN [(ii 3), (ii 50), (ii 1), (ii 0), (.slice none 0 0), (ii 0), (ii 2), (ii 500), (ii 1), (.slice I0 3 i0), (.slice none 0 0), (.slice none 0 0), (.slice none 0 0)] (IsRow.cells plnC_size (hS.fact 3 rfl : IsRow 13 plnC _ AP [(pl0 I0 i0), (pl1 I1 i1)]) hAplA (i := 0) (x := (pl0 I0 i0)) rfl)) fun a H => ?_
   refine An.go H (.inr ((HP.tail rfl))) 21 [5, 6, 7, 8] [(76, (.slice LA li.length lc)), (77, (ii i)), (78, (.slice AL l.length cl)), (79, (ii i))] [] fun a H => ?_
   refine An.q H (.inr ((HP.tail rfl))) 9 80 (.pointer (some ⟨bL, oL + i * 9, none⟩)) (fun _ => ex_indexA (b := bL) (off := oL) (len := l.length) (cap := cl) (e := 50) (k := 9) (ik := .i64) (i := (i : Int)) (m := i) hAL (by kernel_rfl) (by kernel_rfl) rfl (by omega) (by kernel_rfl) (by kernel_rfl)) fun a H => ?_
   refine An.p H (.inr ((HP.tail rfl))) 10 81 (.pointer (some ⟨bL, oL + i * 9, none⟩)) fun a H => ?_
   refine An.vw H ((HP.tail rfl)) 11 82 (ii (q 0)) (fun _ hS => ex_l1 (IsRow.cells ar9_size (hS.fact 7 rfl : IsRow 9 ar9 _ AL l) hAL hq 0 _ rfl)) fun a H => ?_
   refine An.go H (.inr ((HP.tail rfl))) 16 [12, 13] [(83, (.slice AL l.length cl)), (84, (ii i))] [] fun a H => ?_
   refine An.q H (.inr ((HP.tail rfl))) 14 85 (.pointer (some ⟨bL, oL + i * 9, none⟩)) (fun _ => ex_indexA (b := bL) (off := oL) (len := l.length) (cap := cl) (e := 50) (k := 9) (ik := .i64) (i := (i : Int)) (m := i) hAL (by kernel_rfl) (by kernel_rfl) rfl (by omega) (by kernel_rfl) (by kernel_rfl)) fun a H => ?_
   refine An.p H (.inr ((HP.tail rfl))) 15 86 (.pointer (some ⟨bL, oL + i * 9 + 1, none⟩)) fun a H => ?_
   refine An.vw H ((HP.tail rfl)) 16 87 (ii (q 1)) (fun _ hS => ex_l1 (IsRow.cells ar9_size (hS.fact 7 rfl : IsRow 9 ar9 _ AL l) hAL hq 1 _ rfl)) fun a H => ?_
   refine An.go H (.inr ((HP.tail rfl))) 11 [17, 18] [(88, (.slice AL l.length cl)), (89, (ii i))] [] fun a H => ?_
   refine An.q H (.inr ((HP.tail rfl))) 19 90 (.pointer (some ⟨bL, oL + i * 9, none⟩)) (fun _ => ex_indexA (b := bL) (off := oL) (len := l.length) (cap := cl) (e := 50) (k := 9) (ik := .i64) (i := (i : Int)) (m := i) hAL (by kernel_rfl) (by kernel_rfl) rfl (by omega) (by kernel_rfl) (by kernel_rfl)) fun a H => ?_
   refine An.p H (.inr ((HP.tail rfl))) 20 91 (.pointer (some ⟨bL, oL + i * 9 + 2, none⟩)) fun a H => ?_
   refine An.vw H ((HP.tail rfl)) 21 92 (ii (q 2)) (fun _ hS => ex_l1 (IsRow.cells ar9_size (hS.fact 7 rfl : IsRow 9 ar9 _ AL l) hAL hq 2 _ rfl)) fun a H => ?_
   refine An.go H (.inr ((HP.tail rfl))) 6 [22, 23] [(93, (.slice AL l.length cl)), (94, (ii i))] [] fun a H => ?_
   refine An.q H (.inr ((HP.tail rfl))) 24 95 (.pointer (some ⟨bL, oL + i * 9, none⟩)) (fun _ => ex_indexA (b := bL) (off := oL) (len := l.length) (cap := cl) (e := 50) (k := 9) (ik := .i64) (i := (i : Int)) (m := i) hAL (by kernel_rfl) (by kernel_rfl) rfl (by omega) (by kernel_rfl) (by kernel_rfl)) fun a H => ?_
   refine An.p H (.inr ((HP.tail rfl))) 25 96 (.pointer (some ⟨bL, oL + i * 9 + 3, none⟩)) fun a H => ?_
   refine An.vw H ((HP.tail rfl)) 26 97 (ii (q 3)) (fun _ hS => ex_l1 (IsRow.cells ar9_size (hS.fact 7 rfl : IsRow 9 ar9 _ AL l) hAL hq 3 _ rfl)) fun a H => ?_
   refine An.go H (.inr ((HP.tail rfl))) 2 [27] [(98, (.agg #[(ii (q 0)), (ii (q 1)), (ii (q 2)), (ii (q 3))]))] [] fun a H => ?_
   refine An.one 28 (by kernel_rfl) ?_
   refine Op.call H 99 rfl (by kernel_rfl) (Eq.trans (by kernel_rfl : _ = (callFunc 19 #[(pt cb 0), (.agg #[(ii 3), (ii 50), (ii 1), (ii 0), (.slice none 0 0), (ii 0), (ii 2), (ii 500), (ii 1), (.slice I0 3 i0), (.slice none 0 0), (.slice none 0 0), (.slice none 0 0)]), (.slice LA li.length lc), (ii i), (.agg #[(ii (q 0)), (ii (q 1)), (ii (q 2)), (ii (q 3))])]).run Tryz.prog w_15) (Tryz.call19 _ _)) (sent0_any cb 0 lc (pl0 I0 i0) LA li (i : Int) (q 0) (q 1) (q 2) (q 3) t0 x0 [] [(ii t1), (ii x1)] w_15 rfl (by omega) pl0_ok1.1 (hqi 0) (hqi 1) (hqi 2) (hqi 3) (by omega) (by omega) (HP.factNo 5 0 rfl rfl) (HP.ge2 6 0 rfl rfl) (HP.fact 6 rfl) (HP.fact 5 rfl) hli.max hli.pl hli.dl (HP.at_ 0 rfl)) ?_
   rintro e w_16 ⟨s1, it1, ix1, rfl, hsn1, hit1, hix1, hbx, hgr⟩
   refine ⟨_, rfl, ?_⟩
   intro a H
   have HP := (HP.changed 0 rfl [(ii it1), (ii ix1), (ii t1), (ii x1)] [bx cb 55 [(ii it1), (ii ix1), (ii t1), (ii x1)] true, bx bs 111 [(.slice (some ⟨cs, 0, none⟩) 2 kcs), (.slice Ss ls.length kSs), (.bool hd2), (ii at2), (ii od2)] true, bx cs 115 (flat chC [c, c2] ++ rests) true, bx bt 111 [(.slice (some ⟨ct, 0, none⟩) 1 kct), (.slice St lt.length kSt), (.bool hd2), (ii at2), (ii od2)] true, bx ct 115 (flat chC [c2] ++ restt) true] (by kernel_rfl) hgr hbx)
   refine ⟨.inr ((HP.tail rfl)), ?_⟩
   refine An.go H (.inr ((HP.tail rfl))) 0 [29] [(16, (.string (bstr s1)))] [] fun a H => ?_
   refine An.done (by kernel_rfl) ?_
   refine ztn (zsq ?_)
   have HP := HP.front 0 rfl _ rfl
   refine An.start (fun v => Hp w v [bx bs 111 [(.slice (some ⟨cs, 0, none⟩) 2 kcs), (.slice Ss ls.length kSs), (.bool hd2), (ii at2), (ii od2)] true, bx cs 115 (flat chC [c, c2] ++ rests) true, bx bt 111 [(.slice (some ⟨ct, 0, none⟩) 1 kct), (.slice St lt.length kSt), (.bool hd2), (ii at2), (ii od2)] true, bx ct 115 (flat chC [c2] ++ restt) true] [astsK St lt, astsK Ss ls, rowF 13 plnC (dropA AP cp 1 13) [(pl1 I1 i1)], rowF 13 plnC AP [(pl0 I0 i0), (pl1 I1 i1)], itsK [(pl0 I0 i0), (pl1 I1 i1)], astsK LA li, laidK, rowF 9 ar9 AL l, rowF 1 i1C XA xs]) 30 30 HP wide_follows rfl fun w_17 HP => ?_
   refine An.go H (.inr ((HP.tail rfl))) 29 [0] [(100, (.slice (some ⟨cb, 0, none⟩) 2 2))] [] fun a H => ?_
   refine An.q H (.inr ((HP.tail rfl))) 1 101 (pt cb 2) (fun _ => ex_index (b := cb) (off := 0) (len := 2) (cap := 2) (e := 55) (k := 2) (ik := .i64) (i := 1) (m := 1) (by kernel_rfl) (by kernel_rfl) rfl (by decide) (by kernel_rfl) (by kernel_rfl)) fun a H => ?_
   refine An.go H (.inr ((HP.tail rfl))) 27 [2] [(102, (.slice AP 2 cp))] [] fun a H => ?_
   refine An.q H (.inr ((HP.tail rfl))) 3 103 (.pointer (some ⟨bp, op + 1 * 13, none⟩)) (fun _ => ex_indexA (b := bp) (off := op) (len := 2) (cap := cp) (e := 67) (k := 13) (ik := .i64) (i := 1) (m := 1) hAplA (by kernel_rfl) (by kernel_rfl) rfl (by decide) (by kernel_rfl) (by kernel_rfl)) fun a H => ?_
   refine An.vw H ((HP.tail rfl)) 4 104 (.agg #[(ii 0), (ii 25), (ii 1), (ii 0), (.slice none 0 0), (ii 0), (ii 2), (ii 500), (ii 1), (.slice I1 3 i1), (.slice none 0 0), (.slice none 0 0), (.slice none 0 0)]) (fun _ hS => ex_lN [(ii 0), (ii 25), (ii 1), (ii 0), (.slice none 0 0), (ii 0), (ii 2), (ii 500), (ii 1), (.slice I1 3 i1), (.slice none 0 0), (.slice none 0 0), (.slice none 0 0)] (IsRow.cells plnC_size (hS.fact 3 rfl : IsRow 13 plnC _ AP [(pl0 I0 i0), (pl1 I1 i1)]) hAplA (i := 1) (x := (pl1 I1 i1)) rfl)) fun a H => ?_
   refine An.go H (.inr ((HP.tail rfl))) 21 [5, 6, 7, 8] [(105, (.slice LA li.length lc)), (106, (ii i)), (107, (.slice AL l.length cl)), (108, (ii i))] [] fun a H => ?_
   refine An.q H (.inr ((HP.tail rfl))) 9 109 (.pointer (some ⟨bL, oL + i * 9, none⟩)) (fun _ => ex_indexA (b := bL) (off := oL) (len := l.length) (cap := cl) (e := 50) (k := 9) (ik := .i64) (i := (i : Int)) (m := i) hAL (by kernel_rfl) (by kernel_rfl) rfl (by omega) (by kernel_rfl) (by kernel_rfl)) fun a H => ?_
   refine An.p H (.inr ((HP.tail rfl))) 10 110 (.pointer (some ⟨bL, oL + i * 9 + 4, none⟩)) fun a H => ?_
   refine An.vw H ((HP.tail rfl)) 11 111 (ii (q 4)) (fun _ hS => ex_l1 (IsRow.cells ar9_size (hS.fact 7 rfl : IsRow 9 ar9 _ AL l) hAL hq 4 _ rfl)) fun a H => ?_
   refine An.go H (.inr ((HP.tail rfl))) 16 [12, 13] [(112, (.slice AL l.length cl)), (113, (ii i))] [] fun a H => ?_
   refine An.q H (.inr ((HP.tail rfl))) 14 114 (.pointer (some ⟨bL, oL + i * 9, none⟩)) (fun _ => ex_indexA (b := bL) (off := oL) (len := l.length) (cap := cl) (e := 50) (k := 9) (ik := .i64) (i := (i : Int)) (m := i) hAL (by kernel_rfl) (by kernel_rfl) rfl (by omega) (by kernel_rfl) (by kernel_rfl)) fun a H => ?_
   refine An.p H (.inr ((HP.tail rfl))) 15 115 (.pointer (some ⟨bL, oL + i * 9 + 5, none⟩)) fun a H => ?_
   refine An.vw H ((HP.tail rfl)) 16 116 (ii (q 5)) (fun _ hS => ex_l1 (IsRow.cells ar9_size (hS.fact 7 rfl : IsRow 9 ar9 _ AL l) hAL hq 5 _ rfl)) fun a H => ?_
   refine An.go H (.inr ((HP.tail rfl))) 11 [17, 18] [(117, (.slice AL l.length cl)), (118, (ii i))] [] fun a H => ?_
   refine An.q H (.inr ((HP.tail rfl))) 19 119 (.pointer (some ⟨bL, oL + i * 9, none⟩)) (fun _ => ex_indexA (b := bL) (off := oL) (len := l.length) (cap := cl) (e := 50) (k := 9) (ik := .i64) (i := (i : Int)) (m := i) hAL (by kernel_rfl) (by kernel_rfl) rfl (by omega) (by kernel_rfl) (by kernel_rfl)) fun a H => ?_
   refine An.p H (.inr ((HP.tail rfl))) 20 120 (.pointer (some ⟨bL, oL + i * 9 + 6, none⟩)) fun a H => ?_
   refine An.vw H ((HP.tail rfl)) 21 121 (ii (q 6)) (fun _ hS => ex_l1 (IsRow.cells ar9_size (hS.fact 7 rfl : IsRow 9 ar9 _ AL l) hAL hq 6 _ rfl)) fun a H => ?_
   refine An.go H (.inr ((HP.tail rfl))) 6 [22, 23] [(122, (.slice AL l.length cl)), (123, (ii i))] [] fun a H => ?_
   refine An.q H (.inr ((HP.tail rfl))) 24 124 (.pointer (some ⟨bL, oL + i * 9, none⟩)) (fun _ => ex_indexA (b := bL) (off := oL) (len := l.length) (cap := cl) (e := 50) (k := 9) (ik := .i64) (i := (i : Int)) (m := i) hAL (by kernel_rfl) (by kernel_rfl) rfl (by omega) (by kernel_rfl) (by kernel_rfl)) fun a H => ?_
   refine An.p H (.inr ((HP.tail rfl))) 25 125 (.pointer (some ⟨bL, oL + i * 9 + 7, none⟩)) fun a H => ?_
   refine An.vw H ((HP.tail rfl)) 26 126 (ii (q 7)) (fun _ hS => ex_l1 (IsRow.cells ar9_size (hS.fact 7 rfl : IsRow 9 ar9 _ AL l) hAL hq 7 _ rfl)) fun a H => ?_
   refine An.go H (.inr ((HP.tail rfl))) 2 [27] [(127, (.agg #[(ii (q 4)), (ii (q 5)), (ii (q 6)), (ii (q 7))]))] [] fun a H => ?_
   refine An.one 28 (by kernel_rfl) ?_
   refine Op.call H 128 rfl (by kernel_rfl) (Eq.trans (by kernel_rfl : _ = (callFunc 19 #[(pt cb 2), (.agg #[(ii 0), (ii 25), (ii 1), (ii 0), (.slice none 0 0), (ii 0), (ii 2), (ii 500), (ii 1), (.slice I1 3 i1), (.slice none 0 0), (.slice none 0 0), (.slice none 0 0)]), (.slice LA li.length lc), (ii i), (.agg #[(ii (q 4)), (ii (q 5)), (ii (q 6)), (ii (q 7))])]).run Tryz.prog w_17) (Tryz.call19 _ _)) (sent0_any cb 2 lc (pl1 I1 i1) LA li (i : Int) (q 4) (q 5) (q 6) (q 7) t1 x1 [(ii it1), (ii ix1)] [] w_17 rfl (by omega) pl1_ok1.1 (hqi 4) (hqi 5) (hqi 6) (hqi 7) (by omega) (by omega) (HP.factNo 5 0 rfl rfl) (HP.ge2 6 0 rfl rfl) (HP.fact 6 rfl) (HP.fact 5 rfl) hli.max hli.pl hli.dl (HP.at_ 0 rfl)) ?_
   rintro e w_18 ⟨s2, it2, ix2, rfl, hsn2, hit2, hix2, hbx, hgr⟩
   refine ⟨_, rfl, ?_⟩
   intro a H
   have HP := (HP.changed 0 rfl [(ii it1), (ii ix1), (ii it2), (ii ix2)] [bx cb 55 [(ii it1), (ii ix1), (ii it2), (ii ix2)] true, bx bs 111 [(.slice (some ⟨cs, 0, none⟩) 2 kcs), (.slice Ss ls.length kSs), (.bool hd2), (ii at2), (ii od2)] true, bx cs 115 (flat chC [c, c2] ++ rests) true, bx bt 111 [(.slice (some ⟨ct, 0, none⟩) 1 kct), (.slice St lt.length kSt), (.bool hd2), (ii at2), (ii od2)] true, bx ct 115 (flat chC [c2] ++ restt) true] (by kernel_rfl) hgr hbx)
   refine ⟨.inr ((HP.tail rfl)), ?_⟩
   refine An.go H (.inr ((HP.tail rfl))) 0 [29] [(17, (.string (bstr s2)))] [] fun a H => ?_
   refine An.done (by kernel_rfl) ?_
   refine ztn (zsq (zrg ?_))
   refine H.go HP 4 [(129, (pt bs 0)), (130, (ii i)), (131, (.string (bstr s1))), (132, (.string (bstr s2)))] [] fun a H => H.alloc HP 133 (fun b => (.slice (some ⟨b, 0, none⟩) 2 2)) 9 [(.string (bstr s1)), (.string (bstr s2))] (by kernel_rfl) (fun w => by kernel_rfl) fun b_19 w_20 a H HP => H.go HP 1 [(134, (.string (bstr s1)))] [] fun a H => H.alloc HP 135 (fun b => (.slice (some ⟨b, 0, none⟩) 1 1)) 9 [(.string (bstr s1))] (by kernel_rfl) (fun w => by kernel_rfl) fun b_21 w_22 a H HP => ?_
   refine H.cl 136 (Tryz.call20 _ _) (chooseL2 bs cs kcs kSs Ss h1s hd2 at2 od2 (i : Int) rests c c2 hc hc2 (some ⟨b_19, 0, none⟩) (some ⟨b_21, 0, none⟩) 2 1 [s1, s2] [s1] w_22 ⟨(fun x hx => by simp only [List.mem_cons, List.not_mem_nil, or_false] at hx; rcases hx with rfl | rfl; exact (hsn1.ok).1; exact (hsn2.ok).1), (hsn1.ok), (hsn2.ok)⟩ ⟨(fun x hx => by simp only [List.mem_cons, List.not_mem_nil, or_false] at hx; rcases hx with rfl; exact (hsn1.ok).1), (hsn1.ok), (strOk_nil _)⟩ (by omega) (by omega) (HP.ne 3 4 rfl rfl (by decide)) (HP.factNo 1 4 rfl rfl) (HP.ge2 6 4 rfl rfl) (rowFp_ne (HP.ne 1 4 rfl rfl (by decide))) (rowFp_ne (HP.ne 0 4 rfl rfl (by decide))) (HP.fact 6 rfl) (HP.fact 1 rfl) (HP.at_ 3 rfl) (HP.at_ 4 rfl) (str2 (HP.at_ 1 rfl)) (str1 (HP.at_ 0 rfl))) ?_
   rintro e w_23 ⟨A1, k1, u1, g1, tk1, v1, f1, tl1, B1, d1, C1, e1, rfl, hch1, hci1, hal1, ham1, hrw1, hnw1, hbx, hgr⟩
   refine ⟨_, rfl, ?_⟩
   intro a H
   have HP := (HP.changedRow 4 rfl (flat chC [chN c u1 g1 tk1, chN c2 v1 f1 tl1] ++ rests) [bx b_21 9 [(.string (bstr s1))] true, bx b_19 9 [(.string (bstr s1)), (.string (bstr s2))] true, bx cb 55 [(ii it1), (ii ix1), (ii it2), (ii ix2)] true, bx bs 111 [(.slice (some ⟨cs, 0, none⟩) 2 kcs), (.slice Ss ls.length kSs), (.bool hd2), (ii at2), (ii od2)] true, bx cs 115 (flat chC [chN c u1 g1 tk1, chN c2 v1 f1 tl1] ++ rests) true, bx bt 111 [(.slice (some ⟨ct, 0, none⟩) 1 kct), (.slice St lt.length kSt), (.bool hd2), (ii at2), (ii od2)] true, bx ct 115 (flat chC [c2] ++ restt) true] (by kernel_rfl) hgr hbx hrw1 hnw1)
   obtain ⟨bu1, ou1, hAu1⟩ := row_at2 unC_size hrw1
   refine H.ge HP [(18, (.slice A1 2 k1))] [] fun a H => ?_
   refine ztn (zsq (zrg ?_))
   refine H.go HP 3 [(137, (pt bt 0)), (138, (ii i)), (139, (.string (bstr s2)))] [] fun a H => H.alloc HP 140 (fun b => (.slice (some ⟨b, 0, none⟩) 1 1)) 9 [(.string (bstr s2))] (by kernel_rfl) (fun w => by kernel_rfl) fun b_24 w_25 a H HP => ?_
   refine H.cl 141 (Tryz.call20 _ _) (chooseL1 bt ct kct kSt St h1t hd2 at2 od2 (i : Int) restt c2 hc2 (some ⟨b_24, 0, none⟩) none 1 0 [s2] [] w_25 (rows_ok hsn2.ok) rows_no (by omega) (by omega) (HP.ne 6 7 rfl rfl (by decide)) (HP.factNo 1 7 rfl rfl) (HP.ge2 7 7 rfl rfl) (rowFp_ne (HP.ne 0 7 rfl rfl (by decide))) rowFp_none (HP.fact 7 rfl) (HP.fact 1 rfl) (HP.at_ 6 rfl) (HP.at_ 7 rfl) (str1 (HP.at_ 0 rfl)) (IsRow.nil _ _)) ?_
   rintro e w_26 ⟨A2, k2, u2, g2, tk2, B2, d2, rfl, hch2, hal2, hrw2, hnw2, hbx, hgr⟩
   refine ⟨_, rfl, ?_⟩
   intro a H
   have HP := (HP.changedRow 7 rfl (flat chC [chN c2 u2 g2 tk2] ++ restt) [bx b_24 9 [(.string (bstr s2))] true, bx b_21 9 [(.string (bstr s1))] true, bx b_19 9 [(.string (bstr s1)), (.string (bstr s2))] true, bx cb 55 [(ii it1), (ii ix1), (ii it2), (ii ix2)] true, bx bs 111 [(.slice (some ⟨cs, 0, none⟩) 2 kcs), (.slice Ss ls.length kSs), (.bool hd2), (ii at2), (ii od2)] true, bx cs 115 (flat chC [chN c u1 g1 tk1, chN c2 v1 f1 tl1] ++ rests) true, bx bt 111 [(.slice (some ⟨ct, 0, none⟩) 1 kct), (.slice St lt.length kSt), (.bool hd2), (ii at2), (ii od2)] true, bx ct 115 (flat chC [chN c2 u2 g2 tk2] ++ restt) true] (by kernel_rfl) hgr hbx hrw2 hnw2)
   obtain ⟨bu2, ou2, hAu2⟩ := row_at unC_size hrw2
   obtain ⟨e1, e2, e3⟩ := hci1.det hch2
   subst e1 e2 e3
   refine H.ge HP [(19, (.slice A2 1 k2))] [] fun a H => ?_
   refine ztn (zsq ?_)
   refine An.start (fun v => Hp w v [bx b_24 9 [(.string (bstr s2))] true, bx b_21 9 [(.string (bstr s1))] true, bx b_19 9 [(.string (bstr s1)), (.string (bstr s2))] true, bx cb 55 [(ii it1), (ii ix1), (ii it2), (ii ix2)] true, bx bs 111 [(.slice (some ⟨cs, 0, none⟩) 2 kcs), (.slice Ss ls.length kSs), (.bool hd2), (ii at2), (ii od2)] true, bx cs 115 (flat chC [chN c u1 g1 tk1, chN c2 v1 f1 tl1] ++ rests) true, bx bt 111 [(.slice (some ⟨ct, 0, none⟩) 1 kct), (.slice St lt.length kSt), (.bool hd2), (ii at2), (ii od2)] true, bx ct 115 (flat chC [chN c2 v1 f1 tl1] ++ restt) true] [rowF 13 unC A2 [uv v1 B2 d2], rowF 13 unC A1 [uv u1 B1 d1, uv v1 C1 e1], astsK St lt, astsK Ss ls, rowF 13 plnC (dropA AP cp 1 13) [(pl1 I1 i1)], rowF 13 plnC AP [(pl0 I0 i0), (pl1 I1 i1)], itsK [(pl0 I0 i0), (pl1 I1 i1)], astsK LA li, laidK, rowF 9 ar9 AL l, rowF 1 i1C XA xs]) 25 25 HP wide_follows rfl fun w_27 HP => ?_
   refine An.go H (.inr (HP)) 15 [0, 1, 2, 3, 4, 5, 6, 7, 8, 9] [(150, (.bool false)), (151, (.slice A1 2 k1))] [] fun a H => ?_
   refine An.q H (.inr (HP)) 10 152 (.pointer (some ⟨bu1, ou1 + 1 * 13, none⟩)) (fun _ => ex_indexA (b := bu1) (off := ou1) (len := 2) (cap := k1) (e := 76) (k := 13) (ik := .i64) (i := 1) (m := 1) hAu1 (by kernel_rfl) (by kernel_rfl) rfl (by decide) (by kernel_rfl) (by kernel_rfl)) fun a H => ?_
   refine An.vw H (HP) 11 153 (.agg #[(ii v1.channel), (ii v1.frame), (ii v1.version), (ii v1.item), (ii v1.index), (.bool v1.key), (.string (bstr v1.data)), (ii v1.regions), (ii v1.gain), (.string (bstr v1.caption)), (ii v1.os), (ii v1.of), (.slice C1 0 e1)]) (fun _ hS => ex_lN [(ii v1.channel), (ii v1.frame), (ii v1.version), (ii v1.item), (ii v1.index), (.bool v1.key), (.string (bstr v1.data)), (ii v1.regions), (ii v1.gain), (.string (bstr v1.caption)), (ii v1.os), (ii v1.of), (.slice C1 0 e1)] (IsRow.cells unC_size (hS.fact 1 rfl : IsRow 13 unC _ A1 [uv u1 B1 d1, uv v1 C1 e1]) hAu1 (i := 1) (x := uv v1 C1 e1) rfl)) fun a H => ?_
   refine An.go H (.inr (HP)) 12 [12] [(154, (.slice A2 1 k2))] [] fun a H => ?_
   refine An.q H (.inr (HP)) 13 155 (.pointer (some ⟨bu2, ou2 + 0 * 13, none⟩)) (fun _ => ex_indexA (b := bu2) (off := ou2) (len := 1) (cap := k2) (e := 76) (k := 13) (ik := .i64) (i := 0) (m := 0) hAu2 (by kernel_rfl) (by kernel_rfl) rfl (by decide) (by kernel_rfl) (by kernel_rfl)) fun a H => ?_
   refine An.vw H (HP) 14 156 (.agg #[(ii v1.channel), (ii v1.frame), (ii v1.version), (ii v1.item), (ii v1.index), (.bool v1.key), (.string (bstr v1.data)), (ii v1.regions), (ii v1.gain), (.string (bstr v1.caption)), (ii v1.os), (ii v1.of), (.slice B2 0 d2)]) (fun _ hS => ex_lN [(ii v1.channel), (ii v1.frame), (ii v1.version), (ii v1.item), (ii v1.index), (.bool v1.key), (.string (bstr v1.data)), (ii v1.regions), (ii v1.gain), (.string (bstr v1.caption)), (ii v1.os), (ii v1.of), (.slice B2 0 d2)] (IsRow.cells unC_size (hS.fact 0 rfl : IsRow 13 unC _ A2 [uv v1 B2 d2]) hAu2 (i := 0) (x := uv v1 B2 d2) rfl)) fun a H => ?_
   refine An.one 15 (by kernel_rfl) ?_
   refine Op.call H 157 rfl (by kernel_rfl) (Eq.trans (by kernel_rfl : _ = (callFunc 24 #[(.agg #[(ii v1.channel), (ii v1.frame), (ii v1.version), (ii v1.item), (ii v1.index), (.bool v1.key), (.string (bstr v1.data)), (ii v1.regions), (ii v1.gain), (.string (bstr v1.caption)), (ii v1.os), (ii v1.of), (.slice C1 0 e1)]), (.agg #[(ii v1.channel), (ii v1.frame), (ii v1.version), (ii v1.item), (ii v1.index), (.bool v1.key), (.string (bstr v1.data)), (ii v1.regions), (ii v1.gain), (.string (bstr v1.caption)), (ii v1.os), (ii v1.of), (.slice B2 0 d2)])]).run Tryz.prog w_27) (Tryz.call24 _ _)) ((by have hh := rusame_any (uv v1 C1 e1) (uv v1 B2 d2) w_27 (alts_uv _ _ _) (alts_uv _ _ _) (Nat.zero_le _); rw [show sameU (uv v1 C1 e1) (uv v1 B2 d2) = true from (same_bare _ _).2 rfl] at hh; exact hh)) ?_
   rintro e w_28 ⟨rfl, hb⟩
   refine ⟨_, rfl, ?_⟩
   intro a H
   have HP := HP.next hb
   refine ⟨.inr (HP), ?_⟩
   refine An.go H (.inr (HP)) 4 [16, 17, 18, 19, 21] [(160, (.bool false)), (161, (pt bs 0)), (163, (pt bt 0))] [] fun a H => ?_
   refine An.one 20 (by kernel_rfl) ?_
   refine Op.call H 162 rfl (by kernel_rfl) (Eq.trans (by kernel_rfl : _ = (callFunc 22 #[(pt bs 0), (ii 0)]).run Tryz.prog w_28) (Tryz.call22 _ _)) ((by have hh := full_any bs cs kcs _ _ _ _ [chN c u1 g1 tk1, chN c2 v1 f1 tl1] rests 0 w_28 (by show 0 < 2; decide) (by show 2 ≤ 40; decide) (HP.at_ 4 rfl) (HP.at_ 5 rfl); rw [show fullP 0 [chN c u1 g1 tk1, chN c2 v1 f1 tl1] = f1 from (if_neg (by show c.number ≠ 0; rw [hc.nb]; decide)).trans (if_pos hc2.nb)] at hh; exact hh)) ?_
   rintro e w_29 ⟨rfl, hb⟩
   refine ⟨_, rfl, ?_⟩
   intro a H
   have HP := HP.next hb
   refine ⟨.inr (HP), ?_⟩
   refine An.one 22 (by kernel_rfl) ?_
   refine Op.call H 164 rfl (by kernel_rfl) (Eq.trans (by kernel_rfl : _ = (callFunc 22 #[(pt bt 0), (ii 0)]).run Tryz.prog w_29) (Tryz.call22 _ _)) ((by have hh := full_any bt ct kct _ _ _ _ [chN c2 v1 f1 tl1] restt 0 w_29 (by show 0 < 1; decide) (by show 1 ≤ 40; decide) (HP.at_ 6 rfl) (HP.at_ 7 rfl); rw [show fullP 0 [chN c2 v1 f1 tl1] = f1 from if_pos hc2.nb] at hh; exact hh)) ?_
   rintro e w_30 ⟨rfl, hb⟩
   refine ⟨_, rfl, ?_⟩
   intro a H
   have HP := HP.next hb
   refine ⟨.inr (HP), ?_⟩
   refine An.pureE H (.inr (HP)) 23 165 (.bool (f1 != f1)) (.bool false) rfl (by kernel_rfl) (by kernel_rfl) (fun _ _ _ h => h) (fun _ => by kernel_rfl) ((congrArg Value.bool (by simp))) fun a H => ?_
   refine An.go H (.inr (HP)) 0 [24] [(166, (.bool false))] [] fun a H => ?_
   refine An.done (by kernel_rfl) ?_
   refine ztn ?_
   refine w_iff H rfl ?_
   refine zsk (zibn (ztn (zrg ?_)))
   refine H.go HP 1 [(52, (ii i))] [] fun a H => H.wi 53 ((i : Int) + 1) fun a H => ?_
   refine H.ge HP [(13, (ii ((i : Int) + 1)))] [] fun a H => ?_
   refine ztn ?_
   have H := H.as 13 (ii ((i + 1 : Nat) : Int)) rfl rfl
   refine ⟨_, ?_, i + 1, hd2, at2, od2, (chN c u1 g1 tk1), (chN c2 v1 f1 tl1), it1, ix1, it2, ix2, rfl, H.keep (by kernel_rfl), (HP.subw [3, 4, 5, 6, 7] [bx cb 55 [(ii it1), (ii ix1), (ii it2), (ii ix2)] true, bx bs 111 [(.slice (some ⟨cs, 0, none⟩) 2 kcs), (.slice Ss ls.length kSs), (.bool hd2), (ii at2), (ii od2)] true, bx cs 115 (flat chC [chN c u1 g1 tk1, chN c2 v1 f1 tl1] ++ rests) true, bx bt 111 [(.slice (some ⟨ct, 0, none⟩) 1 kct), (.slice St lt.length kSt), (.bool hd2), (ii at2), (ii od2)] true, bx ct 115 (flat chC [chN c2 v1 f1 tl1] ++ restt) true] (by kernel_rfl) (by kernel_rfl)).untop.untop, (by omega), (by omega), (beat_more hbo2), (hch1.ok hc), (hci1.ok hc2), (by omega)⟩
   omega
  have g51p := of_decide_eq_false g51
  refine wp_exit (then_exit (then_exit ?_))
  refine w_exit_here ?_
  refine ztn (zsq (zrg ?_))
  refine H.ge HP [(4, (.bool true))] [] fun a H => ?_
  refine ztn (zrt ?_)
  refine H.r1 (.bool true) Tryz.results7 ?_
  exact ⟨rfl, HP.bl⟩
 have g48p := of_decide_eq_false g48
 refine H.ge HP [(51, (.bool false))] [] fun a H => ?_
 refine ztn ?_
 refine w_iff H rfl ?_
 refine wp_exit (then_exit (then_exit ?_))
 refine w_exit_here ?_
 refine ztn (zsq (zrg ?_))
 refine H.ge HP [(4, (.bool true))] [] fun a H => ?_
 refine ztn (zrt ?_)
 refine H.r1 (.bool true) Tryz.results7 ?_
 exact ⟨rfl, HP.bl⟩
end Go.Proofs.YthpbaaadkhdifaaGreatDoor
namespace Go.Proofs.YthpbaaadkhdifaaGreatDoor.selectorChannels
set_option maxRecDepth 100000
set_option maxHeartbeats 4000000
open Go.ChangeShapes Go.WideShapes Go.ChangeAt Go.RowKit
theorem walk (a0 : SlA Int) (a1 : SlA (Nat → Int)) (w : World) (hL : Laid w) (h0 : opInts.ok w a0) (h1 : op9s.ok w a1) :
    Calls Tryz.prog 7 #[(opInts.cells a0).headD undef, (op9s.cells a1).headD undef] w fun e w' => e = .returned (.bool true) ∧ Below w.heap.size w w' :=
  chan_law a0.A a0.c a0.l a1.A a1.c a1.l w hL (ints_ok h0).row (ints_ok h0).all (ints_ok h0).len (ar9_ok h1).row (ar9_ok h1).all (ar9_ok h1).len
end Go.Proofs.YthpbaaadkhdifaaGreatDoor.selectorChannels
namespace Go.Proofs.YthpbaaadkhdifaaGreatDoor.selectorChannels
set_option maxRecDepth 100000
set_option maxHeartbeats 4000000
open Go.ChangeShapes Go.WideShapes Go.ChangeAt Go.RowKit
open Go.ChangeMaps (open_string shut_string)
set_option linter.unusedVariables false
theorem own : ownKnob Tryz.prog.godebug = none := by kernel_rfl
theorem laidOut : laidOutB Tryz.prog = true := by kernel_rfl
set_option maxRecDepth 100000 in
theorem lifted (os : Os) (started : os.Started) (H : Type) (enc : TypeId × Value → H) :
    ReturnsInHanded {} Tryz.checked os 7 .any (fun w args => (Rows.selectorChannelsSpec.pre enc Tryz.prog Tryz.f7 [] false w args ∧ laidMetH Tryz.prog laid2 w) ∧ sizedMet enc Tryz.prog Tryz.f7 (OpenSpec.ofChange Rows.selectorChannelsSpec) false w args) (Rows.selectorChannelsSpec.post enc Tryz.prog Tryz.f7 false true false false) := by
  refine returnsInHanded_of_change_and (C := Tryz.checked) (X := fun w _ => laidMetH Tryz.prog laid2 w) (fun _ _ _ hh h => h.of_heap hh) own started (by kernel_rfl) Tryz.func7
    (ChangeSpec.witness_shaped (enc := enc) (C := Tryz.checked) (os := os) (X := fun w _ => laidMetH Tryz.prog laid2 w) false (World.doorLaid Tryz.prog 4000 os) #[.slice none 0 0, .slice none 0 0] 12 rfl (World.shaped_of_RefB (by kernel_rfl) (by kernel_rfl)) (by kernel_rfl) (by kernel_rfl) (by kernel_rfl) (door_met os _)) ?_
  intro W base args ds gs before hval0 hW hcnd hsz0 hL _
  have hval : ∀ (j : Nat) t v, Tryz.f7.params[j]? = some t → args[j]? = some v → Value.okWide Tryz.prog W .any base t v := hval0
  have hW' := hW
  obtain ⟨p, q, hA0, hV, rfl, hfz, hnd⟩ := hW
  have hA : DataW.TrodAll enc Tryz.prog W 0 (fun _ => true) true Tryz.f7.params.toList args.toList ds p := hA0
  have hsz : (DataW.weightsEach Tryz.prog (Tryz.f7.params.toList ++ Rows.selectorChannelsSpec.plain.varTypes Tryz.prog) (ds ++ gs)).all (· ≤ reachBytes) = true := hsz0
  rw [Tryz.params7] at hA hval hsz
  obtain ⟨v0, vs0, d0, ds0, p0, q0, hargs, rfl, rfl, h0, r0⟩ := trodAll_cons hA
  obtain ⟨v1, vs1, d1, ds1, p1, q1, rfl, rfl, rfl, h1, r1⟩ := trodAll_cons r0
  obtain ⟨rfl, rfl, rfl⟩ := trodAll_nil r1
  obtain rfl : args = #[v0, v1] := by cases args; simp_all
  obtain ⟨rfl, rfl⟩ := trodVars_none hV
  obtain ⟨a0x, len0, cap0, rfl⟩ := okWide_slice Tryz.underlying22 (hval 0 22 v0 rfl rfl)
  have k0 := h0
  have lt0 : ∀ x ∈ p0, x.block < W.heap.size := by obtain ⟨m, hm⟩ := k0; exact DataW.trod_lt m _ _ _ hm
  obtain ⟨a0, w0, e0⟩ : ∃ a, opInts.ok W a ∧ Value.slice a0x len0 cap0 = (opInts.cells a).headD undef := by
    obtain ⟨fuel, hf⟩ := h0
    obtain ⟨a, ha, hok⟩ := opInts.opens hf (fun n hn => of_decide_eq_true (List.all_eq_true.1 hsz n (DataW.weights_mem_each (j := 0) (t := 22) (by rfl) (by rfl) n hn)))
    refine ⟨a, hok, ?_⟩
    have : [Value.slice a0x len0 cap0] = opInts.cells a := ha
    rw [← this]
    rfl
  rw [e0] at k0 hW' ⊢
  obtain ⟨a1x, len1, cap1, rfl⟩ := okWide_slice Tryz.underlying23 (hval 1 23 v1 rfl rfl)
  have k1 := h1
  have lt1 : ∀ x ∈ p1, x.block < W.heap.size := by obtain ⟨m, hm⟩ := k1; exact DataW.trod_lt m _ _ _ hm
  obtain ⟨a1, w1, e1⟩ : ∃ a, op9s.ok W a ∧ Value.slice a1x len1 cap1 = (op9s.cells a).headD undef := by
    obtain ⟨fuel, hf⟩ := h1
    obtain ⟨a, ha, hok⟩ := op9s.opens hf (fun n hn => of_decide_eq_true (List.all_eq_true.1 hsz n (DataW.weights_mem_each (j := 1) (t := 23) (by rfl) (by rfl) n hn)))
    refine ⟨a, hok, ?_⟩
    have : [Value.slice a1x len1 cap1] = op9s.cells a := ha
    rw [← this]
    rfl
  rw [e1] at k1 hW' ⊢
  clear hA0 hval0 hsz0
  refine (walk a0 a1 W (laid_of hL) w0 w1).mono fun e W' ⟨he, bel⟩ => ?_
  subst he
  exact ⟨_, rfl, _, _, _, [], _, [], hW', trodAll_mk1 (shut_bool Tryz.underlying4 _), (trodAll_cons_mk (Below.trod laidOut (by kernel_rfl) (of_decide_eq_true (by kernel_rfl)) k0 bel lt0) (trodAll_cons_mk (Below.trod laidOut (by kernel_rfl) (of_decide_eq_true (by kernel_rfl)) k1 bel lt1) trodAll_mk0)), rfl, bel.frame _, fun h => by cases h⟩
theorem over : Rows.selectorChannelsRow.holds Tryz.pinned (OpenSpec.ofChange Rows.selectorChannelsSpec) :=
  OpenClaim.holds_of_wide 7 Tryz.f7 rfl rfl rfl rfl rfl rfl rfl ⟨rfl, rfl, rfl, rfl, rfl⟩ rfl rfl rfl rfl rfl (by kernel_rfl) Tryz.func7 (by kernel_rfl)
    (of_decide_eq_true (by kernel_rfl)) (by unfold Func.isWrapper; first | (rw [if_pos (by decide +kernel)]; kernel_rfl) | (rw [if_neg (by decide +kernel)]; exact ⟨rfl, rfl⟩))
    (fun os started H enc _ => lifted os started H enc)
theorem proved : Rows.SelectorChannelsCardSaid :=
  Claim7.holds_tied_plain_at .later [] [.data, .data] true (true, "9dee3736a47d5fde62d585030fb6813f4463abab0d4d0d63d0a04982675a9e5c") false
    over (fun _ h => by cases h) (by kernel_rfl) (fun _ h => by cases h) selectorChannels_row_tie rfl ⟨rfl, rfl⟩ (by kernel_rfl) rfl
    (fun f fn hf hfn => by
      obtain rfl : f = 7 := Option.some.inj ((show Tryz.prog.funcNamed "onair/onairlaw22.SelectorChannels" = some 7 by kernel_rfl).symm.trans hf) |>.symm
      obtain rfl : fn = Tryz.f7 := (Option.some.inj (Tryz.func7.symm.trans hfn)).symm
      exact ⟨by kernel_rfl, fun j t ht => by
        rw [Tryz.params7] at ht
        have hm : t ∈ [22, 23] := by simpa using Array.mem_of_getElem? ht
        have hall : ([22, 23].all fun u => !Tryz.prog.wantsStandIn u) = true := by kernel_rfl
        exact (show Tryz.prog.wantsStandIn t = false by simpa using List.all_eq_true.1 hall t hm)⟩)
    (by kernel_rfl)
#print axioms proved
end Go.Proofs.YthpbaaadkhdifaaGreatDoor.selectorChannels
