/- The statement SelectorDecodable: for every input the law returns true and leaves its arguments as they were. No condition. -/
import Derived.Test.YthpbaaadkhdifaaGreatDoorCards
import Derived.Test.YthpbaaadkhdifaaGreatDoorTie
import Derived.WalkKit
import Derived.ProofKit
import Derived.OpenShut
import Derived.ShutString
import Derived.ChangeOld
import Derived.Below
import Derived.SizedLaws
import Derived.SevenTiedAt
import Derived.Test.YthpbaaadkhdifaaGreatDoorZch
namespace Go.Proofs.YthpbaaadkhdifaaGreatDoor
set_option maxRecDepth 100000
set_option maxHeartbeats 4000000
open Go.ChangeShapes Go.WideShapes Go.ChangeAt Go.RowKit Go.Shelf
set_option linter.unusedVariables false
set_option linter.unusedSimpArgs false
theorem dec_law (XA : Option Addr) (xc : Nat) (xs : List Int) (AL : Option Addr) (cl : Nat) (l : List (Nat → Int)) (w : World) (hL : Laid w) (hxr : IsRow 1 i1C w XA xs) (hxi : ∀ n ∈ xs, in64 n) (hxl : xs.length ≤ 1000000000000000) (hlr : IsRow 9 ar9 w AL l) (hin : ∀ q ∈ l, ∀ k, in64 (q k)) (hll : l.length ≤ 1000000000000000) :
  Calls Tryz.prog 5 #[.slice XA xs.length xc, .slice AL l.length cl] w fun e w' => e = .returned (.bool true) ∧ Below w.heap.size w w' := by
 have HP := ((((Hp.start w).keepF (rowF 1 i1C XA xs) hxr (rowF_ok _ _ _ _) (fun k hk => ⟨hxr.lt k hk, fun x hx => by cases hx⟩)).keepF (rowF 9 ar9 AL l) hlr (rowF_ok _ _ _ _) (fun k hk => ⟨hlr.lt k hk, fun x hx => by cases hx⟩)).keepF laidK hL laidK_ok (fun k hk => ⟨hL.lt k hk, fun x hx => by cases hx⟩))
 refine w_enter 181 [(0, (.slice XA xs.length xc)), (1, (.slice AL l.length cl))] Tryz.func5 rfl Tryz.ntmps5 (by kernel_rfl) (by kernel_rfl) fun a H => ?_
 refine zsq (zrg ?_)
 refine H.ge HP [(4, (.bool false))] [] fun a H => ?_
 refine ztn (zsq (zrg ?_))
 refine H.cb HP 21 (Tryz.call10 _ _) (sane_any w (HP.fact 0 rfl)) fun w_1 hb a H HP => ?_
 refine H.ge HP [(5, (.bool true))] [] fun a H => ?_
 refine ztn (zsq (zrg ?_))
 refine H.go HP 1 [(22, (.slice XA xs.length xc))] [] fun a H => ?_
 refine H.cl 23 (Tryz.call11 _ _) (libraryL_any XA xc xs w_1 hxl hxi (HP.fact 2 rfl)) ?_
 rintro e w_2 ⟨LA, lc, li, rfl, hli, hlib, hb⟩
 refine ⟨_, rfl, ?_⟩
 intro a H
 have HP := (HP.next hb).keepF (astsK LA li) hlib (fun _ _ h hk hs => IsAsts.keep h hk hs) (fun k hk => ⟨IsAsts.lt hlib hk, fun x hx => by cases hx⟩)
 refine H.ge HP [(6, (.slice LA li.length lc))] [] fun a H => ?_
 refine ztn (zsq (zrg ?_))
 refine H.cl 24 (Tryz.call12 _ _) (plansL_any w_2) ?_
 rintro e w_3 ⟨AP, cp, I0, i0, I1, i1, rfl, hcp, hpr, hpi, hb⟩
 refine ⟨_, rfl, ?_⟩
 intro a H
 have HP := (((HP.next hb).keepF (itsK [(pl0 I0 i0), (pl1 I1 i1)]) hpi (itsK_ok _) (fun k hk => ⟨itsK_lt hpi hk, fun x hx => by cases hx⟩)).keepF (rowF 13 plnC (dropA AP cp 1 13) [(pl1 I1 i1)]) (pl_drop hpr hcp) (rowF_ok _ _ _ _) (fun k hk => ⟨IsRow.lt (pl_drop hpr hcp) k hk, fun x hx => by cases hx⟩))
 refine H.u 25 (.slice (dropA AP cp 1 13) 1 (cp - 1)) (ex_sliceLo (len := 2) (i := 1) (sz := 13) (by kernel_rfl) (by kernel_rfl) (by kernel_rfl) (by kernel_rfl) rfl (by decide)) fun a H => ?_
 refine H.ge HP [(7, (.slice (dropA AP cp 1 13) 1 (cp - 1)))] [] fun a H => ?_
 refine ztn (zsq (zrg ?_))
 refine H.go HP 2 [(27, (.slice (dropA AP cp 1 13) 1 (cp - 1))), (28, (.slice LA li.length lc))] [] fun a H => ?_
 refine H.cl 29 (Tryz.call13 _ _) (newL_any (dropA AP cp 1 13) (cp - 1) lc [(pl1 I1 i1)] LA li w_3 plOk1 hli (HP.fact 3 rfl) (its_1 (HP.fact 1 rfl)) (HP.fact 0 rfl) (HP.fact 2 rfl)) ?_
 rintro e w_4 ⟨bs, cs, kcs, Ss, kSs, ls, rests, rfl, hN, hbn⟩
 refine ⟨_, rfl, ?_⟩
 intro a H
 have HP := (HP.gainSel hN hbn : Hp w _ [bx bs 111 [(.slice (some ⟨cs, 0, none⟩) 1 kcs), (.slice Ss ls.length kSs), (.bool false), (ii 0), (ii 0)] true, bx cs 115 (flat chC [mkCh (pl1 I1 i1)] ++ rests) true] [astsK Ss ls, rowF 13 plnC (dropA AP cp 1 13) [(pl1 I1 i1)], itsK [(pl0 I0 i0), (pl1 I1 i1)], astsK LA li, laidK, rowF 9 ar9 AL l, rowF 1 i1C XA xs])
 have h1s := hN.sel1 hli
 refine H.ge HP [(8, (pt bs 0)), (9, (ii 0))] [] fun a H => ?_
 refine ztn (zsq (zsq (zrg ?_)))
 refine H.ge HP [(33, (.bool false))] [] fun a H => ?_
 refine ztn ?_
 refine w_iff H rfl ?_
 refine zsk (ztn (zsq (zrg ?_)))
 refine H.alloc HP 34 (fun b => (.slice (some ⟨b, 0, none⟩) 2 2)) 55 [(ii 0), (ii 0), (ii 0), (ii 0)] (by kernel_rfl) (fun w => ex_make2 (n := 2) (size := 2) (bytes := 16) (z := .agg #[.int .i64 0, .int .i64 0]) (e := 55) (by kernel_rfl) (by kernel_rfl) (by kernel_rfl) (by kernel_rfl) (by decide) (by decide) (by decide) (by kernel_rfl)) fun cb w_5 a H HP => ?_
 refine H.ge HP [(10, (.slice (some ⟨cb, 0, none⟩) 2 2))] [] fun a H => ?_
 refine ztn (zsq (zrg ?_))
 refine H.ge HP [(11, (ii 500))] [] fun a H => ?_
 refine ztn (zsq (zrg ?_))
 refine H.go HP 1 [(35, (.agg #[(ii 0), (ii 0), (ii 0), (ii 0), (ii 0), (.bool false), (.string (bstr ([]))), (ii 0), (ii 0), (.string (bstr ([]))), (ii 0), (ii 0), (.slice none 0 0)]))] [] fun a H => H.al HP 12 76 [(ii 0), (ii 0), (ii 0), (ii 0), (ii 0), (.bool false), (.string (bstr ([]))), (ii 0), (ii 0), (.string (bstr ([]))), (ii 0), (ii 0), (.slice none 0 0)] fun b_6 w_7 a H HP => H.sh HP 0 0 (.agg #[(ii 0), (ii 0), (ii 0), (ii 0), (ii 0), (.bool false), (.string (bstr ([]))), (ii 0), (ii 0), (.string (bstr ([]))), (ii 0), (ii 0), (.slice none 0 0)]) rfl fun w_8 a H HP => ?_
 refine znl (ztn (zsq (zsq (zrg ?_))))
 refine H.ge HP [(13, (ii 0))] [] fun a H => ?_
 refine ztn (zbk ?_)
 obtain ⟨bq, oq, hApl1⟩ := pl_at (q := (pl0 I0 i0)) (HP.fact 1 rfl : IsRow 13 plnC _ (dropA AP cp 1 13) [(pl1 I1 i1)])
 refine w_loop (fun mm a wv => ∃ (i : Nat), ∃ (hd : Bool), ∃ (at_ : Int), ∃ (od : Int), ∃ (c : Ch), ∃ (t0 : Int), ∃ (x0 : Int), ∃ (t1 : Int), ∃ (x1 : Int), ∃ (z : Un), ∃ (zB : Option Addr), ∃ (zd : Nat), l.length - i = mm ∧ Sl 181 [(13, (ii i)), (0, (.slice XA xs.length xc)), (1, (.slice AL l.length cl)), (5, (.bool true)), (6, (.slice LA li.length lc)), (7, (.slice (dropA AP cp 1 13) 1 (cp - 1))), (8, (pt bs 0)), (10, (.slice (some ⟨cb, 0, none⟩) 2 2)), (12, (pt b_6 0)), (11, (ii c.full))] a ∧ Hp w wv [bx b_6 76 [(ii z.channel), (ii z.frame), (ii z.version), (ii z.item), (ii z.index), (.bool z.key), (.string (bstr z.data)), (ii z.regions), (ii z.gain), (.string (bstr z.caption)), (ii z.os), (ii z.of), (.slice zB 0 zd)] true, bx cb 55 [(ii t0), (ii x0), (ii t1), (ii x1)] true, bx bs 111 [(.slice (some ⟨cs, 0, none⟩) 1 kcs), (.slice Ss ls.length kSs), (.bool hd), (ii at_), (ii od)] true, bx cs 115 (flat chC [c] ++ rests) true] [astsK Ss ls, rowF 13 plnC (dropA AP cp 1 13) [(pl1 I1 i1)], itsK [(pl0 I0 i0), (pl1 I1 i1)], astsK LA li, laidK, rowF 9 ar9 AL l, rowF 1 i1C XA xs] ∧ (i ≤ l.length) ∧ (i ≤ 60) ∧ (BeatOk hd at_ od (i : Int)) ∧ (ChOk 25 0 c) ∧ ((0 ≤ t0 ∧ t0 ≤ 8) ∧ (0 ≤ x0 ∧ x0 ≤ 29 + (i : Int)) ∧ (0 ≤ t1 ∧ t1 ≤ 8) ∧ (0 ≤ x1 ∧ x1 ≤ 29 + (i : Int))) ∧ (z.item = c.item ∧ z.index = c.index)) (l.length - 0) ?_ ?_
 ·exact ⟨0, false, 0, 0, (mkCh (pl1 I1 i1)), 0, 0, 0, 0, zeroU, none, 0, (by omega), H.keep (by kernel_rfl), (HP.subw [0, 1, 2, 3] [bx b_6 76 [(ii 0), (ii 0), (ii 0), (ii 0), (ii 0), (.bool false), (.string (bstr ([]))), (ii 0), (ii 0), (.string (bstr ([]))), (ii 0), (ii 0), (.slice none 0 0)] true, bx cb 55 [(ii 0), (ii 0), (ii 0), (ii 0)] true, bx bs 111 [(.slice (some ⟨cs, 0, none⟩) 1 kcs), (.slice Ss ls.length kSs), (.bool false), (ii 0), (ii 0)] true, bx cs 115 (flat chC [mkCh (pl1 I1 i1)] ++ rests) true] (by kernel_rfl) (by kernel_rfl)), (Nat.zero_le _), (Nat.zero_le _), beat_zero, (ch_ok0 (pl1 I1 i1)), (by omega), ⟨rfl, rfl⟩⟩
 rintro mm a w_9 ⟨i, hd, at_, od, c, t0, x0, t1, x1, z, zB, zd, hmeas, H, HP, hil, hin_, hbo, hc, hcu, hz⟩
 refine zsq (zsq (zrg ?_))
 refine H.go HP 5 [(40, (.bool (decide ((i : Int) < (l.length : Int)))))] [] fun a H => ?_
 refine H.split 40 rfl (fun g40 H => ?_) (fun g40 H => ?_)
 ·have g40p := of_decide_eq_true g40
  refine H.ge HP [(43, (.bool (decide ((i : Int) < 60))))] [] fun a H => ?_
  refine ztn ?_
  refine w_if H rfl (fun g43 => ?_) (fun g43 => ?_)
  ·have g43p := of_decide_eq_true g43
   refine zsk (ztn (zsq (zbk (zsq ?_))))
   obtain ⟨bL, oL, q, hAL, _, _, hq, hqm, _⟩ := IsRow.get ar9_size (HP.fact 5 rfl) (i := i) (by omega)
   have hqi := hin q hqm
   refine zrg ?_
   refine H.go HP 3 [(47, (ii i)), (48, (.slice AL l.length cl)), (49, (ii i))] [] fun a H => H.u 50 (.pointer (some ⟨bL, oL + i * 9, none⟩)) (ex_indexA (b := bL) (off := oL) (len := l.length) (cap := cl) (e := 50) (k := 9) (ik := .i64) (i := (i : Int)) (m := i) hAL (by kernel_rfl) (by kernel_rfl) rfl (by omega) (by kernel_rfl) (by kernel_rfl)) fun a H => H.v 51 (.pointer (some ⟨bL, oL + i * 9 + 8, none⟩)) fun a H => H.u 52 (ii (q 8)) (ex_l1 (IsRow.cells ar9_size (HP.fact 5 rfl : IsRow 9 ar9 _ AL l) hAL hq 8 _ rfl)) fun a H => ?_
   refine H.cl 53 (Tryz.call15 _ _) (beatL_any (i : Int) (q 8) w_9 (by omega) (hqi 8)) ?_
   rintro e w_10 ⟨mf, mn, isb, rfl, hmf, hmn, hb⟩
   refine ⟨_, rfl, ?_⟩
   intro a H
   have HP := HP.next hb
   refine H.go HP 3 [(54, (.agg #[(ii 3), (ii 2), (ii 0), (ii mf), (ii mn), (ii 0), (ii 0), (ii 0), (ii 0), (ii 0), (ii 0), (ii 0), (ii 0), (ii 0), (ii 0), (ii 0), (ii 0), (.slice none 0 0), (ii 0), (ii 0), (ii 0), (ii 0), (ii 0), (ii 0), (ii 0), (ii 0), (ii 0), (ii 0), (ii 0), (ii 0), (.string (bstr ([])))])), (55, (.bool isb))] [] fun a H => H.al HP 14 47 [(ii 0), (ii 0), (ii 0), (ii 0), (ii 0), (ii 0), (ii 0), (ii 0), (ii 0), (ii 0), (ii 0), (ii 0), (ii 0), (ii 0), (ii 0), (ii 0), (ii 0), (.slice none 0 0), (ii 0), (ii 0), (ii 0), (ii 0), (ii 0), (ii 0), (ii 0), (ii 0), (ii 0), (ii 0), (ii 0), (ii 0), (.string (bstr ([])))] fun b_11 w_12 a H HP => H.st HP 0 b_11 0 31 47 true (.agg #[(ii 3), (ii 2), (ii 0), (ii mf), (ii mn), (ii 0), (ii 0), (ii 0), (ii 0), (ii 0), (ii 0), (ii 0), (ii 0), (ii 0), (ii 0), (ii 0), (ii 0), (.slice none 0 0), (ii 0), (ii 0), (ii 0), (ii 0), (ii 0), (ii 0), (ii 0), (ii 0), (ii 0), (ii 0), (ii 0), (ii 0), (.string (bstr ([])))]) [bx b_11 47 [(ii 3), (ii 2), (ii 0), (ii mf), (ii mn), (ii 0), (ii 0), (ii 0), (ii 0), (ii 0), (ii 0), (ii 0), (ii 0), (ii 0), (ii 0), (ii 0), (ii 0), (.slice none 0 0), (ii 0), (ii 0), (ii 0), (ii 0), (ii 0), (ii 0), (ii 0), (ii 0), (ii 0), (ii 0), (ii 0), (ii 0), (.string (bstr ([])))] true, bx b_6 76 [(ii z.channel), (ii z.frame), (ii z.version), (ii z.item), (ii z.index), (.bool z.key), (.string (bstr z.data)), (ii z.regions), (ii z.gain), (.string (bstr z.caption)), (ii z.os), (ii z.of), (.slice zB 0 zd)] true, bx cb 55 [(ii t0), (ii x0), (ii t1), (ii x1)] true, bx bs 111 [(.slice (some ⟨cs, 0, none⟩) 1 kcs), (.slice Ss ls.length kSs), (.bool hd), (ii at_), (ii od)] true, bx cs 115 (flat chC [c] ++ rests) true] rfl fun w_13 a H HP => ?_
   refine H.ge HP [(15, (.bool isb))] [] fun a H => ?_
   refine ztn ?_
   refine w_cut (fun a wv => ∃ (hd2 : Bool), ∃ (at2 : Int), ∃ (od2 : Int), Sl 181 [(13, (ii i)), (0, (.slice XA xs.length xc)), (1, (.slice AL l.length cl)), (5, (.bool true)), (6, (.slice LA li.length lc)), (7, (.slice (dropA AP cp 1 13) 1 (cp - 1))), (8, (pt bs 0)), (10, (.slice (some ⟨cb, 0, none⟩) 2 2)), (12, (pt b_6 0)), (11, (ii c.full))] a ∧ Hp w wv [bx b_6 76 [(ii z.channel), (ii z.frame), (ii z.version), (ii z.item), (ii z.index), (.bool z.key), (.string (bstr z.data)), (ii z.regions), (ii z.gain), (.string (bstr z.caption)), (ii z.os), (ii z.of), (.slice zB 0 zd)] true, bx cb 55 [(ii t0), (ii x0), (ii t1), (ii x1)] true, bx bs 111 [(.slice (some ⟨cs, 0, none⟩) 1 kcs), (.slice Ss ls.length kSs), (.bool hd2), (ii at2), (ii od2)] true, bx cs 115 (flat chC [c] ++ rests) true] [astsK Ss ls, rowF 13 plnC (dropA AP cp 1 13) [(pl1 I1 i1)], itsK [(pl0 I0 i0), (pl1 I1 i1)], astsK LA li, laidK, rowF 9 ar9 AL l, rowF 1 i1C XA xs] ∧ (BeatOk hd2 at2 od2 (i : Int))) ?_ ?_
   ·
    refine zsq (zrg ?_)
    refine H.ge HP [(56, (.bool isb))] [] fun a H => ?_
    refine ztn ?_
    refine w_if H rfl (fun g56 => ?_) (fun g56 => ?_)
    ·have g56p := g56
     refine zrg ?_
     refine H.go HP 2 [(57, (pt bs 0)), (58, (.agg #[(ii 3), (ii 2), (ii 0), (ii mf), (ii mn), (ii 0), (ii 0), (ii 0), (ii 0), (ii 0), (ii 0), (ii 0), (ii 0), (ii 0), (ii 0), (ii 0), (ii 0), (.slice none 0 0), (ii 0), (ii 0), (ii 0), (ii 0), (ii 0), (ii 0), (ii 0), (ii 0), (ii 0), (ii 0), (ii 0), (ii 0), (.string (bstr ([])))]))] [0] fun a H => ?_
     obtain ⟨hd1, at1, od1, hr1⟩ : ∃ x y z, recvP (hd, at_, od) mf mn = (x, y, z) := ⟨_, _, _, rfl⟩
     refine H.cl 59 (Tryz.call16 _ _) (receive_any bs cs 1 kcs Ss ls.length kSs hd at_ od 2 mf mn w_13 (HP.at_ 3 rfl) (by decide)) ?_
     rintro e w_14 ⟨rfl, hbx, hgr⟩
     refine ⟨_, rfl, ?_⟩
     intro a H
     have HP := (HP.changed 3 rfl [(.slice (some ⟨cs, 0, none⟩) 1 kcs), (.slice Ss ls.length kSs), (.bool hd1), (ii at1), (ii od1)] [bx b_11 47 [(ii 3), (ii 2), (ii 0), (ii mf), (ii mn), (ii 0), (ii 0), (ii 0), (ii 0), (ii 0), (ii 0), (ii 0), (ii 0), (ii 0), (ii 0), (ii 0), (ii 0), (.slice none 0 0), (ii 0), (ii 0), (ii 0), (ii 0), (ii 0), (ii 0), (ii 0), (ii 0), (ii 0), (ii 0), (ii 0), (ii 0), (.string (bstr ([])))] true, bx b_6 76 [(ii z.channel), (ii z.frame), (ii z.version), (ii z.item), (ii z.index), (.bool z.key), (.string (bstr z.data)), (ii z.regions), (ii z.gain), (.string (bstr z.caption)), (ii z.os), (ii z.of), (.slice zB 0 zd)] true, bx cb 55 [(ii t0), (ii x0), (ii t1), (ii x1)] true, bx bs 111 [(.slice (some ⟨cs, 0, none⟩) 1 kcs), (.slice Ss ls.length kSs), (.bool hd1), (ii at1), (ii od1)] true, bx cs 115 (flat chC [c] ++ rests) true] (by kernel_rfl) hgr (by have hh := hbx; rw [hr1] at hh; exact hh))
     refine znl (ztn ?_)
     exact ⟨hd1, at1, od1, H.keep (by kernel_rfl), (HP.subw [1, 2, 3, 4] [bx b_6 76 [(ii z.channel), (ii z.frame), (ii z.version), (ii z.item), (ii z.index), (.bool z.key), (.string (bstr z.data)), (ii z.regions), (ii z.gain), (.string (bstr z.caption)), (ii z.os), (ii z.of), (.slice zB 0 zd)] true, bx cb 55 [(ii t0), (ii x0), (ii t1), (ii x1)] true, bx bs 111 [(.slice (some ⟨cs, 0, none⟩) 1 kcs), (.slice Ss ls.length kSs), (.bool hd1), (ii at1), (ii od1)] true, bx cs 115 (flat chC [c] ++ rests) true] (by kernel_rfl) (by kernel_rfl)), (recv_ok hbo hr1 hmf (by omega))⟩
    have g56p := g56
    refine zsk (ztn ?_)
    exact ⟨hd, at_, od, H.keep (by kernel_rfl), (HP.subw [1, 2, 3, 4] [bx b_6 76 [(ii z.channel), (ii z.frame), (ii z.version), (ii z.item), (ii z.index), (.bool z.key), (.string (bstr z.data)), (ii z.regions), (ii z.gain), (.string (bstr z.caption)), (ii z.os), (ii z.of), (.slice zB 0 zd)] true, bx cb 55 [(ii t0), (ii x0), (ii t1), (ii x1)] true, bx bs 111 [(.slice (some ⟨cs, 0, none⟩) 1 kcs), (.slice Ss ls.length kSs), (.bool hd), (ii at_), (ii od)] true, bx cs 115 (flat chC [c] ++ rests) true] (by kernel_rfl) (by kernel_rfl)), hbo⟩
   
   rintro a w_15 ⟨hd2, at2, od2, H, HP, hbo2⟩
   have hbb0 := hbo2.a0; have hbb1 := hbo2.a1
   refine zsq ?_
   have HP := HP.front 1 rfl _ rfl
   refine An.start (fun v => Hp w v [bx b_6 76 [(ii z.channel), (ii z.frame), (ii z.version), (ii z.item), (ii z.index), (.bool z.key), (.string (bstr z.data)), (ii z.regions), (ii z.gain), (.string (bstr z.caption)), (ii z.os), (ii z.of), (.slice zB 0 zd)] true, bx bs 111 [(.slice (some ⟨cs, 0, none⟩) 1 kcs), (.slice Ss ls.length kSs), (.bool hd2), (ii at2), (ii od2)] true, bx cs 115 (flat chC [c] ++ rests) true] [astsK Ss ls, rowF 13 plnC (dropA AP cp 1 13) [(pl1 I1 i1)], itsK [(pl0 I0 i0), (pl1 I1 i1)], astsK LA li, laidK, rowF 9 ar9 AL l, rowF 1 i1C XA xs]) 30 30 HP wide_follows rfl fun w_16 HP => ?_
   refine An.go H (.inr ((HP.tail rfl))) 29 [0] [(60, (.slice (some ⟨cb, 0, none⟩) 2 2))] [] fun a H => ?_
   refine An.q H (.inr ((HP.tail rfl))) 1 61 (pt cb 0) (fun _ => ex_index (b := cb) (off := 0) (len := 2) (cap := 2) (e := 55) (k := 2) (ik := .i64) (i := 0) (m := 0) (by kernel_rfl) (by kernel_rfl) rfl (by decide) (by kernel_rfl) (by kernel_rfl)) fun a H => ?_
   refine An.go H (.inr ((HP.tail rfl))) 27 [2] [(62, (.slice (dropA AP cp 1 13) 1 (cp - 1)))] [] fun a H => ?_
   refine An.q H (.inr ((HP.tail rfl))) 3 63 (.pointer (some ⟨bq, oq + 0 * 13, none⟩)) (fun _ => ex_indexA (b := bq) (off := oq) (len := 1) (cap := (cp - 1)) (e := 67) (k := 13) (ik := .i64) (i := 0) (m := 0) hApl1 (by kernel_rfl) (by kernel_rfl) rfl (by decide) (by kernel_rfl) (by kernel_rfl)) fun a H => ?_
   refine An.vw H ((HP.tail rfl)) 4 64 (.agg #[(ii 0), (ii 25), (ii 1), (ii 0), (.slice none 0 0), (ii 0), (ii 2), (ii 500), (ii 1), (.slice I1 3 i1), (.slice none 0 0), (.slice none 0 0), (.slice none 0 0)]) (fun _ hS => ex_lN [(ii 0), (ii 25), (ii 1), (ii 0), (.slice none 0 0), (ii 0), (ii 2), (ii 500), (ii 1), (.slice I1 3 i1), (.slice none 0 0), (.slice none 0 0), (.slice none 0 0)] (IsRow.cells plnC_size (hS.fact 1 rfl : IsRow 13 plnC _ (dropA AP cp 1 13) [(pl1 I1 i1)]) hApl1 (i := 0) (x := (pl1 I1 i1)) rfl)) fun a H => ?_
   refine An.go H (.inr ((HP.tail rfl))) 21 [5, 6, 7, 8] [(65, (.slice LA li.length lc)), (66, (ii i)), (67, (.slice AL l.length cl)), (68, (ii i))] [] fun a H => ?_
   refine An.q H (.inr ((HP.tail rfl))) 9 69 (.pointer (some ⟨bL, oL + i * 9, none⟩)) (fun _ => ex_indexA (b := bL) (off := oL) (len := l.length) (cap := cl) (e := 50) (k := 9) (ik := .i64) (i := (i : Int)) (m := i) hAL (by kernel_rfl) (by kernel_rfl) rfl (by omega) (by kernel_rfl) (by kernel_rfl)) fun a H => ?_
   refine An.p H (.inr ((HP.tail rfl))) 10 70 (.pointer (some ⟨bL, oL + i * 9, none⟩)) fun a H => ?_
   refine An.vw H ((HP.tail rfl)) 11 71 (ii (q 0)) (fun _ hS => ex_l1 (IsRow.cells ar9_size (hS.fact 5 rfl : IsRow 9 ar9 _ AL l) hAL hq 0 _ rfl)) fun a H => ?_
   refine An.go H (.inr ((HP.tail rfl))) 16 [12, 13] [(72, (.slice AL l.length cl)), (73, (ii i))] [] fun a H => ?_
   refine An.q H (.inr ((HP.tail rfl))) 14 74 (.pointer (some ⟨bL, oL + i * 9, none⟩)) (fun _ => ex_indexA (b := bL) (off := oL) (len := l.length) (cap := cl) (e := 50) (k := 9) (ik := .i64) (i := (i : Int)) (m := i) hAL (by kernel_rfl) (by kernel_rfl) rfl (by omega) (by kernel_rfl) (by kernel_rfl)) fun a H => ?_
   refine An.p H (.inr ((HP.tail rfl))) 15 75 (.pointer (some ⟨bL, oL + i * 9 + 1, none⟩)) fun a H => ?_
   refine An.vw H ((HP.tail rfl)) 16 76 (ii (q 1)) (fun _ hS => ex_l1 (IsRow.cells ar9_size (hS.fact 5 rfl : IsRow 9 ar9 _ AL l) hAL hq 1 _ rfl)) fun a H => ?_
   refine An.go H (.inr ((HP.tail rfl))) 11 [17, 18] [(77, (.slice AL l.length cl)), (78, (ii i))] [] fun a H => ?_
   refine An.q H (.inr ((HP.tail rfl))) 19 79 (.pointer (some ⟨bL, oL + i * 9, none⟩)) (fun _ => ex_indexA (b := bL) (off := oL) (len := l.length) (cap := cl) (e := 50) (k := 9) (ik := .i64) (i := (i : Int)) (m := i) hAL (by kernel_rfl) (by kernel_rfl) rfl (by omega) (by kernel_rfl) (by kernel_rfl)) fun a H => ?_
   refine An.p H (.inr ((HP.tail rfl))) 20 80 (.pointer (some ⟨bL, oL + i * 9 + 2, none⟩)) fun a H => ?_
   refine An.vw H ((HP.tail rfl)) 21 81 (ii (q 2)) (fun _ hS => ex_l1 (IsRow.cells ar9_size (hS.fact 5 rfl : IsRow 9 ar9 _ AL l) hAL hq 2 _ rfl)) fun a H => ?_
   refine An.go H (.inr ((HP.tail rfl))) 6 [22, 23] [(82, (.slice AL l.length cl)), (83, (ii i))] [] fun a H => ?_
   refine An.q H (.inr ((HP.tail rfl))) 24 84 (.pointer (some ⟨bL, oL + i * 9, none⟩)) (fun _ => ex_indexA (b := bL) (off := oL) (len := l.length) (cap := cl) (e := 50) (k := 9) (ik := .i64) (i := (i : Int)) (m := i) hAL (by kernel_rfl) (by kernel_rfl) rfl (by omega) (by kernel_rfl) (by kernel_rfl)) fun a H => ?_
   refine An.p H (.inr ((HP.tail rfl))) 25 85 (.pointer (some ⟨bL, oL + i * 9 + 3, none⟩)) fun a H => ?_
   refine An.vw H ((HP.tail rfl)) 26 86 (ii (q 3)) (fun _ hS => ex_l1 (IsRow.cells ar9_size (hS.fact 5 rfl : IsRow 9 ar9 _ AL l) hAL hq 3 _ rfl)) fun a H => ?_
   refine An.go H (.inr ((HP.tail rfl))) 2 [27] [(87, (.agg #[(ii (q 0)), (ii (q 1)), (ii (q 2)), (ii (q 3))]))] [] fun a H => ?_
   refine An.one 28 (by kernel_rfl) ?_
   refine Op.call H 88 rfl (by kernel_rfl) (Eq.trans (by kernel_rfl : _ = (callFunc 19 #[(pt cb 0), (.agg #[(ii 0), (ii 25), (ii 1), (ii 0), (.slice none 0 0), (ii 0), (ii 2), (ii 500), (ii 1), (.slice I1 3 i1), (.slice none 0 0), (.slice none 0 0), (.slice none 0 0)]), (.slice LA li.length lc), (ii i), (.agg #[(ii (q 0)), (ii (q 1)), (ii (q 2)), (ii (q 3))])]).run Tryz.prog w_16) (Tryz.call19 _ _)) (sent0_any cb 0 lc (pl1 I1 i1) LA li (i : Int) (q 0) (q 1) (q 2) (q 3) t0 x0 [] [(ii t1), (ii x1)] w_16 rfl (by omega) pl1_ok1.1 (hqi 0) (hqi 1) (hqi 2) (hqi 3) (by omega) (by omega) (HP.factNo 3 0 rfl rfl) (HP.ge2 4 0 rfl rfl) (HP.fact 4 rfl) (HP.fact 3 rfl) hli.max hli.pl hli.dl (HP.at_ 0 rfl)) ?_
   rintro e w_17 ⟨s1, it1, ix1, rfl, hsn1, hit1, hix1, hbx, hgr⟩
   refine ⟨_, rfl, ?_⟩
   intro a H
   have HP := (HP.changed 0 rfl [(ii it1), (ii ix1), (ii t1), (ii x1)] [bx cb 55 [(ii it1), (ii ix1), (ii t1), (ii x1)] true, bx b_6 76 [(ii z.channel), (ii z.frame), (ii z.version), (ii z.item), (ii z.index), (.bool z.key), (.string (bstr z.data)), (ii z.regions), (ii z.gain), (.string (bstr z.caption)), (ii z.os), (ii z.of), (.slice zB 0 zd)] true, bx bs 111 [(.slice (some ⟨cs, 0, none⟩) 1 kcs), (.slice Ss ls.length kSs), (.bool hd2), (ii at2), (ii od2)] true, bx cs 115 (flat chC [c] ++ rests) true] (by kernel_rfl) hgr hbx)
   refine ⟨.inr ((HP.tail rfl)), ?_⟩
   refine An.go H (.inr ((HP.tail rfl))) 0 [29] [(16, (.string (bstr s1)))] [] fun a H => ?_
   refine An.done (by kernel_rfl) ?_
   refine ztn (zsq ?_)
   have HP := HP.front 0 rfl _ rfl
   refine An.start (fun v => Hp w v [bx b_6 76 [(ii z.channel), (ii z.frame), (ii z.version), (ii z.item), (ii z.index), (.bool z.key), (.string (bstr z.data)), (ii z.regions), (ii z.gain), (.string (bstr z.caption)), (ii z.os), (ii z.of), (.slice zB 0 zd)] true, bx bs 111 [(.slice (some ⟨cs, 0, none⟩) 1 kcs), (.slice Ss ls.length kSs), (.bool hd2), (ii at2), (ii od2)] true, bx cs 115 (flat chC [c] ++ rests) true] [astsK Ss ls, rowF 13 plnC (dropA AP cp 1 13) [(pl1 I1 i1)], itsK [(pl0 I0 i0), (pl1 I1 i1)], astsK LA li, laidK, rowF 9 ar9 AL l, rowF 1 i1C XA xs]) 30 30 HP wide_follows rfl fun w_18 HP => ?_
   refine An.go H (.inr ((HP.tail rfl))) 29 [0] [(89, (.slice (some ⟨cb, 0, none⟩) 2 2))] [] fun a H => ?_
   refine An.q H (.inr ((HP.tail rfl))) 1 90 (pt cb 2) (fun _ => ex_index (b := cb) (off := 0) (len := 2) (cap := 2) (e := 55) (k := 2) (ik := .i64) (i := 1) (m := 1) (by kernel_rfl) (by kernel_rfl) rfl (by decide) (by kernel_rfl) (by kernel_rfl)) fun a H => ?_
   refine An.go H (.inr ((HP.tail rfl))) 27 [2] [(91, (.slice (dropA AP cp 1 13) 1 (cp - 1)))] [] fun a H => ?_
   refine An.q H (.inr ((HP.tail rfl))) 3 92 (.pointer (some ⟨bq, oq + 0 * 13, none⟩)) (fun _ => ex_indexA (b := bq) (off := oq) (len := 1) (cap := (cp - 1)) (e := 67) (k := 13) (ik := .i64) (i := 0) (m := 0) hApl1 (by kernel_rfl) (by kernel_rfl) rfl (by decide) (by kernel_rfl) (by kernel_rfl)) fun a H => ?_
   refine An.vw H ((HP.tail rfl)) 4 93 (.agg #[(ii 0), (ii 25), (ii 1), (ii 0), (.slice none 0 0), (ii 0), (ii 2), (ii 500), (ii 1), (.slice I1 3 i1), (.slice none 0 0), (.slice none 0 0), (.slice none 0 0)]) (fun _ hS => ex_lN [(ii 0), (ii 25), (ii 1), (ii 0), (.slice none 0 0), (ii 0), (ii 2), (ii 500), (ii 1), (.slice I1 3 i1), (.slice none 0 0), (.slice none 0 0), (.slice none 0 0)] (IsRow.cells plnC_size (hS.fact 1 rfl : IsRow 13 plnC _ (dropA AP cp 1 13) [(pl1 I1 i1)]) hApl1 (i := 0) (x := (pl1 I1 i1)) rfl)) fun a H => ?_
   refine An.go H (.inr ((HP.tail rfl))) 21 [5, 6, 7, 8] [(94, (.slice LA li.length lc)), (95, (ii i)), (96, (.slice AL l.length cl)), (97, (ii i))] [] fun a H => ?_
   refine An.q H (.inr ((HP.tail rfl))) 9 98 (.pointer (some ⟨bL, oL + i * 9, none⟩)) (fun _ => ex_indexA (b := bL) (off := oL) (len := l.length) (cap := cl) (e := 50) (k := 9) (ik := .i64) (i := (i : Int)) (m := i) hAL (by kernel_rfl) (by kernel_rfl) rfl (by omega) (by kernel_rfl) (by kernel_rfl)) fun a H => ?_
   refine An.p H (.inr ((HP.tail rfl))) 10 99 (.pointer (some ⟨bL, oL + i * 9 + 4, none⟩)) fun a H => ?_
   refine An.vw H ((HP.tail rfl)) 11 100 (ii (q 4)) (fun _ hS => ex_l1 (IsRow.cells ar9_size (hS.fact 5 rfl : IsRow 9 ar9 _ AL l) hAL hq 4 _ rfl)) fun a H => ?_
   refine An.go H (.inr ((HP.tail rfl))) 16 [12, 13] [(101, (.slice AL l.length cl)), (102, (ii i))] [] fun a H => ?_
   refine An.q H (.inr ((HP.tail rfl))) 14 103 (.pointer (some ⟨bL, oL + i * 9, none⟩)) (fun _ => ex_indexA (b := bL) (off := oL) (len := l.length) (cap := cl) (e := 50) (k := 9) (ik := .i64) (i := (i : Int)) (m := i) hAL (by kernel_rfl) (by kernel_rfl) rfl (by omega) (by kernel_rfl) (by kernel_rfl)) fun a H => ?_
   refine An.p H (.inr ((HP.tail rfl))) 15 104 (.pointer (some ⟨bL, oL + i * 9 + 5, none⟩)) fun a H => ?_
   refine An.vw H ((HP.tail rfl)) 16 105 (ii (q 5)) (fun _ hS => ex_l1 (IsRow.cells ar9_size (hS.fact 5 rfl : IsRow 9 ar9 _ AL l) hAL hq 5 _ rfl)) fun a H => ?_
   refine An.go H (.inr ((HP.tail rfl))) 11 [17, 18] [(106, (.slice AL l.length cl)), (107, (ii i))] [] fun a H => ?_
   refine An.q H (.inr ((HP.tail rfl))) 19 108 (.pointer (some ⟨bL, oL + i * 9, none⟩)) (fun _ => ex_indexA (b := bL) (off := oL) (len := l.length) (cap := cl) (e := 50) (k := 9) (ik := .i64) (i := (i : Int)) (m := i) hAL (by kernel_rfl) (by kernel_rfl) rfl (by omega) (by kernel_rfl) (by kernel_rfl)) fun a H => ?_
   refine An.p H (.inr ((HP.tail rfl))) 20 109 (.pointer (some ⟨bL, oL + i * 9 + 6, none⟩)) fun a H => ?_
   refine An.vw H ((HP.tail rfl)) 21 110 (ii (q 6)) (fun _ hS => ex_l1 (IsRow.cells ar9_size (hS.fact 5 rfl : IsRow 9 ar9 _ AL l) hAL hq 6 _ rfl)) fun a H => ?_
   refine An.go H (.inr ((HP.tail rfl))) 6 [22, 23] [(111, (.slice AL l.length cl)), (112, (ii i))] [] fun a H => ?_
   refine An.q H (.inr ((HP.tail rfl))) 24 113 (.pointer (some ⟨bL, oL + i * 9, none⟩)) (fun _ => ex_indexA (b := bL) (off := oL) (len := l.length) (cap := cl) (e := 50) (k := 9) (ik := .i64) (i := (i : Int)) (m := i) hAL (by kernel_rfl) (by kernel_rfl) rfl (by omega) (by kernel_rfl) (by kernel_rfl)) fun a H => ?_
   refine An.p H (.inr ((HP.tail rfl))) 25 114 (.pointer (some ⟨bL, oL + i * 9 + 7, none⟩)) fun a H => ?_
   refine An.vw H ((HP.tail rfl)) 26 115 (ii (q 7)) (fun _ hS => ex_l1 (IsRow.cells ar9_size (hS.fact 5 rfl : IsRow 9 ar9 _ AL l) hAL hq 7 _ rfl)) fun a H => ?_
   refine An.go H (.inr ((HP.tail rfl))) 2 [27] [(116, (.agg #[(ii (q 4)), (ii (q 5)), (ii (q 6)), (ii (q 7))]))] [] fun a H => ?_
   refine An.one 28 (by kernel_rfl) ?_
   refine Op.call H 117 rfl (by kernel_rfl) (Eq.trans (by kernel_rfl : _ = (callFunc 19 #[(pt cb 2), (.agg #[(ii 0), (ii 25), (ii 1), (ii 0), (.slice none 0 0), (ii 0), (ii 2), (ii 500), (ii 1), (.slice I1 3 i1), (.slice none 0 0), (.slice none 0 0), (.slice none 0 0)]), (.slice LA li.length lc), (ii i), (.agg #[(ii (q 4)), (ii (q 5)), (ii (q 6)), (ii (q 7))])]).run Tryz.prog w_18) (Tryz.call19 _ _)) (sent0_any cb 2 lc (pl1 I1 i1) LA li (i : Int) (q 4) (q 5) (q 6) (q 7) t1 x1 [(ii it1), (ii ix1)] [] w_18 rfl (by omega) pl1_ok1.1 (hqi 4) (hqi 5) (hqi 6) (hqi 7) (by omega) (by omega) (HP.factNo 3 0 rfl rfl) (HP.ge2 4 0 rfl rfl) (HP.fact 4 rfl) (HP.fact 3 rfl) hli.max hli.pl hli.dl (HP.at_ 0 rfl)) ?_
   rintro e w_19 ⟨s2, it2, ix2, rfl, hsn2, hit2, hix2, hbx, hgr⟩
   refine ⟨_, rfl, ?_⟩
   intro a H
   have HP := (HP.changed 0 rfl [(ii it1), (ii ix1), (ii it2), (ii ix2)] [bx cb 55 [(ii it1), (ii ix1), (ii it2), (ii ix2)] true, bx b_6 76 [(ii z.channel), (ii z.frame), (ii z.version), (ii z.item), (ii z.index), (.bool z.key), (.string (bstr z.data)), (ii z.regions), (ii z.gain), (.string (bstr z.caption)), (ii z.os), (ii z.of), (.slice zB 0 zd)] true, bx bs 111 [(.slice (some ⟨cs, 0, none⟩) 1 kcs), (.slice Ss ls.length kSs), (.bool hd2), (ii at2), (ii od2)] true, bx cs 115 (flat chC [c] ++ rests) true] (by kernel_rfl) hgr hbx)
   refine ⟨.inr ((HP.tail rfl)), ?_⟩
   refine An.go H (.inr ((HP.tail rfl))) 0 [29] [(17, (.string (bstr s2)))] [] fun a H => ?_
   refine An.done (by kernel_rfl) ?_
   refine ztn (zsq (zrg ?_))
   refine H.go HP 3 [(118, (pt bs 0)), (119, (ii i)), (120, (.string (bstr s1)))] [] fun a H => H.alloc HP 121 (fun b => (.slice (some ⟨b, 0, none⟩) 1 1)) 9 [(.string (bstr s1))] (by kernel_rfl) (fun w => by kernel_rfl) fun b_20 w_21 a H HP => H.go HP 1 [(122, (.string (bstr s2)))] [] fun a H => H.alloc HP 123 (fun b => (.slice (some ⟨b, 0, none⟩) 1 1)) 9 [(.string (bstr s2))] (by kernel_rfl) (fun w => by kernel_rfl) fun b_22 w_23 a H HP => ?_
   refine H.cl 124 (Tryz.call20 _ _) (chooseL1 bs cs kcs kSs Ss h1s hd2 at2 od2 (i : Int) rests c hc (some ⟨b_20, 0, none⟩) (some ⟨b_22, 0, none⟩) 1 1 [s1] [s2] w_23 (rows_ok hsn1.ok) (rows_ok hsn2.ok) (by omega) (by omega) (HP.ne 4 5 rfl rfl (by decide)) (HP.factNo 0 5 rfl rfl) (HP.ge2 4 5 rfl rfl) (rowFp_ne (HP.ne 1 5 rfl rfl (by decide))) (rowFp_ne (HP.ne 0 5 rfl rfl (by decide))) (HP.fact 4 rfl) (HP.fact 0 rfl) (HP.at_ 4 rfl) (HP.at_ 5 rfl) (str1 (HP.at_ 1 rfl)) (str1 (HP.at_ 0 rfl))) ?_
   rintro e w_24 ⟨A1, k1, u1, g1, tk1, B1, d1, rfl, hch1, hal1, hrw1, hnw1, hbx, hgr⟩
   refine ⟨_, rfl, ?_⟩
   intro a H
   have HP := (HP.changedRow 5 rfl (flat chC [chN c u1 g1 tk1] ++ rests) [bx b_22 9 [(.string (bstr s2))] true, bx b_20 9 [(.string (bstr s1))] true, bx cb 55 [(ii it1), (ii ix1), (ii it2), (ii ix2)] true, bx b_6 76 [(ii z.channel), (ii z.frame), (ii z.version), (ii z.item), (ii z.index), (.bool z.key), (.string (bstr z.data)), (ii z.regions), (ii z.gain), (.string (bstr z.caption)), (ii z.os), (ii z.of), (.slice zB 0 zd)] true, bx bs 111 [(.slice (some ⟨cs, 0, none⟩) 1 kcs), (.slice Ss ls.length kSs), (.bool hd2), (ii at2), (ii od2)] true, bx cs 115 (flat chC [chN c u1 g1 tk1] ++ rests) true] (by kernel_rfl) hgr hbx hrw1 hnw1)
   obtain ⟨bu1, ou1, hAu1⟩ := row_at unC_size hrw1
   refine H.ge HP [(18, (.slice A1 1 k1))] [] fun a H => ?_
   refine ztn (zsq (zsq ?_))
   have hzl := hc.lo; have hzh := hc.hi; have hz2 := hz.2
   refine An.start (fun v => Hp w v [bx b_22 9 [(.string (bstr s2))] true, bx b_20 9 [(.string (bstr s1))] true, bx cb 55 [(ii it1), (ii ix1), (ii it2), (ii ix2)] true, bx b_6 76 [(ii z.channel), (ii z.frame), (ii z.version), (ii z.item), (ii z.index), (.bool z.key), (.string (bstr z.data)), (ii z.regions), (ii z.gain), (.string (bstr z.caption)), (ii z.os), (ii z.of), (.slice zB 0 zd)] true, bx bs 111 [(.slice (some ⟨cs, 0, none⟩) 1 kcs), (.slice Ss ls.length kSs), (.bool hd2), (ii at2), (ii od2)] true, bx cs 115 (flat chC [chN c u1 g1 tk1] ++ rests) true] [rowF 13 unC A1 [uv u1 B1 d1], astsK Ss ls, rowF 13 plnC (dropA AP cp 1 13) [(pl1 I1 i1)], itsK [(pl0 I0 i0), (pl1 I1 i1)], astsK LA li, laidK, rowF 9 ar9 AL l, rowF 1 i1C XA xs]) 29 29 HP wide_follows rfl fun w_25 HP => ?_
   refine An.go H (.inr (HP)) 24 [0, 1, 2, 3, 4] [(128, (.bool false)), (129, (.slice A1 1 k1))] [] fun a H => ?_
   refine An.q H (.inr (HP)) 5 130 (.pointer (some ⟨bu1, ou1 + 0 * 13, none⟩)) (fun _ => ex_indexA (b := bu1) (off := ou1) (len := 1) (cap := k1) (e := 76) (k := 13) (ik := .i64) (i := 0) (m := 0) hAu1 (by kernel_rfl) (by kernel_rfl) rfl (by decide) (by kernel_rfl) (by kernel_rfl)) fun a H => ?_
   refine An.go H (.inr (HP)) 22 [6] [(131, (.pointer (some ⟨bu1, ou1 + 0 * 13 + 5, none⟩)))] [] fun a H => ?_
   refine An.vw H (HP) 7 132 (.bool u1.key) (fun _ hS => ex_l1 (IsRow.cells unC_size (hS.fact 0 rfl : IsRow 13 unC _ A1 [uv u1 B1 d1]) hAu1 (i := 0) (x := uv u1 B1 d1) rfl 5 _ rfl)) fun a H => ?_
   refine An.go H (.inr (HP)) 19 [8, 9] [(134, (.bool (!u1.key)))] [] fun a H => ?_
   refine H.split 134 rfl (fun g134 H => ?_) (fun g134 H => ?_)
   ·have g134p := not_is_true g134
    refine An.go H (.inr (HP)) 18 [10] [(135, (.slice A1 1 k1))] [] fun a H => ?_
    refine An.q H (.inr (HP)) 11 136 (.pointer (some ⟨bu1, ou1 + 0 * 13, none⟩)) (fun _ => ex_indexA (b := bu1) (off := ou1) (len := 1) (cap := k1) (e := 76) (k := 13) (ik := .i64) (i := 0) (m := 0) hAu1 (by kernel_rfl) (by kernel_rfl) rfl (by decide) (by kernel_rfl) (by kernel_rfl)) fun a H => ?_
    refine An.go H (.inr (HP)) 16 [12] [(137, (.pointer (some ⟨bu1, ou1 + 0 * 13 + 3, none⟩)))] [] fun a H => ?_
    refine An.vw H (HP) 13 138 (ii u1.item) (fun _ hS => ex_l1 (IsRow.cells unC_size (hS.fact 0 rfl : IsRow 13 unC _ A1 [uv u1 B1 d1]) hAu1 (i := 0) (x := uv u1 B1 d1) rfl 3 _ rfl)) fun a H => ?_
    refine An.go H (.inr (HP)) 13 [14, 15] [(140, (ii z.item))] [3] fun a H => ?_
    refine An.pureE H (.inr (HP)) 16 141 (.bool (u1.item != z.item)) (.bool false) rfl (by kernel_rfl) (by kernel_rfl) (fun _ _ _ h => h) (fun _ => by kernel_rfl) ((congrArg Value.bool (by rw [(hch1.dec.resolve_left (by intro h; rw [h] at g134; cases g134)).1, hz.1]; simp))) fun a H => ?_
    refine An.go H (.inr (HP)) 10 [17, 18] [(142, (.bool false)), (143, (.slice A1 1 k1))] [] fun a H => ?_
    refine An.q H (.inr (HP)) 19 144 (.pointer (some ⟨bu1, ou1 + 0 * 13, none⟩)) (fun _ => ex_indexA (b := bu1) (off := ou1) (len := 1) (cap := k1) (e := 76) (k := 13) (ik := .i64) (i := 0) (m := 0) hAu1 (by kernel_rfl) (by kernel_rfl) rfl (by decide) (by kernel_rfl) (by kernel_rfl)) fun a H => ?_
    refine An.go H (.inr (HP)) 8 [20] [(145, (.pointer (some ⟨bu1, ou1 + 0 * 13 + 4, none⟩)))] [] fun a H => ?_
    refine An.vw H (HP) 21 146 (ii u1.index) (fun _ hS => ex_l1 (IsRow.cells unC_size (hS.fact 0 rfl : IsRow 13 unC _ A1 [uv u1 B1 d1]) hAu1 (i := 0) (x := uv u1 B1 d1) rfl 4 _ rfl)) fun a H => ?_
    refine An.go H (.inr (HP)) 5 [22, 23] [(148, (ii z.index))] [3] fun a H => ?_
    refine An.pureE H (.inr (HP)) 24 149 (ii (IntKind.i64.wrap (z.index + 1))) (ii (z.index + 1)) rfl (by kernel_rfl) (by kernel_rfl) (fun _ _ _ h => h) (fun _ => by kernel_rfl) ((by rw [wrap_ini64 _ (by omega)])) fun a H => ?_
    refine An.pureE H (.inr (HP)) 25 150 (.bool (u1.index != z.index + 1)) (.bool false) rfl (by kernel_rfl) (by kernel_rfl) (fun _ _ _ h => h) (fun _ => by kernel_rfl) ((congrArg Value.bool (by rw [(hch1.dec.resolve_left (by intro h; rw [h] at g134; cases g134)).2, hz.2]; simp))) fun a H => ?_
    refine An.go H (.inr (HP)) 0 [26, 27, 28] [(153, (.bool false))] [] fun a H => ?_
    refine An.done (by kernel_rfl) ?_
    refine ztn ?_
    refine w_iff H rfl ?_
    refine zsk (ztn (zsq (zrg ?_)))
    refine H.go HP 2 [(155, (ii c.full)), (156, (.slice A1 1 k1))] [] fun a H => H.u 157 (.pointer (some ⟨bu1, ou1 + 0 * 13, none⟩)) (ex_indexA (b := bu1) (off := ou1) (len := 1) (cap := k1) (e := 76) (k := 13) (ik := .i64) (i := 0) (m := 0) hAu1 (by kernel_rfl) (by kernel_rfl) rfl (by decide) (by kernel_rfl) (by kernel_rfl)) fun a H => H.go HP 1 [(158, (.pointer (some ⟨bu1, ou1 + 0 * 13 + 6, none⟩)))] [] fun a H => H.u 159 (.string (bstr u1.data)) (ex_l1 (IsRow.cells unC_size (HP.fact 0 rfl : IsRow 13 unC _ A1 [uv u1 B1 d1]) hAu1 (i := 0) (x := uv u1 B1 d1) rfl 6 _ rfl)) fun a H => H.go HP 1 [(160, (ii u1.data.length))] [] fun a H => ?_
    refine H.cl 161 (Tryz.call29 _ _) ((by have hh := vbvStep_any c.full (u1.data.length : Int) w_25; rw [hch1.step] at hh; exact hh)) ?_
    rintro e w_26 ⟨rfl, hw⟩
    refine ⟨_, rfl, ?_⟩
    intro a H
    have HP := hw ▸ HP
    refine H.ge HP [(19, (ii g1)), (20, (.bool true))] [] fun a H => ?_
    refine ztn (zsq (zsq (zrg ?_)))
    refine H.go HP 6 [(166, (.bool false)), (167, (ii g1)), (168, (pt bs 0)), (169, (.slice (dropA AP cp 1 13) 1 (cp - 1)))] [] fun a H => H.u 170 (.pointer (some ⟨bq, oq + 0 * 13, none⟩)) (ex_indexA (b := bq) (off := oq) (len := 1) (cap := (cp - 1)) (e := 67) (k := 13) (ik := .i64) (i := 0) (m := 0) hApl1 (by kernel_rfl) (by kernel_rfl) rfl (by decide) (by kernel_rfl) (by kernel_rfl)) fun a H => H.go HP 1 [(171, (.pointer (some ⟨bq, oq + 0 * 13, none⟩)))] [] fun a H => H.u 172 (ii 0) (ex_l1 (IsRow.cells plnC_size (HP.fact 2 rfl : IsRow 13 plnC _ (dropA AP cp 1 13) [(pl1 I1 i1)]) hApl1 (i := 0) (x := (pl1 I1 i1)) rfl 0 _ rfl)) fun a H => H.cb HP 173 (Tryz.call22 _ _) ((by have hh := full_any bs cs kcs _ _ _ _ [chN c u1 g1 tk1] rests 0 w_26 (by show 0 < 1; decide) (by show 1 ≤ 40; decide) (HP.at_ 4 rfl) (HP.at_ 5 rfl); rw [show fullP 0 [chN c u1 g1 tk1] = g1 from if_pos hc.nb] at hh; exact hh)) fun w_27 hb a H HP => H.valE 174 (.bool (g1 != g1)) (.bool false) (by kernel_rfl) (by kernel_rfl) ((congrArg Value.bool (by simp))) fun a H => ?_
    refine H.ge HP [(175, (.bool false))] [] fun a H => ?_
    refine ztn ?_
    refine w_iff H rfl ?_
    refine zsk (ztn (zsq (zrg ?_)))
    refine H.ge HP [(11, (ii g1))] [] fun a H => ?_
    refine ztn (zrg ?_)
    refine H.go HP 1 [(177, (.slice A1 1 k1))] [] fun a H => H.u 178 (.pointer (some ⟨bu1, ou1 + 0 * 13, none⟩)) (ex_indexA (b := bu1) (off := ou1) (len := 1) (cap := k1) (e := 76) (k := 13) (ik := .i64) (i := 0) (m := 0) hAu1 (by kernel_rfl) (by kernel_rfl) rfl (by decide) (by kernel_rfl) (by kernel_rfl)) fun a H => H.u 179 (.agg #[(ii u1.channel), (ii u1.frame), (ii u1.version), (ii u1.item), (ii u1.index), (.bool u1.key), (.string (bstr u1.data)), (ii u1.regions), (ii u1.gain), (.string (bstr u1.caption)), (ii u1.os), (ii u1.of), (.slice B1 0 d1)]) (ex_lN [(ii u1.channel), (ii u1.frame), (ii u1.version), (ii u1.item), (ii u1.index), (.bool u1.key), (.string (bstr u1.data)), (ii u1.regions), (ii u1.gain), (.string (bstr u1.caption)), (ii u1.os), (ii u1.of), (.slice B1 0 d1)] (IsRow.cells unC_size (HP.fact 0 rfl : IsRow 13 unC _ A1 [uv u1 B1 d1]) hAu1 (i := 0) (x := uv u1 B1 d1) rfl)) fun a H => H.sh HP 3 0 (.agg #[(ii u1.channel), (ii u1.frame), (ii u1.version), (ii u1.item), (ii u1.index), (.bool u1.key), (.string (bstr u1.data)), (ii u1.regions), (ii u1.gain), (.string (bstr u1.caption)), (ii u1.os), (ii u1.of), (.slice B1 0 d1)]) rfl fun w_28 a H HP => ?_
    refine znl (zibn (ztn (zrg ?_)))
    refine H.go HP 1 [(44, (ii i))] [] fun a H => H.wi 45 ((i : Int) + 1) fun a H => ?_
    refine H.ge HP [(13, (ii ((i : Int) + 1)))] [] fun a H => ?_
    refine ztn ?_
    have H := H.as 13 (ii ((i + 1 : Nat) : Int)) rfl rfl
    refine ⟨_, ?_, i + 1, hd2, at2, od2, (chN c u1 g1 tk1), it1, ix1, it2, ix2, u1, B1, d1, rfl, H.keep (by kernel_rfl), (HP.subw [3, 2, 4, 5] [bx b_6 76 [(ii u1.channel), (ii u1.frame), (ii u1.version), (ii u1.item), (ii u1.index), (.bool u1.key), (.string (bstr u1.data)), (ii u1.regions), (ii u1.gain), (.string (bstr u1.caption)), (ii u1.os), (ii u1.of), (.slice B1 0 d1)] true, bx cb 55 [(ii it1), (ii ix1), (ii it2), (ii ix2)] true, bx bs 111 [(.slice (some ⟨cs, 0, none⟩) 1 kcs), (.slice Ss ls.length kSs), (.bool hd2), (ii at2), (ii od2)] true, bx cs 115 (flat chC [chN c u1 g1 tk1] ++ rests) true] (by kernel_rfl) (by kernel_rfl)).untop, (by omega), (by omega), (beat_more hbo2), (hch1.ok hc), (by omega), ⟨rfl, rfl⟩⟩
    omega
   have g134p := not_is_false g134
   refine An.go H (.inr (HP)) 0 [10, 11, 12, 13, 14, 15, 16, 17, 18, 19, 20, 21, 22, 23, 24, 25, 26, 27, 28] [(153, (.bool false))] [] fun a H => ?_
   refine An.done (by kernel_rfl) ?_
   refine ztn ?_
   refine w_iff H rfl ?_
   refine zsk (ztn (zsq (zrg ?_)))
   refine H.go HP 2 [(155, (ii c.full)), (156, (.slice A1 1 k1))] [] fun a H => H.u 157 (.pointer (some ⟨bu1, ou1 + 0 * 13, none⟩)) (ex_indexA (b := bu1) (off := ou1) (len := 1) (cap := k1) (e := 76) (k := 13) (ik := .i64) (i := 0) (m := 0) hAu1 (by kernel_rfl) (by kernel_rfl) rfl (by decide) (by kernel_rfl) (by kernel_rfl)) fun a H => H.go HP 1 [(158, (.pointer (some ⟨bu1, ou1 + 0 * 13 + 6, none⟩)))] [] fun a H => H.u 159 (.string (bstr u1.data)) (ex_l1 (IsRow.cells unC_size (HP.fact 0 rfl : IsRow 13 unC _ A1 [uv u1 B1 d1]) hAu1 (i := 0) (x := uv u1 B1 d1) rfl 6 _ rfl)) fun a H => H.go HP 1 [(160, (ii u1.data.length))] [] fun a H => ?_
   refine H.cl 161 (Tryz.call29 _ _) ((by have hh := vbvStep_any c.full (u1.data.length : Int) w_25; rw [hch1.step] at hh; exact hh)) ?_
   rintro e w_29 ⟨rfl, hw⟩
   refine ⟨_, rfl, ?_⟩
   intro a H
   have HP := hw ▸ HP
   refine H.ge HP [(19, (ii g1)), (20, (.bool true))] [] fun a H => ?_
   refine ztn (zsq (zsq (zrg ?_)))
   refine H.go HP 6 [(166, (.bool false)), (167, (ii g1)), (168, (pt bs 0)), (169, (.slice (dropA AP cp 1 13) 1 (cp - 1)))] [] fun a H => H.u 170 (.pointer (some ⟨bq, oq + 0 * 13, none⟩)) (ex_indexA (b := bq) (off := oq) (len := 1) (cap := (cp - 1)) (e := 67) (k := 13) (ik := .i64) (i := 0) (m := 0) hApl1 (by kernel_rfl) (by kernel_rfl) rfl (by decide) (by kernel_rfl) (by kernel_rfl)) fun a H => H.go HP 1 [(171, (.pointer (some ⟨bq, oq + 0 * 13, none⟩)))] [] fun a H => H.u 172 (ii 0) (ex_l1 (IsRow.cells plnC_size (HP.fact 2 rfl : IsRow 13 plnC _ (dropA AP cp 1 13) [(pl1 I1 i1)]) hApl1 (i := 0) (x := (pl1 I1 i1)) rfl 0 _ rfl)) fun a H => H.cb HP 173 (Tryz.call22 _ _) ((by have hh := full_any bs cs kcs _ _ _ _ [chN c u1 g1 tk1] rests 0 w_29 (by show 0 < 1; decide) (by show 1 ≤ 40; decide) (HP.at_ 4 rfl) (HP.at_ 5 rfl); rw [show fullP 0 [chN c u1 g1 tk1] = g1 from if_pos hc.nb] at hh; exact hh)) fun w_30 hb a H HP => H.valE 174 (.bool (g1 != g1)) (.bool false) (by kernel_rfl) (by kernel_rfl) ((congrArg Value.bool (by simp))) fun a H => ?_
   refine H.ge HP [(175, (.bool false))] [] fun a H => ?_
   refine ztn ?_
   refine w_iff H rfl ?_
   refine zsk (ztn (zsq (zrg ?_)))
   refine H.ge HP [(11, (ii g1))] [] fun a H => ?_
   refine ztn (zrg ?_)
   refine H.go HP 1 [(177, (.slice A1 1 k1))] [] fun a H => H.u 178 (.pointer (some ⟨bu1, ou1 + 0 * 13, none⟩)) (ex_indexA (b := bu1) (off := ou1) (len := 1) (cap := k1) (e := 76) (k := 13) (ik := .i64) (i := 0) (m := 0) hAu1 (by kernel_rfl) (by kernel_rfl) rfl (by decide) (by kernel_rfl) (by kernel_rfl)) fun a H => H.u 179 (.agg #[(ii u1.channel), (ii u1.frame), (ii u1.version), (ii u1.item), (ii u1.index), (.bool u1.key), (.string (bstr u1.data)), (ii u1.regions), (ii u1.gain), (.string (bstr u1.caption)), (ii u1.os), (ii u1.of), (.slice B1 0 d1)]) (ex_lN [(ii u1.channel), (ii u1.frame), (ii u1.version), (ii u1.item), (ii u1.index), (.bool u1.key), (.string (bstr u1.data)), (ii u1.regions), (ii u1.gain), (.string (bstr u1.caption)), (ii u1.os), (ii u1.of), (.slice B1 0 d1)] (IsRow.cells unC_size (HP.fact 0 rfl : IsRow 13 unC _ A1 [uv u1 B1 d1]) hAu1 (i := 0) (x := uv u1 B1 d1) rfl)) fun a H => H.sh HP 3 0 (.agg #[(ii u1.channel), (ii u1.frame), (ii u1.version), (ii u1.item), (ii u1.index), (.bool u1.key), (.string (bstr u1.data)), (ii u1.regions), (ii u1.gain), (.string (bstr u1.caption)), (ii u1.os), (ii u1.of), (.slice B1 0 d1)]) rfl fun w_31 a H HP => ?_
   refine znl (zibn (ztn (zrg ?_)))
   refine H.go HP 1 [(44, (ii i))] [] fun a H => H.wi 45 ((i : Int) + 1) fun a H => ?_
   refine H.ge HP [(13, (ii ((i : Int) + 1)))] [] fun a H => ?_
   refine ztn ?_
   have H := H.as 13 (ii ((i + 1 : Nat) : Int)) rfl rfl
   refine ⟨_, ?_, i + 1, hd2, at2, od2, (chN c u1 g1 tk1), it1, ix1, it2, ix2, u1, B1, d1, rfl, H.keep (by kernel_rfl), (HP.subw [3, 2, 4, 5] [bx b_6 76 [(ii u1.channel), (ii u1.frame), (ii u1.version), (ii u1.item), (ii u1.index), (.bool u1.key), (.string (bstr u1.data)), (ii u1.regions), (ii u1.gain), (.string (bstr u1.caption)), (ii u1.os), (ii u1.of), (.slice B1 0 d1)] true, bx cb 55 [(ii it1), (ii ix1), (ii it2), (ii ix2)] true, bx bs 111 [(.slice (some ⟨cs, 0, none⟩) 1 kcs), (.slice Ss ls.length kSs), (.bool hd2), (ii at2), (ii od2)] true, bx cs 115 (flat chC [chN c u1 g1 tk1] ++ rests) true] (by kernel_rfl) (by kernel_rfl)).untop, (by omega), (by omega), (beat_more hbo2), (hch1.ok hc), (by omega), ⟨rfl, rfl⟩⟩
   omega
  have g43p := of_decide_eq_false g43
  refine wp_exit (then_exit (then_exit ?_))
  refine w_exit_here ?_
  refine ztn (zsq (zrg ?_))
  refine H.ge HP [(4, (.bool true))] [] fun a H => ?_
  refine ztn (zrt ?_)
  refine H.r1 (.bool true) Tryz.results5 ?_
  exact ⟨rfl, HP.bl⟩
 have g40p := of_decide_eq_false g40
 refine H.ge HP [(43, (.bool false))] [] fun a H => ?_
 refine ztn ?_
 refine w_iff H rfl ?_
 refine wp_exit (then_exit (then_exit ?_))
 refine w_exit_here ?_
 refine ztn (zsq (zrg ?_))
 refine H.ge HP [(4, (.bool true))] [] fun a H => ?_
 refine ztn (zrt ?_)
 refine H.r1 (.bool true) Tryz.results5 ?_
 exact ⟨rfl, HP.bl⟩
end Go.Proofs.YthpbaaadkhdifaaGreatDoor
namespace Go.Proofs.YthpbaaadkhdifaaGreatDoor.selectorDecodable
set_option maxRecDepth 100000
set_option maxHeartbeats 4000000
open Go.ChangeShapes Go.WideShapes Go.ChangeAt Go.RowKit
theorem walk (a0 : SlA Int) (a1 : SlA (Nat → Int)) (w : World) (hL : Laid w) (h0 : opInts.ok w a0) (h1 : op9s.ok w a1) :
    Calls Tryz.prog 5 #[(opInts.cells a0).headD undef, (op9s.cells a1).headD undef] w fun e w' => e = .returned (.bool true) ∧ Below w.heap.size w w' :=
  dec_law a0.A a0.c a0.l a1.A a1.c a1.l w hL (ints_ok h0).row (ints_ok h0).all (ints_ok h0).len (ar9_ok h1).row (ar9_ok h1).all (ar9_ok h1).len
end Go.Proofs.YthpbaaadkhdifaaGreatDoor.selectorDecodable
namespace Go.Proofs.YthpbaaadkhdifaaGreatDoor.selectorDecodable
set_option maxRecDepth 100000
set_option maxHeartbeats 4000000
open Go.ChangeShapes Go.WideShapes Go.ChangeAt Go.RowKit
open Go.ChangeMaps (open_string shut_string)
set_option linter.unusedVariables false
theorem own : ownKnob Tryz.prog.godebug = none := by kernel_rfl
theorem laidOut : laidOutB Tryz.prog = true := by kernel_rfl
set_option maxRecDepth 100000 in
theorem lifted (os : Os) (started : os.Started) (H : Type) (enc : TypeId × Value → H) :
    ReturnsInHanded {} Tryz.checked os 5 .any (fun w args => (Rows.selectorDecodableSpec.pre enc Tryz.prog Tryz.f5 [] false w args ∧ laidMetH Tryz.prog laid2 w) ∧ sizedMet enc Tryz.prog Tryz.f5 (OpenSpec.ofChange Rows.selectorDecodableSpec) false w args) (Rows.selectorDecodableSpec.post enc Tryz.prog Tryz.f5 false true false false) := by
  refine returnsInHanded_of_change_and (C := Tryz.checked) (X := fun w _ => laidMetH Tryz.prog laid2 w) (fun _ _ _ hh h => h.of_heap hh) own started (by kernel_rfl) Tryz.func5
    (ChangeSpec.witness_shaped (enc := enc) (C := Tryz.checked) (os := os) (X := fun w _ => laidMetH Tryz.prog laid2 w) false (World.doorLaid Tryz.prog 4000 os) #[.slice none 0 0, .slice none 0 0] 12 rfl (World.shaped_of_RefB (by kernel_rfl) (by kernel_rfl)) (by kernel_rfl) (by kernel_rfl) (by kernel_rfl) (door_met os _)) ?_
  intro W base args ds gs before hval0 hW hcnd hsz0 hL _
  have hval : ∀ (j : Nat) t v, Tryz.f5.params[j]? = some t → args[j]? = some v → Value.okWide Tryz.prog W .any base t v := hval0
  have hW' := hW
  obtain ⟨p, q, hA0, hV, rfl, hfz, hnd⟩ := hW
  have hA : DataW.TrodAll enc Tryz.prog W 0 (fun _ => true) true Tryz.f5.params.toList args.toList ds p := hA0
  have hsz : (DataW.weightsEach Tryz.prog (Tryz.f5.params.toList ++ Rows.selectorDecodableSpec.plain.varTypes Tryz.prog) (ds ++ gs)).all (· ≤ reachBytes) = true := hsz0
  rw [Tryz.params5] at hA hval hsz
  obtain ⟨v0, vs0, d0, ds0, p0, q0, hargs, rfl, rfl, h0, r0⟩ := trodAll_cons hA
  obtain ⟨v1, vs1, d1, ds1, p1, q1, rfl, rfl, rfl, h1, r1⟩ := trodAll_cons r0
  obtain ⟨rfl, rfl, rfl⟩ := trodAll_nil r1
  obtain rfl : args = #[v0, v1] := by cases args; simp_all
  obtain ⟨rfl, rfl⟩ := trodVars_none hV
  obtain ⟨a0x, len0, cap0, rfl⟩ := okWide_slice Tryz.underlying22 (hval 0 22 v0 rfl rfl)
  have k0 := h0
  have lt0 : ∀ x ∈ p0, x.block < W.heap.size := by obtain ⟨m, hm⟩ := k0; exact DataW.trod_lt m _ _ _ hm
  obtain ⟨a0, w0, e0⟩ : ∃ a, opInts.ok W a ∧ Value.slice a0x len0 cap0 = (opInts.cells a).headD undef := by
    obtain ⟨fuel, hf⟩ := h0
    obtain ⟨a, ha, hok⟩ := opInts.opens hf (fun n hn => of_decide_eq_true (List.all_eq_true.1 hsz n (DataW.weights_mem_each (j := 0) (t := 22) (by rfl) (by rfl) n hn)))
    refine ⟨a, hok, ?_⟩
    have : [Value.slice a0x len0 cap0] = opInts.cells a := ha
    rw [← this]
    rfl
  rw [e0] at k0 hW' ⊢
  obtain ⟨a1x, len1, cap1, rfl⟩ := okWide_slice Tryz.underlying23 (hval 1 23 v1 rfl rfl)
  have k1 := h1
  have lt1 : ∀ x ∈ p1, x.block < W.heap.size := by obtain ⟨m, hm⟩ := k1; exact DataW.trod_lt m _ _ _ hm
  obtain ⟨a1, w1, e1⟩ : ∃ a, op9s.ok W a ∧ Value.slice a1x len1 cap1 = (op9s.cells a).headD undef := by
    obtain ⟨fuel, hf⟩ := h1
    obtain ⟨a, ha, hok⟩ := op9s.opens hf (fun n hn => of_decide_eq_true (List.all_eq_true.1 hsz n (DataW.weights_mem_each (j := 1) (t := 23) (by rfl) (by rfl) n hn)))
    refine ⟨a, hok, ?_⟩
    have : [Value.slice a1x len1 cap1] = op9s.cells a := ha
    rw [← this]
    rfl
  rw [e1] at k1 hW' ⊢
  clear hA0 hval0 hsz0
  refine (walk a0 a1 W (laid_of hL) w0 w1).mono fun e W' ⟨he, bel⟩ => ?_
  subst he
  exact ⟨_, rfl, _, _, _, [], _, [], hW', trodAll_mk1 (shut_bool Tryz.underlying4 _), (trodAll_cons_mk (Below.trod laidOut (by kernel_rfl) (of_decide_eq_true (by kernel_rfl)) k0 bel lt0) (trodAll_cons_mk (Below.trod laidOut (by kernel_rfl) (of_decide_eq_true (by kernel_rfl)) k1 bel lt1) trodAll_mk0)), rfl, bel.frame _, fun h => by cases h⟩
theorem over : Rows.selectorDecodableRow.holds Tryz.pinned (OpenSpec.ofChange Rows.selectorDecodableSpec) :=
  OpenClaim.holds_of_wide 5 Tryz.f5 rfl rfl rfl rfl rfl rfl rfl ⟨rfl, rfl, rfl, rfl, rfl⟩ rfl rfl rfl rfl rfl (by kernel_rfl) Tryz.func5 (by kernel_rfl)
    (of_decide_eq_true (by kernel_rfl)) (by unfold Func.isWrapper; first | (rw [if_pos (by decide +kernel)]; kernel_rfl) | (rw [if_neg (by decide +kernel)]; exact ⟨rfl, rfl⟩))
    (fun os started H enc _ => lifted os started H enc)
theorem proved : Rows.SelectorDecodableCardSaid :=
  Claim7.holds_tied_plain_at .later [] [.data, .data] true (true, "9dee3736a47d5fde62d585030fb6813f4463abab0d4d0d63d0a04982675a9e5c") false
    over (fun _ h => by cases h) (by kernel_rfl) (fun _ h => by cases h) selectorDecodable_row_tie rfl ⟨rfl, rfl⟩ (by kernel_rfl) rfl
    (fun f fn hf hfn => by
      obtain rfl : f = 5 := Option.some.inj ((show Tryz.prog.funcNamed "onair/onairlaw22.SelectorDecodable" = some 5 by kernel_rfl).symm.trans hf) |>.symm
      obtain rfl : fn = Tryz.f5 := (Option.some.inj (Tryz.func5.symm.trans hfn)).symm
      exact ⟨by kernel_rfl, fun j t ht => by
        rw [Tryz.params5] at ht
        have hm : t ∈ [22, 23] := by simpa using Array.mem_of_getElem? ht
        have hall : ([22, 23].all fun u => !Tryz.prog.wantsStandIn u) = true := by kernel_rfl
        exact (show Tryz.prog.wantsStandIn t = false by simpa using List.all_eq_true.1 hall t hm)⟩)
    (by kernel_rfl)
#print axioms proved
end Go.Proofs.YthpbaaadkhdifaaGreatDoor.selectorDecodable
