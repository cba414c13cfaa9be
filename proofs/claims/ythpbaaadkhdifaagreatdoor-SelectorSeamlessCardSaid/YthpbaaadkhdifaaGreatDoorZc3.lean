/- The statement SelectorSeamless: for every input the law returns true and leaves its arguments as they were. No condition. -/
import Derived.Test.YthpbaaadkhdifaaGreatDoorCards
import Derived.Test.YthpbaaadkhdifaaGreatDoorTie
import Derived.WalkKit
import Derived.ProofKit
import Derived.OpenShut
import Derived.ShutString
import Derived.ChangeOld
import Derived.Below
import Derived.SizedLaws
import Derived.SevenTiedAt
import Derived.Test.YthpbaaadkhdifaaGreatDoorZch
namespace Go.Proofs.YthpbaaadkhdifaaGreatDoor
set_option maxRecDepth 100000
set_option maxHeartbeats 4000000
open Go.ChangeShapes Go.WideShapes Go.ChangeAt Go.RowKit Go.Shelf
set_option linter.unusedVariables false
set_option linter.unusedSimpArgs false
abbrev chT (c : Ch) (tk : Int) : Ch := ⟨c.item, c.index, c.full, tk, c.number, c.num, c.den⟩
theorem chT_ok {nm nb : Int} {c : Ch} {tk : Int} (h : ChOk nm nb c) : ChOk nm nb (chT c tk) := ⟨h.num, h.den, h.nb, h.lo, h.hi, h.f0, h.f1⟩
theorem accept_un {li : List AstA} {fl : Option Int} {c : Ch} {f : Int} {x : List UInt8} (h : unpackP c.num c.den x = none) : acceptP li fl c f x = none := by unfold acceptP; rw [h]
theorem seam {li : List AstA} {fl : Option Int} {c : Ch} {tk f : Int} {s x y : List UInt8} {u v : Un} {g t g' t' : Int} (h : Chosen li fl c f s s u g t) (h' : Chosen li fl (chT c tk) f x y v g' t') (hx : x = s ∨ unpackP c.num c.den x = none) (hy : y = s ∨ unpackP c.num c.den y = none) (hxy : x = s ∨ y = s) : u = v ∧ g = g' := by
 have key : u = v := by
  have e1 := congrArg Prod.fst h.eq
  have e2 := congrArg Prod.fst h'.eq
  simp only [chooseC] at e1 e2
  rw [show acceptP li fl (chT c tk) f = acceptP li fl c f from rfl] at e2
  rw [← e1, ← e2]
  cases hr : acceptP li fl c f s with
  | none =>
   have hn : ∀ z, (z = s ∨ unpackP c.num c.den z = none) → acceptP li fl c f z = none := fun z hz => by
    rcases hz with rfl | hz
    ·exact hr
    ·exact accept_un hz
   rw [hn x hx, hn y hy]; rfl
  | some q =>
   have hn : ∀ z, (z = s ∨ unpackP c.num c.den z = none) → acceptP li fl c f z = some q ∨ acceptP li fl c f z = none := fun z hz => by
    rcases hz with rfl | hz
    ·exact .inl hr
    ·exact .inr (accept_un hz)
   have hs : (takeP c f (some q) (some q)).1 = q := by simp only [takeP]; split <;> rfl
   rw [hs]
   rcases hxy with rfl | rfl
   ·rw [hr]
    rcases hn y hy with h2 | h2 <;> rw [h2]
    ·simp only [takeP]; split <;> rfl
    ·rfl
   ·rw [hr]
    rcases hn x hx with h2 | h2 <;> rw [h2]
    ·simp only [takeP]; split <;> rfl
    ·rfl
 subst key
 exact ⟨rfl, Option.some.inj (h.step.symm.trans h'.step)⟩
theorem seam_law (XA : Option Addr) (xc : Nat) (xs : List Int) (AL : Option Addr) (cl : Nat) (l : List (Nat → Int)) (AW : Option Addr) (cw : Nat) (wh : List Int) (w : World) (hL : Laid w) (hxr : IsRow 1 i1C w XA xs) (hxi : ∀ n ∈ xs, in64 n) (hxl : xs.length ≤ 1000000000000000) (hlr : IsRow 5 ar5 w AL l) (hin : ∀ q ∈ l, ∀ k, in64 (q k)) (hll : l.length ≤ 1000000000000000) (hwr : IsRow 1 i1C w AW wh) (hwi : ∀ n ∈ wh, in64 n) :
  Calls Tryz.prog 6 #[.slice XA xs.length xc, .slice AL l.length cl, .slice AW wh.length cw] w fun e w' => e = .returned (.bool true) ∧ Below w.heap.size w w' := by
 have HP := (((((Hp.start w).keepF (rowF 1 i1C AW wh) hwr (rowF_ok _ _ _ _) (fun k hk => ⟨hwr.lt k hk, fun x hx => by cases hx⟩)).keepF (rowF 1 i1C XA xs) hxr (rowF_ok _ _ _ _) (fun k hk => ⟨hxr.lt k hk, fun x hx => by cases hx⟩)).keepF (rowF 5 ar5 AL l) hlr (rowF_ok _ _ _ _) (fun k hk => ⟨hlr.lt k hk, fun x hx => by cases hx⟩)).keepF laidK hL laidK_ok (fun k hk => ⟨hL.lt k hk, fun x hx => by cases hx⟩))
 refine w_enter 158 [(0, (.slice XA xs.length xc)), (1, (.slice AL l.length cl)), (2, (.slice AW wh.length cw))] Tryz.func6 rfl Tryz.ntmps6 (by kernel_rfl) (by kernel_rfl) fun a H => ?_
 refine zsq (zrg ?_)
 refine H.ge HP [(6, (.bool false))] [] fun a H => ?_
 refine ztn (zsq (zrg ?_))
 refine H.cb HP 23 (Tryz.call10 _ _) (sane_any w (HP.fact 0 rfl)) fun w_1 hb a H HP => ?_
 refine H.ge HP [(7, (.bool true))] [] fun a H => ?_
 refine ztn (zsq (zrg ?_))
 refine H.go HP 1 [(24, (.slice XA xs.length xc))] [] fun a H => ?_
 refine H.cl 25 (Tryz.call11 _ _) (libraryL_any XA xc xs w_1 hxl hxi (HP.fact 2 rfl)) ?_
 rintro e w_2 ⟨LA, lc, li, rfl, hli, hlib, hb⟩
 refine ⟨_, rfl, ?_⟩
 intro a H
 have HP := (HP.next hb).keepF (astsK LA li) hlib (fun _ _ h hk hs => IsAsts.keep h hk hs) (fun k hk => ⟨IsAsts.lt hlib hk, fun x hx => by cases hx⟩)
 refine H.ge HP [(8, (.slice LA li.length lc))] [] fun a H => ?_
 refine ztn (zsq (zrg ?_))
 refine H.cl 26 (Tryz.call12 _ _) (plansL_any w_2) ?_
 rintro e w_3 ⟨AP, cp, I0, i0, I1, i1, rfl, hcp, hpr, hpi, hb⟩
 refine ⟨_, rfl, ?_⟩
 intro a H
 have HP := (((HP.next hb).keepF (itsK [(pl0 I0 i0), (pl1 I1 i1)]) hpi (itsK_ok _) (fun k hk => ⟨itsK_lt hpi hk, fun x hx => by cases hx⟩)).keepF (rowF 13 plnC AP [(pl0 I0 i0)]) (pl_take hpr) (rowF_ok _ _ _ _) (fun k hk => ⟨IsRow.lt (pl_take hpr) k hk, fun x hx => by cases hx⟩))
 refine H.u 27 (.slice AP 1 cp) (ex_sliceH (len := 2) (k := .i64) (m := 1) (sz := 13) (by kernel_rfl) (by kernel_rfl) (by kernel_rfl) (by kernel_rfl) rfl (by omega)) fun a H => ?_
 refine H.ge HP [(9, (.slice AP 1 cp))] [] fun a H => ?_
 refine ztn (zsq (zrg ?_))
 refine H.go HP 2 [(29, (.slice AP 1 cp)), (30, (.slice LA li.length lc))] [] fun a H => ?_
 refine H.cl 31 (Tryz.call13 _ _) (newL_any AP cp lc [(pl0 I0 i0)] LA li w_3 plOk0 hli (HP.fact 3 rfl) (its_0 (HP.fact 1 rfl)) (HP.fact 0 rfl) (HP.fact 2 rfl)) ?_
 rintro e w_4 ⟨bs, cs, kcs, Ss, kSs, ls, rests, rfl, hN, hbn⟩
 refine ⟨_, rfl, ?_⟩
 intro a H
 have HP := (HP.gainSel hN hbn : Hp w _ [bx bs 111 [(.slice (some ⟨cs, 0, none⟩) 1 kcs), (.slice Ss ls.length kSs), (.bool false), (ii 0), (ii 0)] true, bx cs 115 (flat chC [mkCh (pl0 I0 i0)] ++ rests) true] [astsK Ss ls, rowF 13 plnC AP [(pl0 I0 i0)], itsK [(pl0 I0 i0), (pl1 I1 i1)], astsK LA li, laidK, rowF 5 ar5 AL l, rowF 1 i1C XA xs, rowF 1 i1C AW wh])
 have h1s := hN.sel1 hli
 refine H.ge HP [(10, (pt bs 0)), (11, (ii 0))] [] fun a H => ?_
 refine ztn (zsq (zrg ?_))
 refine H.go HP 2 [(35, (.slice AP 1 cp)), (36, (.slice LA li.length lc))] [] fun a H => ?_
 refine H.cl 37 (Tryz.call13 _ _) (newL_any AP cp lc [(pl0 I0 i0)] LA li w_4 plOk0 hli (HP.fact 4 rfl) (its_0 (HP.fact 2 rfl)) (HP.fact 1 rfl) (HP.fact 3 rfl)) ?_
 rintro e w_5 ⟨bt, ct, kct, St, kSt, lt, restt, rfl, hN, hbn⟩
 refine ⟨_, rfl, ?_⟩
 intro a H
 have HP := (HP.gainSel hN hbn : Hp w _ [bx bt 111 [(.slice (some ⟨ct, 0, none⟩) 1 kct), (.slice St lt.length kSt), (.bool false), (ii 0), (ii 0)] true, bx ct 115 (flat chC [mkCh (pl0 I0 i0)] ++ restt) true, bx bs 111 [(.slice (some ⟨cs, 0, none⟩) 1 kcs), (.slice Ss ls.length kSs), (.bool false), (ii 0), (ii 0)] true, bx cs 115 (flat chC [mkCh (pl0 I0 i0)] ++ rests) true] [astsK St lt, astsK Ss ls, rowF 13 plnC AP [(pl0 I0 i0)], itsK [(pl0 I0 i0), (pl1 I1 i1)], astsK LA li, laidK, rowF 5 ar5 AL l, rowF 1 i1C XA xs, rowF 1 i1C AW wh])
 have h1t := hN.sel1 hli
 refine H.ge HP [(12, (pt bt 0)), (13, (ii 0))] [] fun a H => ?_
 refine ztn (zsq (zsq (zrg ?_)))
 refine H.ge HP [(45, (.bool false))] [] fun a H => ?_
 refine ztn ?_
 refine w_iff H rfl ?_
 refine zsk (ztn (zsq (zrg ?_)))
 refine H.go HP 1 [(46, (.agg #[(ii 0), (ii 0)]))] [] fun a H => H.al HP 47 55 [(ii 0), (ii 0)] fun b_6 w_7 a H HP => ?_
 refine H.ge HP [(14, (pt b_6 0))] [] fun a H => ?_
 refine ztn (zsq (zsq (zrg ?_)))
 refine H.ge HP [(15, (ii 0))] [] fun a H => ?_
 refine ztn (zbk ?_)
 obtain ⟨bp, op, hApl0⟩ := pl_at (q := (pl0 I0 i0)) (HP.fact 2 rfl : IsRow 13 plnC _ AP [(pl0 I0 i0)])
 refine w_loop (fun mm a wv => ∃ (i : Nat), ∃ (hd : Bool), ∃ (at_ : Int), ∃ (od : Int), ∃ (c : Ch), ∃ (t0 : Int), ∃ (x0 : Int), ∃ (tk : Int), l.length - i = mm ∧ Sl 158 [(15, (ii i)), (0, (.slice XA xs.length xc)), (1, (.slice AL l.length cl)), (2, (.slice AW wh.length cw)), (7, (.bool true)), (8, (.slice LA li.length lc)), (9, (.slice AP 1 cp)), (10, (pt bs 0)), (12, (pt bt 0)), (14, (pt b_6 0))] a ∧ Hp w wv [bx b_6 55 [(ii t0), (ii x0)] true, bx bs 111 [(.slice (some ⟨cs, 0, none⟩) 1 kcs), (.slice Ss ls.length kSs), (.bool hd), (ii at_), (ii od)] true, bx cs 115 (flat chC [c] ++ rests) true, bx bt 111 [(.slice (some ⟨ct, 0, none⟩) 1 kct), (.slice St lt.length kSt), (.bool hd), (ii at_), (ii od)] true, bx ct 115 (flat chC [chT c tk] ++ restt) true] [astsK St lt, astsK Ss ls, rowF 13 plnC AP [(pl0 I0 i0)], itsK [(pl0 I0 i0), (pl1 I1 i1)], astsK LA li, laidK, rowF 5 ar5 AL l, rowF 1 i1C XA xs, rowF 1 i1C AW wh] ∧ (i ≤ l.length) ∧ (i ≤ 50) ∧ (BeatOk hd at_ od (i : Int)) ∧ (ChOk 50 3 c) ∧ ((0 ≤ t0 ∧ t0 ≤ 8) ∧ (0 ≤ x0 ∧ x0 ≤ 29 + (i : Int)))) (l.length - 0) ?_ ?_
 ·exact ⟨0, false, 0, 0, (mkCh (pl0 I0 i0)), 0, 0, 0, (by omega), H.keep (by kernel_rfl), (HP.subw [0, 3, 4, 1, 2] [bx b_6 55 [(ii 0), (ii 0)] true, bx bs 111 [(.slice (some ⟨cs, 0, none⟩) 1 kcs), (.slice Ss ls.length kSs), (.bool false), (ii 0), (ii 0)] true, bx cs 115 (flat chC [mkCh (pl0 I0 i0)] ++ rests) true, bx bt 111 [(.slice (some ⟨ct, 0, none⟩) 1 kct), (.slice St lt.length kSt), (.bool false), (ii 0), (ii 0)] true, bx ct 115 (flat chC [mkCh (pl0 I0 i0)] ++ restt) true] (by kernel_rfl) (by kernel_rfl)), (Nat.zero_le _), (Nat.zero_le _), beat_zero, (ch_ok0 (pl0 I0 i0)), (by omega)⟩
 rintro mm a w_8 ⟨i, hd, at_, od, c, t0, x0, tk, hmeas, H, HP, hil, hin_, hbo, hc, hcu⟩
 refine zsq (zsq (zrg ?_))
 refine H.go HP 5 [(52, (.bool (decide ((i : Int) < (l.length : Int)))))] [] fun a H => ?_
 refine H.split 52 rfl (fun g52 H => ?_) (fun g52 H => ?_)
 ·have g52p := of_decide_eq_true g52
  refine H.ge HP [(55, (.bool (decide ((i : Int) < 50))))] [] fun a H => ?_
  refine ztn ?_
  refine w_if H rfl (fun g55 => ?_) (fun g55 => ?_)
  ·have g55p := of_decide_eq_true g55
   refine zsk (ztn (zsq (zbk (zsq ?_))))
   obtain ⟨bL, oL, q, hAL, _, _, hq, hqm, _⟩ := IsRow.get ar5_size (HP.fact 6 rfl) (i := i) (by omega)
   have hqi := hin q hqm
   refine zrg ?_
   refine H.go HP 3 [(59, (ii i)), (60, (.slice AL l.length cl)), (61, (ii i))] [] fun a H => H.u 62 (.pointer (some ⟨bL, oL + i * 5, none⟩)) (ex_indexA (b := bL) (off := oL) (len := l.length) (cap := cl) (e := 86) (k := 5) (ik := .i64) (i := (i : Int)) (m := i) hAL (by kernel_rfl) (by kernel_rfl) rfl (by omega) (by kernel_rfl) (by kernel_rfl)) fun a H => H.v 63 (.pointer (some ⟨bL, oL + i * 5 + 4, none⟩)) fun a H => H.u 64 (ii (q 4)) (ex_l1 (IsRow.cells ar5_size (HP.fact 6 rfl : IsRow 5 ar5 _ AL l) hAL hq 4 _ rfl)) fun a H => ?_
   refine H.cl 65 (Tryz.call15 _ _) (beatL_any (i : Int) (q 4) w_8 (by omega) (hqi 4)) ?_
   rintro e w_9 ⟨mf, mn, isb, rfl, hmf, hmn, hb⟩
   refine ⟨_, rfl, ?_⟩
   intro a H
   have HP := HP.next hb
   refine H.go HP 3 [(66, (.agg #[(ii 3), (ii 2), (ii 0), (ii mf), (ii mn), (ii 0), (ii 0), (ii 0), (ii 0), (ii 0), (ii 0), (ii 0), (ii 0), (ii 0), (ii 0), (ii 0), (ii 0), (.slice none 0 0), (ii 0), (ii 0), (ii 0), (ii 0), (ii 0), (ii 0), (ii 0), (ii 0), (ii 0), (ii 0), (ii 0), (ii 0), (.string (bstr ([])))])), (67, (.bool isb))] [] fun a H => H.al HP 16 47 [(ii 0), (ii 0), (ii 0), (ii 0), (ii 0), (ii 0), (ii 0), (ii 0), (ii 0), (ii 0), (ii 0), (ii 0), (ii 0), (ii 0), (ii 0), (ii 0), (ii 0), (.slice none 0 0), (ii 0), (ii 0), (ii 0), (ii 0), (ii 0), (ii 0), (ii 0), (ii 0), (ii 0), (ii 0), (ii 0), (ii 0), (.string (bstr ([])))] fun b_10 w_11 a H HP => H.st HP 0 b_10 0 31 47 true (.agg #[(ii 3), (ii 2), (ii 0), (ii mf), (ii mn), (ii 0), (ii 0), (ii 0), (ii 0), (ii 0), (ii 0), (ii 0), (ii 0), (ii 0), (ii 0), (ii 0), (ii 0), (.slice none 0 0), (ii 0), (ii 0), (ii 0), (ii 0), (ii 0), (ii 0), (ii 0), (ii 0), (ii 0), (ii 0), (ii 0), (ii 0), (.string (bstr ([])))]) [bx b_10 47 [(ii 3), (ii 2), (ii 0), (ii mf), (ii mn), (ii 0), (ii 0), (ii 0), (ii 0), (ii 0), (ii 0), (ii 0), (ii 0), (ii 0), (ii 0), (ii 0), (ii 0), (.slice none 0 0), (ii 0), (ii 0), (ii 0), (ii 0), (ii 0), (ii 0), (ii 0), (ii 0), (ii 0), (ii 0), (ii 0), (ii 0), (.string (bstr ([])))] true, bx b_6 55 [(ii t0), (ii x0)] true, bx bs 111 [(.slice (some ⟨cs, 0, none⟩) 1 kcs), (.slice Ss ls.length kSs), (.bool hd), (ii at_), (ii od)] true, bx cs 115 (flat chC [c] ++ rests) true, bx bt 111 [(.slice (some ⟨ct, 0, none⟩) 1 kct), (.slice St lt.length kSt), (.bool hd), (ii at_), (ii od)] true, bx ct 115 (flat chC [chT c tk] ++ restt) true] rfl fun w_12 a H HP => ?_
   refine H.ge HP [(17, (.bool isb))] [] fun a H => ?_
   refine ztn ?_
   refine w_cut (fun a wv => ∃ (hd2 : Bool), ∃ (at2 : Int), ∃ (od2 : Int), Sl 158 [(15, (ii i)), (0, (.slice XA xs.length xc)), (1, (.slice AL l.length cl)), (2, (.slice AW wh.length cw)), (7, (.bool true)), (8, (.slice LA li.length lc)), (9, (.slice AP 1 cp)), (10, (pt bs 0)), (12, (pt bt 0)), (14, (pt b_6 0))] a ∧ Hp w wv [bx b_6 55 [(ii t0), (ii x0)] true, bx bs 111 [(.slice (some ⟨cs, 0, none⟩) 1 kcs), (.slice Ss ls.length kSs), (.bool hd2), (ii at2), (ii od2)] true, bx cs 115 (flat chC [c] ++ rests) true, bx bt 111 [(.slice (some ⟨ct, 0, none⟩) 1 kct), (.slice St lt.length kSt), (.bool hd2), (ii at2), (ii od2)] true, bx ct 115 (flat chC [chT c tk] ++ restt) true] [astsK St lt, astsK Ss ls, rowF 13 plnC AP [(pl0 I0 i0)], itsK [(pl0 I0 i0), (pl1 I1 i1)], astsK LA li, laidK, rowF 5 ar5 AL l, rowF 1 i1C XA xs, rowF 1 i1C AW wh] ∧ (BeatOk hd2 at2 od2 (i : Int))) ?_ ?_
   ·
    refine zsq (zrg ?_)
    refine H.ge HP [(68, (.bool isb))] [] fun a H => ?_
    refine ztn ?_
    refine w_if H rfl (fun g68 => ?_) (fun g68 => ?_)
    ·have g68p := g68
     refine zsq (zrg ?_)
     refine H.go HP 2 [(69, (pt bs 0)), (70, (.agg #[(ii 3), (ii 2), (ii 0), (ii mf), (ii mn), (ii 0), (ii 0), (ii 0), (ii 0), (ii 0), (ii 0), (ii 0), (ii 0), (ii 0), (ii 0), (ii 0), (ii 0), (.slice none 0 0), (ii 0), (ii 0), (ii 0), (ii 0), (ii 0), (ii 0), (ii 0), (ii 0), (ii 0), (ii 0), (ii 0), (ii 0), (.string (bstr ([])))]))] [0] fun a H => ?_
     obtain ⟨hd1, at1, od1, hr1⟩ : ∃ x y z, recvP (hd, at_, od) mf mn = (x, y, z) := ⟨_, _, _, rfl⟩
     refine H.cl 71 (Tryz.call16 _ _) (receive_any bs cs 1 kcs Ss ls.length kSs hd at_ od 2 mf mn w_12 (HP.at_ 2 rfl) (by decide)) ?_
     rintro e w_13 ⟨rfl, hbx, hgr⟩
     refine ⟨_, rfl, ?_⟩
     intro a H
     have HP := (HP.changed 2 rfl [(.slice (some ⟨cs, 0, none⟩) 1 kcs), (.slice Ss ls.length kSs), (.bool hd1), (ii at1), (ii od1)] [bx b_10 47 [(ii 3), (ii 2), (ii 0), (ii mf), (ii mn), (ii 0), (ii 0), (ii 0), (ii 0), (ii 0), (ii 0), (ii 0), (ii 0), (ii 0), (ii 0), (ii 0), (ii 0), (.slice none 0 0), (ii 0), (ii 0), (ii 0), (ii 0), (ii 0), (ii 0), (ii 0), (ii 0), (ii 0), (ii 0), (ii 0), (ii 0), (.string (bstr ([])))] true, bx b_6 55 [(ii t0), (ii x0)] true, bx bs 111 [(.slice (some ⟨cs, 0, none⟩) 1 kcs), (.slice Ss ls.length kSs), (.bool hd1), (ii at1), (ii od1)] true, bx cs 115 (flat chC [c] ++ rests) true, bx bt 111 [(.slice (some ⟨ct, 0, none⟩) 1 kct), (.slice St lt.length kSt), (.bool hd), (ii at_), (ii od)] true, bx ct 115 (flat chC [chT c tk] ++ restt) true] (by kernel_rfl) hgr (by have hh := hbx; rw [hr1] at hh; exact hh))
     refine znl (ztn (zrg ?_))
     refine H.go HP 2 [(72, (pt bt 0)), (73, (.agg #[(ii 3), (ii 2), (ii 0), (ii mf), (ii mn), (ii 0), (ii 0), (ii 0), (ii 0), (ii 0), (ii 0), (ii 0), (ii 0), (ii 0), (ii 0), (ii 0), (ii 0), (.slice none 0 0), (ii 0), (ii 0), (ii 0), (ii 0), (ii 0), (ii 0), (ii 0), (ii 0), (ii 0), (ii 0), (ii 0), (ii 0), (.string (bstr ([])))]))] [0] fun a H => ?_
     refine H.cl 74 (Tryz.call16 _ _) (receive_any bt ct 1 kct St lt.length kSt hd at_ od 2 mf mn w_13 (HP.at_ 4 rfl) (by decide)) ?_
     rintro e w_14 ⟨rfl, hbx, hgr⟩
     refine ⟨_, rfl, ?_⟩
     intro a H
     have HP := (HP.changed 4 rfl [(.slice (some ⟨ct, 0, none⟩) 1 kct), (.slice St lt.length kSt), (.bool hd1), (ii at1), (ii od1)] [bx b_10 47 [(ii 3), (ii 2), (ii 0), (ii mf), (ii mn), (ii 0), (ii 0), (ii 0), (ii 0), (ii 0), (ii 0), (ii 0), (ii 0), (ii 0), (ii 0), (ii 0), (ii 0), (.slice none 0 0), (ii 0), (ii 0), (ii 0), (ii 0), (ii 0), (ii 0), (ii 0), (ii 0), (ii 0), (ii 0), (ii 0), (ii 0), (.string (bstr ([])))] true, bx b_6 55 [(ii t0), (ii x0)] true, bx bs 111 [(.slice (some ⟨cs, 0, none⟩) 1 kcs), (.slice Ss ls.length kSs), (.bool hd1), (ii at1), (ii od1)] true, bx cs 115 (flat chC [c] ++ rests) true, bx bt 111 [(.slice (some ⟨ct, 0, none⟩) 1 kct), (.slice St lt.length kSt), (.bool hd1), (ii at1), (ii od1)] true, bx ct 115 (flat chC [chT c tk] ++ restt) true] (by kernel_rfl) hgr (by have hh := hbx; rw [hr1] at hh; exact hh))
     refine znl (ztn ?_)
     exact ⟨hd1, at1, od1, H.keep (by kernel_rfl), (HP.subw [1, 2, 3, 4, 5] [bx b_6 55 [(ii t0), (ii x0)] true, bx bs 111 [(.slice (some ⟨cs, 0, none⟩) 1 kcs), (.slice Ss ls.length kSs), (.bool hd1), (ii at1), (ii od1)] true, bx cs 115 (flat chC [c] ++ rests) true, bx bt 111 [(.slice (some ⟨ct, 0, none⟩) 1 kct), (.slice St lt.length kSt), (.bool hd1), (ii at1), (ii od1)] true, bx ct 115 (flat chC [chT c tk] ++ restt) true] (by kernel_rfl) (by kernel_rfl)), (recv_ok hbo hr1 hmf (by omega))⟩
    have g68p := g68
    refine zsk (ztn ?_)
    exact ⟨hd, at_, od, H.keep (by kernel_rfl), (HP.subw [1, 2, 3, 4, 5] [bx b_6 55 [(ii t0), (ii x0)] true, bx bs 111 [(.slice (some ⟨cs, 0, none⟩) 1 kcs), (.slice Ss ls.length kSs), (.bool hd), (ii at_), (ii od)] true, bx cs 115 (flat chC [c] ++ rests) true, bx bt 111 [(.slice (some ⟨ct, 0, none⟩) 1 kct), (.slice St lt.length kSt), (.bool hd), (ii at_), (ii od)] true, bx ct 115 (flat chC [chT c tk] ++ restt) true] (by kernel_rfl) (by kernel_rfl)), hbo⟩
   
   rintro a w_15 ⟨hd2, at2, od2, H, HP, hbo2⟩
   have hbb0 := hbo2.a0; have hbb1 := hbo2.a1
   refine zsq ?_
   have HP := HP.front 0 rfl _ rfl
   refine An.start (fun v => Hp w v [bx bs 111 [(.slice (some ⟨cs, 0, none⟩) 1 kcs), (.slice Ss ls.length kSs), (.bool hd2), (ii at2), (ii od2)] true, bx cs 115 (flat chC [c] ++ rests) true, bx bt 111 [(.slice (some ⟨ct, 0, none⟩) 1 kct), (.slice St lt.length kSt), (.bool hd2), (ii at2), (ii od2)] true, bx ct 115 (flat chC [chT c tk] ++ restt) true] [astsK St lt, astsK Ss ls, rowF 13 plnC AP [(pl0 I0 i0)], itsK [(pl0 I0 i0), (pl1 I1 i1)], astsK LA li, laidK, rowF 5 ar5 AL l, rowF 1 i1C XA xs, rowF 1 i1C AW wh]) 30 30 HP wide_follows rfl fun w_16 HP => ?_
   refine An.go H (.inr ((HP.tail rfl))) 28 [0, 1] [(75, (pt b_6 0)), (76, (.slice AP 1 cp))] [] fun a H => ?_
   refine An.q H (.inr ((HP.tail rfl))) 2 77 (.pointer (some ⟨bp, op + 0 * 13, none⟩)) (fun _ => ex_indexA (b := bp) (off := op) (len := 1) (cap := cp) (e := 67) (k := 13) (ik := .i64) (i := 0) (m := 0) hApl0 (by kernel_rfl) (by kernel_rfl) rfl (by decide) (by kernel_rfl) (by kernel_rfl)) fun a H => ?_
   refine An.vw H ((HP.tail rfl)) 3 78 (.agg #[(ii 3), (ii 50), (ii 1), (ii 0), (.slice none 0 0), (ii 0), (ii 2), (ii 500), (ii 1), (.slice I0 3 i0), (.slice none 0 0), (.slice none 0 0), (.slice none 0 0)]) (fun _ hS => ex_lN [(ii 3), (ii 50), (ii 1), (ii 0), (.slice none 0 0), (ii 0), (ii 2), (ii 500), (ii 1), (.slice I0 3 i0), (.slice none 0 0), (.slice none 0 0), (.slice none 0 0)] (IsRow.cells plnC_size (hS.fact 2 rfl : IsRow 13 plnC _ AP [(pl0 I0 i0)]) hApl0 (i := 0) (x := (pl0 I0 i0)) rfl)) fun a H => ?_
   refine An.go H (.inr ((HP.tail rfl))) 22 [4, 5, 6, 7] [(79, (.slice LA li.length lc)), (80, (ii i)), (81, (.slice AL l.length cl)), (82, (ii i))] [] fun a H => ?_
   refine An.q H (.inr ((HP.tail rfl))) 8 83 (.pointer (some ⟨bL, oL + i * 5, none⟩)) (fun _ => ex_indexA (b := bL) (off := oL) (len := l.length) (cap := cl) (e := 86) (k := 5) (ik := .i64) (i := (i : Int)) (m := i) hAL (by kernel_rfl) (by kernel_rfl) rfl (by omega) (by kernel_rfl) (by kernel_rfl)) fun a H => ?_
   refine An.p H (.inr ((HP.tail rfl))) 9 84 (.pointer (some ⟨bL, oL + i * 5, none⟩)) fun a H => ?_
   refine An.vw H ((HP.tail rfl)) 10 85 (ii (q 0)) (fun _ hS => ex_l1 (IsRow.cells ar5_size (hS.fact 6 rfl : IsRow 5 ar5 _ AL l) hAL hq 0 _ rfl)) fun a H => ?_
   refine An.go H (.inr ((HP.tail rfl))) 17 [11, 12] [(86, (.slice AL l.length cl)), (87, (ii i))] [] fun a H => ?_
   refine An.q H (.inr ((HP.tail rfl))) 13 88 (.pointer (some ⟨bL, oL + i * 5, none⟩)) (fun _ => ex_indexA (b := bL) (off := oL) (len := l.length) (cap := cl) (e := 86) (k := 5) (ik := .i64) (i := (i : Int)) (m := i) hAL (by kernel_rfl) (by kernel_rfl) rfl (by omega) (by kernel_rfl) (by kernel_rfl)) fun a H => ?_
   refine An.p H (.inr ((HP.tail rfl))) 14 89 (.pointer (some ⟨bL, oL + i * 5 + 1, none⟩)) fun a H => ?_
   refine An.vw H ((HP.tail rfl)) 15 90 (ii (q 1)) (fun _ hS => ex_l1 (IsRow.cells ar5_size (hS.fact 6 rfl : IsRow 5 ar5 _ AL l) hAL hq 1 _ rfl)) fun a H => ?_
   refine An.go H (.inr ((HP.tail rfl))) 12 [16, 17] [(91, (.slice AL l.length cl)), (92, (ii i))] [] fun a H => ?_
   refine An.q H (.inr ((HP.tail rfl))) 18 93 (.pointer (some ⟨bL, oL + i * 5, none⟩)) (fun _ => ex_indexA (b := bL) (off := oL) (len := l.length) (cap := cl) (e := 86) (k := 5) (ik := .i64) (i := (i : Int)) (m := i) hAL (by kernel_rfl) (by kernel_rfl) rfl (by omega) (by kernel_rfl) (by kernel_rfl)) fun a H => ?_
   refine An.p H (.inr ((HP.tail rfl))) 19 94 (.pointer (some ⟨bL, oL + i * 5 + 2, none⟩)) fun a H => ?_
   refine An.vw H ((HP.tail rfl)) 20 95 (ii (q 2)) (fun _ hS => ex_l1 (IsRow.cells ar5_size (hS.fact 6 rfl : IsRow 5 ar5 _ AL l) hAL hq 2 _ rfl)) fun a H => ?_
   refine An.go H (.inr ((HP.tail rfl))) 7 [21, 22] [(96, (.slice AL l.length cl)), (97, (ii i))] [] fun a H => ?_
   refine An.q H (.inr ((HP.tail rfl))) 23 98 (.pointer (some ⟨bL, oL + i * 5, none⟩)) (fun _ => ex_indexA (b := bL) (off := oL) (len := l.length) (cap := cl) (e := 86) (k := 5) (ik := .i64) (i := (i : Int)) (m := i) hAL (by kernel_rfl) (by kernel_rfl) rfl (by omega) (by kernel_rfl) (by kernel_rfl)) fun a H => ?_
   refine An.p H (.inr ((HP.tail rfl))) 24 99 (.pointer (some ⟨bL, oL + i * 5 + 3, none⟩)) fun a H => ?_
   refine An.vw H ((HP.tail rfl)) 25 100 (ii (q 3)) (fun _ hS => ex_l1 (IsRow.cells ar5_size (hS.fact 6 rfl : IsRow 5 ar5 _ AL l) hAL hq 3 _ rfl)) fun a H => ?_
   refine An.go H (.inr ((HP.tail rfl))) 3 [26] [(101, (.agg #[(ii (q 0)), (ii (q 1)), (ii (q 2)), (ii (q 3))]))] [] fun a H => ?_
   refine An.one 27 (by kernel_rfl) ?_
   refine Op.call H 102 rfl (by kernel_rfl) (Eq.trans (by kernel_rfl : _ = (callFunc 19 #[(pt b_6 0), (.agg #[(ii 3), (ii 50), (ii 1), (ii 0), (.slice none 0 0), (ii 0), (ii 2), (ii 500), (ii 1), (.slice I0 3 i0), (.slice none 0 0), (.slice none 0 0), (.slice none 0 0)]), (.slice LA li.length lc), (ii i), (.agg #[(ii (q 0)), (ii (q 1)), (ii (q 2)), (ii (q 3))])]).run Tryz.prog w_16) (Tryz.call19 _ _)) (sent0_any b_6 0 lc (pl0 I0 i0) LA li (i : Int) (q 0) (q 1) (q 2) (q 3) t0 x0 [] [] w_16 rfl (by omega) pl0_ok1.1 (hqi 0) (hqi 1) (hqi 2) (hqi 3) (by omega) (by omega) (HP.factNo 4 0 rfl rfl) (HP.ge2 5 0 rfl rfl) (HP.fact 5 rfl) (HP.fact 4 rfl) hli.max hli.pl hli.dl (HP.at_ 0 rfl)) ?_
   rintro e w_17 ⟨s1, it1, ix1, rfl, hsn1, hit1, hix1, hbx, hgr⟩
   refine ⟨_, rfl, ?_⟩
   intro a H
   have HP := (HP.changed 0 rfl [(ii it1), (ii ix1)] [bx b_6 55 [(ii it1), (ii ix1)] true, bx bs 111 [(.slice (some ⟨cs, 0, none⟩) 1 kcs), (.slice Ss ls.length kSs), (.bool hd2), (ii at2), (ii od2)] true, bx cs 115 (flat chC [c] ++ rests) true, bx bt 111 [(.slice (some ⟨ct, 0, none⟩) 1 kct), (.slice St lt.length kSt), (.bool hd2), (ii at2), (ii od2)] true, bx ct 115 (flat chC [chT c tk] ++ restt) true] (by kernel_rfl) hgr hbx)
   refine ⟨.inr ((HP.tail rfl)), ?_⟩
   refine An.one 28 (by kernel_rfl) ?_
   refine Op.alloc H HP 103 (fun b => (.slice (some ⟨b, 0, none⟩) 1 1)) 9 [(.string (bstr s1))] rfl (by kernel_rfl) (fun w => by kernel_rfl) fun b_18 w_19 a H HP => ?_
   refine ⟨.inr (((HP.tail rfl).tail rfl)), ?_⟩
   refine An.go H (.inr (((HP.tail rfl).tail rfl))) 0 [29] [(18, (.slice (some ⟨b_18, 0, none⟩) 1 1))] [] fun a H => ?_
   refine An.done (by kernel_rfl) ?_
   have hsl := hsn1.1; have h120 : ([120] : List UInt8).length = 1 := rfl
   refine ztn (zsq (zrg ?_))
   refine H.ge HP [(19, (.slice (some ⟨b_18, 0, none⟩) 1 1))] [] fun a H => ?_
   refine ztn (zsq (zrg ?_))
   refine H.ge HP [(20, (.slice (some ⟨b_18, 0, none⟩) 1 1))] [] fun a H => ?_
   refine ztn (zsq (zsq (zrg ?_)))
   refine H.ge HP [(109, (.bool (decide ((i : Int) < (wh.length : Int)))))] [] fun a H => ?_
   refine ztn ?_
   refine w_if H rfl (fun g109 => ?_) (fun g109 => ?_)
   ·have g109p := of_decide_eq_true g109
    refine zsq (zrg ?_)
    refine H.go HP 2 [(110, (.slice AW wh.length cw)), (111, (ii i))] [] fun a H => ?_
    obtain ⟨bW, oW, wx, hAW, _, _, hwx, hwm, _⟩ := IsRow.get i1C_size (HP.fact 8 rfl) (i := i) (by omega)
    have hwxi := hwi wx hwm
    refine H.u 112 (.pointer (some ⟨bW, oW + i * 1, none⟩)) (ex_indexA (b := bW) (off := oW) (len := wh.length) (cap := cw) (e := 3) (k := 1) (ik := .i64) (i := (i : Int)) (m := i) hAW (by kernel_rfl) (by kernel_rfl) rfl (by omega) (by kernel_rfl) (by kernel_rfl)) fun a H => H.u 113 (ii wx) (ex_l1 (IsRow.cells i1C_size (HP.fact 8 rfl : IsRow 1 i1C _ AW wh) hAW hwx 0 _ rfl)) fun a H => ?_
    refine H.cl 114 (Tryz.call18 _ _) (pick_any wx 6 w_19 hwxi (by omega)) ?_
    rintro e w_20 ⟨rfl, hw⟩
    refine ⟨_, rfl, ?_⟩
    intro a H
    have HP := hw ▸ HP
    refine znl (ztn (zbk (zsq (zrg ?_))))
    refine H.ge HP [(115, (.bool ((pickI wx 6) == 0)))] [] fun a H => ?_
    refine ztn ?_
    refine w_if H rfl (fun g115 => ?_) (fun g115 => ?_)
    ·have g115p := eq_of_beq g115
     refine zrg ?_
     refine H.ge HP [(19, (.slice none 0 0))] [] fun a H => ?_
     refine zibn (ztn (zsq (zrg ?_)))
     refine H.go HP 4 [(129, (pt bs 0)), (130, (ii i)), (131, (.slice (some ⟨b_18, 0, none⟩) 1 1)), (132, (.slice (some ⟨b_18, 0, none⟩) 1 1))] [] fun a H => ?_
     refine H.cl 133 (Tryz.call20 _ _) (chooseL1 bs cs kcs kSs Ss h1s hd2 at2 od2 (i : Int) rests c hc (some ⟨b_18, 0, none⟩) (some ⟨b_18, 0, none⟩) 1 1 [s1] [s1] w_20 (rows_ok hsn1.ok) (rows_ok hsn1.ok) (by omega) (by omega) (HP.ne 2 3 rfl rfl (by decide)) (HP.factNo 1 3 rfl rfl) (HP.ge2 5 3 rfl rfl) (rowFp_ne (HP.ne 0 3 rfl rfl (by decide))) (rowFp_ne (HP.ne 0 3 rfl rfl (by decide))) (HP.fact 5 rfl) (HP.fact 1 rfl) (HP.at_ 2 rfl) (HP.at_ 3 rfl) (str1 (HP.at_ 0 rfl)) (str1 (HP.at_ 0 rfl))) ?_
     rintro e w_21 ⟨A1, k1, u1, g1, tk1, B1, d1, rfl, hch1, hal1, hrw1, hnw1, hbx, hgr⟩
     refine ⟨_, rfl, ?_⟩
     intro a H
     have HP := (HP.changedRow 3 rfl (flat chC [chN c u1 g1 tk1] ++ rests) [bx b_18 9 [(.string (bstr s1))] true, bx b_6 55 [(ii it1), (ii ix1)] true, bx bs 111 [(.slice (some ⟨cs, 0, none⟩) 1 kcs), (.slice Ss ls.length kSs), (.bool hd2), (ii at2), (ii od2)] true, bx cs 115 (flat chC [chN c u1 g1 tk1] ++ rests) true, bx bt 111 [(.slice (some ⟨ct, 0, none⟩) 1 kct), (.slice St lt.length kSt), (.bool hd2), (ii at2), (ii od2)] true, bx ct 115 (flat chC [chT c tk] ++ restt) true] (by kernel_rfl) hgr hbx hrw1 hnw1)
     obtain ⟨bu1, ou1, hAu1⟩ := row_at unC_size hrw1
     refine H.ge HP [(21, (.slice A1 1 k1))] [] fun a H => ?_
     refine ztn (zsq (zrg ?_))
     refine H.go HP 4 [(134, (pt bt 0)), (135, (ii i)), (136, (.slice none 0 0)), (137, (.slice (some ⟨b_18, 0, none⟩) 1 1))] [] fun a H => ?_
     refine H.cl 138 (Tryz.call20 _ _) (chooseL1 bt ct kct kSt St h1t hd2 at2 od2 (i : Int) restt (chT c tk) (chT_ok hc) none (some ⟨b_18, 0, none⟩) 0 1 [] [s1] w_21 rows_no (rows_ok hsn1.ok) (by omega) (by omega) (HP.ne 4 5 rfl rfl (by decide)) (HP.factNo 1 5 rfl rfl) (HP.ge2 6 5 rfl rfl) rowFp_none (rowFp_ne (HP.ne 0 5 rfl rfl (by decide))) (HP.fact 6 rfl) (HP.fact 1 rfl) (HP.at_ 4 rfl) (HP.at_ 5 rfl) (IsRow.nil _ _) (str1 (HP.at_ 0 rfl))) ?_
     rintro e w_22 ⟨A2, k2, u2, g2, tk2, B2, d2, rfl, hch2, hal2, hrw2, hnw2, hbx, hgr⟩
     refine ⟨_, rfl, ?_⟩
     intro a H
     have HP := (HP.changedRow 5 rfl (flat chC [chN (chT c tk) u2 g2 tk2] ++ restt) [bx b_18 9 [(.string (bstr s1))] true, bx b_6 55 [(ii it1), (ii ix1)] true, bx bs 111 [(.slice (some ⟨cs, 0, none⟩) 1 kcs), (.slice Ss ls.length kSs), (.bool hd2), (ii at2), (ii od2)] true, bx cs 115 (flat chC [chN c u1 g1 tk1] ++ rests) true, bx bt 111 [(.slice (some ⟨ct, 0, none⟩) 1 kct), (.slice St lt.length kSt), (.bool hd2), (ii at2), (ii od2)] true, bx ct 115 (flat chC [chN (chT c tk) u2 g2 tk2] ++ restt) true] (by kernel_rfl) hgr hbx hrw2 hnw2)
     obtain ⟨bu2, ou2, hAu2⟩ := row_at unC_size hrw2
     obtain ⟨e1, e2⟩ := seam hch1 hch2 (.inr (unpack_mod (.inl rfl))) (.inl rfl) (.inr rfl)
     subst e1 e2
     refine H.ge HP [(22, (.slice A2 1 k2))] [] fun a H => ?_
     refine ztn (zsq ?_)
     refine An.start (fun v => Hp w v [bx b_18 9 [(.string (bstr s1))] true, bx b_6 55 [(ii it1), (ii ix1)] true, bx bs 111 [(.slice (some ⟨cs, 0, none⟩) 1 kcs), (.slice Ss ls.length kSs), (.bool hd2), (ii at2), (ii od2)] true, bx cs 115 (flat chC [chN c u1 g1 tk1] ++ rests) true, bx bt 111 [(.slice (some ⟨ct, 0, none⟩) 1 kct), (.slice St lt.length kSt), (.bool hd2), (ii at2), (ii od2)] true, bx ct 115 (flat chC [chN (chT c tk) u1 g1 tk2] ++ restt) true] [rowF 13 unC A2 [uv u1 B2 d2], rowF 13 unC A1 [uv u1 B1 d1], astsK St lt, astsK Ss ls, rowF 13 plnC AP [(pl0 I0 i0)], itsK [(pl0 I0 i0), (pl1 I1 i1)], astsK LA li, laidK, rowF 5 ar5 AL l, rowF 1 i1C XA xs, rowF 1 i1C AW wh]) 18 18 HP wide_follows rfl fun w_23 HP => ?_
     refine An.go H (.inr (HP)) 8 [0, 1, 2, 3, 4, 5, 6, 7, 8, 9] [(147, (.bool false)), (148, (.slice A1 1 k1))] [] fun a H => ?_
     refine An.q H (.inr (HP)) 10 149 (.pointer (some ⟨bu1, ou1 + 0 * 13, none⟩)) (fun _ => ex_indexA (b := bu1) (off := ou1) (len := 1) (cap := k1) (e := 76) (k := 13) (ik := .i64) (i := 0) (m := 0) hAu1 (by kernel_rfl) (by kernel_rfl) rfl (by decide) (by kernel_rfl) (by kernel_rfl)) fun a H => ?_
     refine An.vw H (HP) 11 150 (.agg #[(ii u1.channel), (ii u1.frame), (ii u1.version), (ii u1.item), (ii u1.index), (.bool u1.key), (.string (bstr u1.data)), (ii u1.regions), (ii u1.gain), (.string (bstr u1.caption)), (ii u1.os), (ii u1.of), (.slice B1 0 d1)]) (fun _ hS => ex_lN [(ii u1.channel), (ii u1.frame), (ii u1.version), (ii u1.item), (ii u1.index), (.bool u1.key), (.string (bstr u1.data)), (ii u1.regions), (ii u1.gain), (.string (bstr u1.caption)), (ii u1.os), (ii u1.of), (.slice B1 0 d1)] (IsRow.cells unC_size (hS.fact 1 rfl : IsRow 13 unC _ A1 [uv u1 B1 d1]) hAu1 (i := 0) (x := uv u1 B1 d1) rfl)) fun a H => ?_
     refine An.go H (.inr (HP)) 5 [12] [(151, (.slice A2 1 k2))] [] fun a H => ?_
     refine An.q H (.inr (HP)) 13 152 (.pointer (some ⟨bu2, ou2 + 0 * 13, none⟩)) (fun _ => ex_indexA (b := bu2) (off := ou2) (len := 1) (cap := k2) (e := 76) (k := 13) (ik := .i64) (i := 0) (m := 0) hAu2 (by kernel_rfl) (by kernel_rfl) rfl (by decide) (by kernel_rfl) (by kernel_rfl)) fun a H => ?_
     refine An.vw H (HP) 14 153 (.agg #[(ii u1.channel), (ii u1.frame), (ii u1.version), (ii u1.item), (ii u1.index), (.bool u1.key), (.string (bstr u1.data)), (ii u1.regions), (ii u1.gain), (.string (bstr u1.caption)), (ii u1.os), (ii u1.of), (.slice B2 0 d2)]) (fun _ hS => ex_lN [(ii u1.channel), (ii u1.frame), (ii u1.version), (ii u1.item), (ii u1.index), (.bool u1.key), (.string (bstr u1.data)), (ii u1.regions), (ii u1.gain), (.string (bstr u1.caption)), (ii u1.os), (ii u1.of), (.slice B2 0 d2)] (IsRow.cells unC_size (hS.fact 0 rfl : IsRow 13 unC _ A2 [uv u1 B2 d2]) hAu2 (i := 0) (x := uv u1 B2 d2) rfl)) fun a H => ?_
     refine An.one 15 (by kernel_rfl) ?_
     refine Op.call H 154 rfl (by kernel_rfl) (Eq.trans (by kernel_rfl : _ = (callFunc 24 #[(.agg #[(ii u1.channel), (ii u1.frame), (ii u1.version), (ii u1.item), (ii u1.index), (.bool u1.key), (.string (bstr u1.data)), (ii u1.regions), (ii u1.gain), (.string (bstr u1.caption)), (ii u1.os), (ii u1.of), (.slice B1 0 d1)]), (.agg #[(ii u1.channel), (ii u1.frame), (ii u1.version), (ii u1.item), (ii u1.index), (.bool u1.key), (.string (bstr u1.data)), (ii u1.regions), (ii u1.gain), (.string (bstr u1.caption)), (ii u1.os), (ii u1.of), (.slice B2 0 d2)])]).run Tryz.prog w_23) (Tryz.call24 _ _)) ((by have hh := rusame_any (uv u1 B1 d1) (uv u1 B2 d2) w_23 (alts_uv _ _ _) (alts_uv _ _ _) (Nat.zero_le _); rw [show sameU (uv u1 B1 d1) (uv u1 B2 d2) = true from (same_bare _ _).2 rfl] at hh; exact hh)) ?_
     rintro e w_24 ⟨rfl, hb⟩
     refine ⟨_, rfl, ?_⟩
     intro a H
     have HP := HP.next hb
     refine ⟨.inr (HP), ?_⟩
     refine An.go H (.inr (HP)) 0 [16, 17] [(156, (.bool false))] [] fun a H => ?_
     refine An.done (by kernel_rfl) ?_
     refine ztn ?_
     refine w_iff H rfl ?_
     refine zsk (zibn (ztn (zrg ?_)))
     refine H.go HP 1 [(56, (ii i))] [] fun a H => H.wi 57 ((i : Int) + 1) fun a H => ?_
     refine H.ge HP [(15, (ii ((i : Int) + 1)))] [] fun a H => ?_
     refine ztn ?_
     have H := H.as 15 (ii ((i + 1 : Nat) : Int)) rfl rfl
     refine ⟨_, ?_, i + 1, hd2, at2, od2, (chN c u1 g1 tk1), it1, ix1, tk2, rfl, H.keep (by kernel_rfl), (HP.subw [1, 2, 3, 4, 5] [bx b_6 55 [(ii it1), (ii ix1)] true, bx bs 111 [(.slice (some ⟨cs, 0, none⟩) 1 kcs), (.slice Ss ls.length kSs), (.bool hd2), (ii at2), (ii od2)] true, bx cs 115 (flat chC [chN c u1 g1 tk1] ++ rests) true, bx bt 111 [(.slice (some ⟨ct, 0, none⟩) 1 kct), (.slice St lt.length kSt), (.bool hd2), (ii at2), (ii od2)] true, bx ct 115 (flat chC [chN (chT c tk) u1 g1 tk2] ++ restt) true] (by kernel_rfl) (by kernel_rfl)).untop.untop, (by omega), (by omega), (beat_more hbo2), (hch1.ok hc), (by omega)⟩
     omega
    have g115p := ne_of_beq_false g115
    refine zsq (zrg ?_)
    refine H.ge HP [(117, (.bool ((pickI wx 6) == 1)))] [] fun a H => ?_
    refine ztn ?_
    refine w_if H rfl (fun g117 => ?_) (fun g117 => ?_)
    ·have g117p := eq_of_beq g117
     refine zrg ?_
     refine H.ge HP [(20, (.slice none 0 0))] [] fun a H => ?_
     refine zibn (ztn (zsq (zrg ?_)))
     refine H.go HP 4 [(129, (pt bs 0)), (130, (ii i)), (131, (.slice (some ⟨b_18, 0, none⟩) 1 1)), (132, (.slice (some ⟨b_18, 0, none⟩) 1 1))] [] fun a H => ?_
     refine H.cl 133 (Tryz.call20 _ _) (chooseL1 bs cs kcs kSs Ss h1s hd2 at2 od2 (i : Int) rests c hc (some ⟨b_18, 0, none⟩) (some ⟨b_18, 0, none⟩) 1 1 [s1] [s1] w_20 (rows_ok hsn1.ok) (rows_ok hsn1.ok) (by omega) (by omega) (HP.ne 2 3 rfl rfl (by decide)) (HP.factNo 1 3 rfl rfl) (HP.ge2 5 3 rfl rfl) (rowFp_ne (HP.ne 0 3 rfl rfl (by decide))) (rowFp_ne (HP.ne 0 3 rfl rfl (by decide))) (HP.fact 5 rfl) (HP.fact 1 rfl) (HP.at_ 2 rfl) (HP.at_ 3 rfl) (str1 (HP.at_ 0 rfl)) (str1 (HP.at_ 0 rfl))) ?_
     rintro e w_25 ⟨A3, k3, u3, g3, tk3, B3, d3, rfl, hch3, hal3, hrw3, hnw3, hbx, hgr⟩
     refine ⟨_, rfl, ?_⟩
     intro a H
     have HP := (HP.changedRow 3 rfl (flat chC [chN c u3 g3 tk3] ++ rests) [bx b_18 9 [(.string (bstr s1))] true, bx b_6 55 [(ii it1), (ii ix1)] true, bx bs 111 [(.slice (some ⟨cs, 0, none⟩) 1 kcs), (.slice Ss ls.length kSs), (.bool hd2), (ii at2), (ii od2)] true, bx cs 115 (flat chC [chN c u3 g3 tk3] ++ rests) true, bx bt 111 [(.slice (some ⟨ct, 0, none⟩) 1 kct), (.slice St lt.length kSt), (.bool hd2), (ii at2), (ii od2)] true, bx ct 115 (flat chC [chT c tk] ++ restt) true] (by kernel_rfl) hgr hbx hrw3 hnw3)
     obtain ⟨bu3, ou3, hAu3⟩ := row_at unC_size hrw3
     refine H.ge HP [(21, (.slice A3 1 k3))] [] fun a H => ?_
     refine ztn (zsq (zrg ?_))
     refine H.go HP 4 [(134, (pt bt 0)), (135, (ii i)), (136, (.slice (some ⟨b_18, 0, none⟩) 1 1)), (137, (.slice none 0 0))] [] fun a H => ?_
     refine H.cl 138 (Tryz.call20 _ _) (chooseL1 bt ct kct kSt St h1t hd2 at2 od2 (i : Int) restt (chT c tk) (chT_ok hc) (some ⟨b_18, 0, none⟩) none 1 0 [s1] [] w_25 (rows_ok hsn1.ok) rows_no (by omega) (by omega) (HP.ne 4 5 rfl rfl (by decide)) (HP.factNo 1 5 rfl rfl) (HP.ge2 6 5 rfl rfl) (rowFp_ne (HP.ne 0 5 rfl rfl (by decide))) rowFp_none (HP.fact 6 rfl) (HP.fact 1 rfl) (HP.at_ 4 rfl) (HP.at_ 5 rfl) (str1 (HP.at_ 0 rfl)) (IsRow.nil _ _)) ?_
     rintro e w_26 ⟨A4, k4, u4, g4, tk4, B4, d4, rfl, hch4, hal4, hrw4, hnw4, hbx, hgr⟩
     refine ⟨_, rfl, ?_⟩
     intro a H
     have HP := (HP.changedRow 5 rfl (flat chC [chN (chT c tk) u4 g4 tk4] ++ restt) [bx b_18 9 [(.string (bstr s1))] true, bx b_6 55 [(ii it1), (ii ix1)] true, bx bs 111 [(.slice (some ⟨cs, 0, none⟩) 1 kcs), (.slice Ss ls.length kSs), (.bool hd2), (ii at2), (ii od2)] true, bx cs 115 (flat chC [chN c u3 g3 tk3] ++ rests) true, bx bt 111 [(.slice (some ⟨ct, 0, none⟩) 1 kct), (.slice St lt.length kSt), (.bool hd2), (ii at2), (ii od2)] true, bx ct 115 (flat chC [chN (chT c tk) u4 g4 tk4] ++ restt) true] (by kernel_rfl) hgr hbx hrw4 hnw4)
     obtain ⟨bu4, ou4, hAu4⟩ := row_at unC_size hrw4
     obtain ⟨e1, e2⟩ := seam hch3 hch4 (.inl rfl) (.inr (unpack_mod (.inl rfl))) (.inl rfl)
     subst e1 e2
     refine H.ge HP [(22, (.slice A4 1 k4))] [] fun a H => ?_
     refine ztn (zsq ?_)
     refine An.start (fun v => Hp w v [bx b_18 9 [(.string (bstr s1))] true, bx b_6 55 [(ii it1), (ii ix1)] true, bx bs 111 [(.slice (some ⟨cs, 0, none⟩) 1 kcs), (.slice Ss ls.length kSs), (.bool hd2), (ii at2), (ii od2)] true, bx cs 115 (flat chC [chN c u3 g3 tk3] ++ rests) true, bx bt 111 [(.slice (some ⟨ct, 0, none⟩) 1 kct), (.slice St lt.length kSt), (.bool hd2), (ii at2), (ii od2)] true, bx ct 115 (flat chC [chN (chT c tk) u3 g3 tk4] ++ restt) true] [rowF 13 unC A4 [uv u3 B4 d4], rowF 13 unC A3 [uv u3 B3 d3], astsK St lt, astsK Ss ls, rowF 13 plnC AP [(pl0 I0 i0)], itsK [(pl0 I0 i0), (pl1 I1 i1)], astsK LA li, laidK, rowF 5 ar5 AL l, rowF 1 i1C XA xs, rowF 1 i1C AW wh]) 18 18 HP wide_follows rfl fun w_27 HP => ?_
     refine An.go H (.inr (HP)) 8 [0, 1, 2, 3, 4, 5, 6, 7, 8, 9] [(147, (.bool false)), (148, (.slice A3 1 k3))] [] fun a H => ?_
     refine An.q H (.inr (HP)) 10 149 (.pointer (some ⟨bu3, ou3 + 0 * 13, none⟩)) (fun _ => ex_indexA (b := bu3) (off := ou3) (len := 1) (cap := k3) (e := 76) (k := 13) (ik := .i64) (i := 0) (m := 0) hAu3 (by kernel_rfl) (by kernel_rfl) rfl (by decide) (by kernel_rfl) (by kernel_rfl)) fun a H => ?_
     refine An.vw H (HP) 11 150 (.agg #[(ii u3.channel), (ii u3.frame), (ii u3.version), (ii u3.item), (ii u3.index), (.bool u3.key), (.string (bstr u3.data)), (ii u3.regions), (ii u3.gain), (.string (bstr u3.caption)), (ii u3.os), (ii u3.of), (.slice B3 0 d3)]) (fun _ hS => ex_lN [(ii u3.channel), (ii u3.frame), (ii u3.version), (ii u3.item), (ii u3.index), (.bool u3.key), (.string (bstr u3.data)), (ii u3.regions), (ii u3.gain), (.string (bstr u3.caption)), (ii u3.os), (ii u3.of), (.slice B3 0 d3)] (IsRow.cells unC_size (hS.fact 1 rfl : IsRow 13 unC _ A3 [uv u3 B3 d3]) hAu3 (i := 0) (x := uv u3 B3 d3) rfl)) fun a H => ?_
     refine An.go H (.inr (HP)) 5 [12] [(151, (.slice A4 1 k4))] [] fun a H => ?_
     refine An.q H (.inr (HP)) 13 152 (.pointer (some ⟨bu4, ou4 + 0 * 13, none⟩)) (fun _ => ex_indexA (b := bu4) (off := ou4) (len := 1) (cap := k4) (e := 76) (k := 13) (ik := .i64) (i := 0) (m := 0) hAu4 (by kernel_rfl) (by kernel_rfl) rfl (by decide) (by kernel_rfl) (by kernel_rfl)) fun a H => ?_
     refine An.vw H (HP) 14 153 (.agg #[(ii u3.channel), (ii u3.frame), (ii u3.version), (ii u3.item), (ii u3.index), (.bool u3.key), (.string (bstr u3.data)), (ii u3.regions), (ii u3.gain), (.string (bstr u3.caption)), (ii u3.os), (ii u3.of), (.slice B4 0 d4)]) (fun _ hS => ex_lN [(ii u3.channel), (ii u3.frame), (ii u3.version), (ii u3.item), (ii u3.index), (.bool u3.key), (.string (bstr u3.data)), (ii u3.regions), (ii u3.gain), (.string (bstr u3.caption)), (ii u3.os), (ii u3.of), (.slice B4 0 d4)] (IsRow.cells unC_size (hS.fact 0 rfl : IsRow 13 unC _ A4 [uv u3 B4 d4]) hAu4 (i := 0) (x := uv u3 B4 d4) rfl)) fun a H => ?_
     refine An.one 15 (by kernel_rfl) ?_
     refine Op.call H 154 rfl (by kernel_rfl) (Eq.trans (by kernel_rfl : _ = (callFunc 24 #[(.agg #[(ii u3.channel), (ii u3.frame), (ii u3.version), (ii u3.item), (ii u3.index), (.bool u3.key), (.string (bstr u3.data)), (ii u3.regions), (ii u3.gain), (.string (bstr u3.caption)), (ii u3.os), (ii u3.of), (.slice B3 0 d3)]), (.agg #[(ii u3.channel), (ii u3.frame), (ii u3.version), (ii u3.item), (ii u3.index), (.bool u3.key), (.string (bstr u3.data)), (ii u3.regions), (ii u3.gain), (.string (bstr u3.caption)), (ii u3.os), (ii u3.of), (.slice B4 0 d4)])]).run Tryz.prog w_27) (Tryz.call24 _ _)) ((by have hh := rusame_any (uv u3 B3 d3) (uv u3 B4 d4) w_27 (alts_uv _ _ _) (alts_uv _ _ _) (Nat.zero_le _); rw [show sameU (uv u3 B3 d3) (uv u3 B4 d4) = true from (same_bare _ _).2 rfl] at hh; exact hh)) ?_
     rintro e w_28 ⟨rfl, hb⟩
     refine ⟨_, rfl, ?_⟩
     intro a H
     have HP := HP.next hb
     refine ⟨.inr (HP), ?_⟩
     refine An.go H (.inr (HP)) 0 [16, 17] [(156, (.bool false))] [] fun a H => ?_
     refine An.done (by kernel_rfl) ?_
     refine ztn ?_
     refine w_iff H rfl ?_
     refine zsk (zibn (ztn (zrg ?_)))
     refine H.go HP 1 [(56, (ii i))] [] fun a H => H.wi 57 ((i : Int) + 1) fun a H => ?_
     refine H.ge HP [(15, (ii ((i : Int) + 1)))] [] fun a H => ?_
     refine ztn ?_
     have H := H.as 15 (ii ((i + 1 : Nat) : Int)) rfl rfl
     refine ⟨_, ?_, i + 1, hd2, at2, od2, (chN c u3 g3 tk3), it1, ix1, tk4, rfl, H.keep (by kernel_rfl), (HP.subw [1, 2, 3, 4, 5] [bx b_6 55 [(ii it1), (ii ix1)] true, bx bs 111 [(.slice (some ⟨cs, 0, none⟩) 1 kcs), (.slice Ss ls.length kSs), (.bool hd2), (ii at2), (ii od2)] true, bx cs 115 (flat chC [chN c u3 g3 tk3] ++ rests) true, bx bt 111 [(.slice (some ⟨ct, 0, none⟩) 1 kct), (.slice St lt.length kSt), (.bool hd2), (ii at2), (ii od2)] true, bx ct 115 (flat chC [chN (chT c tk) u3 g3 tk4] ++ restt) true] (by kernel_rfl) (by kernel_rfl)).untop.untop, (by omega), (by omega), (beat_more hbo2), (hch3.ok hc), (by omega)⟩
     omega
    have g117p := ne_of_beq_false g117
    refine zsq (zrg ?_)
    refine H.ge HP [(119, (.bool ((pickI wx 6) == 2)))] [] fun a H => ?_
    refine ztn ?_
    refine w_if H rfl (fun g119 => ?_) (fun g119 => ?_)
    ·have g119p := eq_of_beq g119
     refine zrg ?_
     refine H.go HP 1 [(121, (.slice (some ⟨b_18, 0, none⟩) 1 1))] [] fun a H => H.u 122 (pt b_18 0) (ex_index (b := b_18) (off := 0) (len := 1) (cap := 1) (e := 9) (k := 1) (ik := .i64) (i := 0) (m := 0) (by kernel_rfl) (by kernel_rfl) rfl (by decide) (by kernel_rfl) (by kernel_rfl)) fun a H => H.go HP 1 [(123, (.string (bstr s1)))] [0] fun a H => H.u 124 (.string (bstr (([120]) ++ s1))) (ex_sadd (by kernel_rfl) (by kernel_rfl) (by omega)) fun a H => H.alloc HP 125 (fun b => (.slice (some ⟨b, 0, none⟩) 1 1)) 9 [(.string (bstr (([120]) ++ s1)))] (by kernel_rfl) (fun w => by kernel_rfl) fun b_29 w_30 a H HP => ?_
     refine H.ge HP [(19, (.slice (some ⟨b_29, 0, none⟩) 1 1))] [] fun a H => ?_
     refine zibn (ztn (zsq (zrg ?_)))
     refine H.go HP 4 [(129, (pt bs 0)), (130, (ii i)), (131, (.slice (some ⟨b_18, 0, none⟩) 1 1)), (132, (.slice (some ⟨b_18, 0, none⟩) 1 1))] [] fun a H => ?_
     refine H.cl 133 (Tryz.call20 _ _) (chooseL1 bs cs kcs kSs Ss h1s hd2 at2 od2 (i : Int) rests c hc (some ⟨b_18, 0, none⟩) (some ⟨b_18, 0, none⟩) 1 1 [s1] [s1] w_30 (rows_ok hsn1.ok) (rows_ok hsn1.ok) (by omega) (by omega) (HP.ne 3 4 rfl rfl (by decide)) (HP.factNo 1 4 rfl rfl) (HP.ge2 5 4 rfl rfl) (rowFp_ne (HP.ne 1 4 rfl rfl (by decide))) (rowFp_ne (HP.ne 1 4 rfl rfl (by decide))) (HP.fact 5 rfl) (HP.fact 1 rfl) (HP.at_ 3 rfl) (HP.at_ 4 rfl) (str1 (HP.at_ 1 rfl)) (str1 (HP.at_ 1 rfl))) ?_
     rintro e w_31 ⟨A5, k5, u5, g5, tk5, B5, d5, rfl, hch5, hal5, hrw5, hnw5, hbx, hgr⟩
     refine ⟨_, rfl, ?_⟩
     intro a H
     have HP := (HP.changedRow 4 rfl (flat chC [chN c u5 g5 tk5] ++ rests) [bx b_29 9 [(.string (bstr (([120]) ++ s1)))] true, bx b_18 9 [(.string (bstr s1))] true, bx b_6 55 [(ii it1), (ii ix1)] true, bx bs 111 [(.slice (some ⟨cs, 0, none⟩) 1 kcs), (.slice Ss ls.length kSs), (.bool hd2), (ii at2), (ii od2)] true, bx cs 115 (flat chC [chN c u5 g5 tk5] ++ rests) true, bx bt 111 [(.slice (some ⟨ct, 0, none⟩) 1 kct), (.slice St lt.length kSt), (.bool hd2), (ii at2), (ii od2)] true, bx ct 115 (flat chC [chT c tk] ++ restt) true] (by kernel_rfl) hgr hbx hrw5 hnw5)
     obtain ⟨bu5, ou5, hAu5⟩ := row_at unC_size hrw5
     refine H.ge HP [(21, (.slice A5 1 k5))] [] fun a H => ?_
     refine ztn (zsq (zrg ?_))
     refine H.go HP 4 [(134, (pt bt 0)), (135, (ii i)), (136, (.slice (some ⟨b_29, 0, none⟩) 1 1)), (137, (.slice (some ⟨b_18, 0, none⟩) 1 1))] [] fun a H => ?_
     refine H.cl 138 (Tryz.call20 _ _) (chooseL1 bt ct kct kSt St h1t hd2 at2 od2 (i : Int) restt (chT c tk) (chT_ok hc) (some ⟨b_29, 0, none⟩) (some ⟨b_18, 0, none⟩) 1 1 [([120]) ++ s1] [s1] w_31 (rows_ok hsn1.okx) (rows_ok hsn1.ok) (by omega) (by omega) (HP.ne 5 6 rfl rfl (by decide)) (HP.factNo 1 6 rfl rfl) (HP.ge2 6 6 rfl rfl) (rowFp_ne (HP.ne 0 6 rfl rfl (by decide))) (rowFp_ne (HP.ne 1 6 rfl rfl (by decide))) (HP.fact 6 rfl) (HP.fact 1 rfl) (HP.at_ 5 rfl) (HP.at_ 6 rfl) (str1 (HP.at_ 0 rfl)) (str1 (HP.at_ 1 rfl))) ?_
     rintro e w_32 ⟨A6, k6, u6, g6, tk6, B6, d6, rfl, hch6, hal6, hrw6, hnw6, hbx, hgr⟩
     refine ⟨_, rfl, ?_⟩
     intro a H
     have HP := (HP.changedRow 6 rfl (flat chC [chN (chT c tk) u6 g6 tk6] ++ restt) [bx b_29 9 [(.string (bstr (([120]) ++ s1)))] true, bx b_18 9 [(.string (bstr s1))] true, bx b_6 55 [(ii it1), (ii ix1)] true, bx bs 111 [(.slice (some ⟨cs, 0, none⟩) 1 kcs), (.slice Ss ls.length kSs), (.bool hd2), (ii at2), (ii od2)] true, bx cs 115 (flat chC [chN c u5 g5 tk5] ++ rests) true, bx bt 111 [(.slice (some ⟨ct, 0, none⟩) 1 kct), (.slice St lt.length kSt), (.bool hd2), (ii at2), (ii od2)] true, bx ct 115 (flat chC [chN (chT c tk) u6 g6 tk6] ++ restt) true] (by kernel_rfl) hgr hbx hrw6 hnw6)
     obtain ⟨bu6, ou6, hAu6⟩ := row_at unC_size hrw6
     obtain ⟨e1, e2⟩ := seam hch5 hch6 (.inr unpack_x) (.inl rfl) (.inr rfl)
     subst e1 e2
     refine H.ge HP [(22, (.slice A6 1 k6))] [] fun a H => ?_
     refine ztn (zsq ?_)
     refine An.start (fun v => Hp w v [bx b_29 9 [(.string (bstr (([120]) ++ s1)))] true, bx b_18 9 [(.string (bstr s1))] true, bx b_6 55 [(ii it1), (ii ix1)] true, bx bs 111 [(.slice (some ⟨cs, 0, none⟩) 1 kcs), (.slice Ss ls.length kSs), (.bool hd2), (ii at2), (ii od2)] true, bx cs 115 (flat chC [chN c u5 g5 tk5] ++ rests) true, bx bt 111 [(.slice (some ⟨ct, 0, none⟩) 1 kct), (.slice St lt.length kSt), (.bool hd2), (ii at2), (ii od2)] true, bx ct 115 (flat chC [chN (chT c tk) u5 g5 tk6] ++ restt) true] [rowF 13 unC A6 [uv u5 B6 d6], rowF 13 unC A5 [uv u5 B5 d5], astsK St lt, astsK Ss ls, rowF 13 plnC AP [(pl0 I0 i0)], itsK [(pl0 I0 i0), (pl1 I1 i1)], astsK LA li, laidK, rowF 5 ar5 AL l, rowF 1 i1C XA xs, rowF 1 i1C AW wh]) 18 18 HP wide_follows rfl fun w_33 HP => ?_
     refine An.go H (.inr (HP)) 8 [0, 1, 2, 3, 4, 5, 6, 7, 8, 9] [(147, (.bool false)), (148, (.slice A5 1 k5))] [] fun a H => ?_
     refine An.q H (.inr (HP)) 10 149 (.pointer (some ⟨bu5, ou5 + 0 * 13, none⟩)) (fun _ => ex_indexA (b := bu5) (off := ou5) (len := 1) (cap := k5) (e := 76) (k := 13) (ik := .i64) (i := 0) (m := 0) hAu5 (by kernel_rfl) (by kernel_rfl) rfl (by decide) (by kernel_rfl) (by kernel_rfl)) fun a H => ?_
     refine An.vw H (HP) 11 150 (.agg #[(ii u5.channel), (ii u5.frame), (ii u5.version), (ii u5.item), (ii u5.index), (.bool u5.key), (.string (bstr u5.data)), (ii u5.regions), (ii u5.gain), (.string (bstr u5.caption)), (ii u5.os), (ii u5.of), (.slice B5 0 d5)]) (fun _ hS => ex_lN [(ii u5.channel), (ii u5.frame), (ii u5.version), (ii u5.item), (ii u5.index), (.bool u5.key), (.string (bstr u5.data)), (ii u5.regions), (ii u5.gain), (.string (bstr u5.caption)), (ii u5.os), (ii u5.of), (.slice B5 0 d5)] (IsRow.cells unC_size (hS.fact 1 rfl : IsRow 13 unC _ A5 [uv u5 B5 d5]) hAu5 (i := 0) (x := uv u5 B5 d5) rfl)) fun a H => ?_
     refine An.go H (.inr (HP)) 5 [12] [(151, (.slice A6 1 k6))] [] fun a H => ?_
     refine An.q H (.inr (HP)) 13 152 (.pointer (some ⟨bu6, ou6 + 0 * 13, none⟩)) (fun _ => ex_indexA (b := bu6) (off := ou6) (len := 1) (cap := k6) (e := 76) (k := 13) (ik := .i64) (i := 0) (m := 0) hAu6 (by kernel_rfl) (by kernel_rfl) rfl (by decide) (by kernel_rfl) (by kernel_rfl)) fun a H => ?_
     refine An.vw H (HP) 14 153 (.agg #[(ii u5.channel), (ii u5.frame), (ii u5.version), (ii u5.item), (ii u5.index), (.bool u5.key), (.string (bstr u5.data)), (ii u5.regions), (ii u5.gain), (.string (bstr u5.caption)), (ii u5.os), (ii u5.of), (.slice B6 0 d6)]) (fun _ hS => ex_lN [(ii u5.channel), (ii u5.frame), (ii u5.version), (ii u5.item), (ii u5.index), (.bool u5.key), (.string (bstr u5.data)), (ii u5.regions), (ii u5.gain), (.string (bstr u5.caption)), (ii u5.os), (ii u5.of), (.slice B6 0 d6)] (IsRow.cells unC_size (hS.fact 0 rfl : IsRow 13 unC _ A6 [uv u5 B6 d6]) hAu6 (i := 0) (x := uv u5 B6 d6) rfl)) fun a H => ?_
     refine An.one 15 (by kernel_rfl) ?_
     refine Op.call H 154 rfl (by kernel_rfl) (Eq.trans (by kernel_rfl : _ = (callFunc 24 #[(.agg #[(ii u5.channel), (ii u5.frame), (ii u5.version), (ii u5.item), (ii u5.index), (.bool u5.key), (.string (bstr u5.data)), (ii u5.regions), (ii u5.gain), (.string (bstr u5.caption)), (ii u5.os), (ii u5.of), (.slice B5 0 d5)]), (.agg #[(ii u5.channel), (ii u5.frame), (ii u5.version), (ii u5.item), (ii u5.index), (.bool u5.key), (.string (bstr u5.data)), (ii u5.regions), (ii u5.gain), (.string (bstr u5.caption)), (ii u5.os), (ii u5.of), (.slice B6 0 d6)])]).run Tryz.prog w_33) (Tryz.call24 _ _)) ((by have hh := rusame_any (uv u5 B5 d5) (uv u5 B6 d6) w_33 (alts_uv _ _ _) (alts_uv _ _ _) (Nat.zero_le _); rw [show sameU (uv u5 B5 d5) (uv u5 B6 d6) = true from (same_bare _ _).2 rfl] at hh; exact hh)) ?_
     rintro e w_34 ⟨rfl, hb⟩
     refine ⟨_, rfl, ?_⟩
     intro a H
     have HP := HP.next hb
     refine ⟨.inr (HP), ?_⟩
     refine An.go H (.inr (HP)) 0 [16, 17] [(156, (.bool false))] [] fun a H => ?_
     refine An.done (by kernel_rfl) ?_
     refine ztn ?_
     refine w_iff H rfl ?_
     refine zsk (zibn (ztn (zrg ?_)))
     refine H.go HP 1 [(56, (ii i))] [] fun a H => H.wi 57 ((i : Int) + 1) fun a H => ?_
     refine H.ge HP [(15, (ii ((i : Int) + 1)))] [] fun a H => ?_
     refine ztn ?_
     have H := H.as 15 (ii ((i + 1 : Nat) : Int)) rfl rfl
     refine ⟨_, ?_, i + 1, hd2, at2, od2, (chN c u5 g5 tk5), it1, ix1, tk6, rfl, H.keep (by kernel_rfl), (HP.subw [2, 3, 4, 5, 6] [bx b_6 55 [(ii it1), (ii ix1)] true, bx bs 111 [(.slice (some ⟨cs, 0, none⟩) 1 kcs), (.slice Ss ls.length kSs), (.bool hd2), (ii at2), (ii od2)] true, bx cs 115 (flat chC [chN c u5 g5 tk5] ++ rests) true, bx bt 111 [(.slice (some ⟨ct, 0, none⟩) 1 kct), (.slice St lt.length kSt), (.bool hd2), (ii at2), (ii od2)] true, bx ct 115 (flat chC [chN (chT c tk) u5 g5 tk6] ++ restt) true] (by kernel_rfl) (by kernel_rfl)).untop.untop, (by omega), (by omega), (beat_more hbo2), (hch5.ok hc), (by omega)⟩
     omega
    have g119p := ne_of_beq_false g119
    refine zsq (zrg ?_)
    refine H.ge HP [(126, (.bool ((pickI wx 6) == 3)))] [] fun a H => ?_
    refine ztn ?_
    refine w_if H rfl (fun g126 => ?_) (fun g126 => ?_)
    ·have g126p := eq_of_beq g126
     refine zrg ?_
     refine H.alloc HP 128 (fun b => (.slice (some ⟨b, 0, none⟩) 1 1)) 9 [(.string (bstr ([])))] (by kernel_rfl) (fun w => by kernel_rfl) fun b_35 w_36 a H HP => ?_
     refine H.ge HP [(20, (.slice (some ⟨b_35, 0, none⟩) 1 1))] [] fun a H => ?_
     refine zibn (ztn (zsq (zrg ?_)))
     refine H.go HP 4 [(129, (pt bs 0)), (130, (ii i)), (131, (.slice (some ⟨b_18, 0, none⟩) 1 1)), (132, (.slice (some ⟨b_18, 0, none⟩) 1 1))] [] fun a H => ?_
     refine H.cl 133 (Tryz.call20 _ _) (chooseL1 bs cs kcs kSs Ss h1s hd2 at2 od2 (i : Int) rests c hc (some ⟨b_18, 0, none⟩) (some ⟨b_18, 0, none⟩) 1 1 [s1] [s1] w_36 (rows_ok hsn1.ok) (rows_ok hsn1.ok) (by omega) (by omega) (HP.ne 3 4 rfl rfl (by decide)) (HP.factNo 1 4 rfl rfl) (HP.ge2 5 4 rfl rfl) (rowFp_ne (HP.ne 1 4 rfl rfl (by decide))) (rowFp_ne (HP.ne 1 4 rfl rfl (by decide))) (HP.fact 5 rfl) (HP.fact 1 rfl) (HP.at_ 3 rfl) (HP.at_ 4 rfl) (str1 (HP.at_ 1 rfl)) (str1 (HP.at_ 1 rfl))) ?_
     rintro e w_37 ⟨A7, k7, u7, g7, tk7, B7, d7, rfl, hch7, hal7, hrw7, hnw7, hbx, hgr⟩
     refine ⟨_, rfl, ?_⟩
     intro a H
     have HP := (HP.changedRow 4 rfl (flat chC [chN c u7 g7 tk7] ++ rests) [bx b_35 9 [(.string (bstr ([])))] true, bx b_18 9 [(.string (bstr s1))] true, bx b_6 55 [(ii it1), (ii ix1)] true, bx bs 111 [(.slice (some ⟨cs, 0, none⟩) 1 kcs), (.slice Ss ls.length kSs), (.bool hd2), (ii at2), (ii od2)] true, bx cs 115 (flat chC [chN c u7 g7 tk7] ++ rests) true, bx bt 111 [(.slice (some ⟨ct, 0, none⟩) 1 kct), (.slice St lt.length kSt), (.bool hd2), (ii at2), (ii od2)] true, bx ct 115 (flat chC [chT c tk] ++ restt) true] (by kernel_rfl) hgr hbx hrw7 hnw7)
     obtain ⟨bu7, ou7, hAu7⟩ := row_at unC_size hrw7
     refine H.ge HP [(21, (.slice A7 1 k7))] [] fun a H => ?_
     refine ztn (zsq (zrg ?_))
     refine H.go HP 4 [(134, (pt bt 0)), (135, (ii i)), (136, (.slice (some ⟨b_18, 0, none⟩) 1 1)), (137, (.slice (some ⟨b_35, 0, none⟩) 1 1))] [] fun a H => ?_
     refine H.cl 138 (Tryz.call20 _ _) (chooseL1 bt ct kct kSt St h1t hd2 at2 od2 (i : Int) restt (chT c tk) (chT_ok hc) (some ⟨b_18, 0, none⟩) (some ⟨b_35, 0, none⟩) 1 1 [s1] [[]] w_37 (rows_ok hsn1.ok) (rows_ok (strOk_nil _)) (by omega) (by omega) (HP.ne 5 6 rfl rfl (by decide)) (HP.factNo 1 6 rfl rfl) (HP.ge2 6 6 rfl rfl) (rowFp_ne (HP.ne 1 6 rfl rfl (by decide))) (rowFp_ne (HP.ne 0 6 rfl rfl (by decide))) (HP.fact 6 rfl) (HP.fact 1 rfl) (HP.at_ 5 rfl) (HP.at_ 6 rfl) (str1 (HP.at_ 1 rfl)) (str1 (HP.at_ 0 rfl))) ?_
     rintro e w_38 ⟨A8, k8, u8, g8, tk8, B8, d8, rfl, hch8, hal8, hrw8, hnw8, hbx, hgr⟩
     refine ⟨_, rfl, ?_⟩
     intro a H
     have HP := (HP.changedRow 6 rfl (flat chC [chN (chT c tk) u8 g8 tk8] ++ restt) [bx b_35 9 [(.string (bstr ([])))] true, bx b_18 9 [(.string (bstr s1))] true, bx b_6 55 [(ii it1), (ii ix1)] true, bx bs 111 [(.slice (some ⟨cs, 0, none⟩) 1 kcs), (.slice Ss ls.length kSs), (.bool hd2), (ii at2), (ii od2)] true, bx cs 115 (flat chC [chN c u7 g7 tk7] ++ rests) true, bx bt 111 [(.slice (some ⟨ct, 0, none⟩) 1 kct), (.slice St lt.length kSt), (.bool hd2), (ii at2), (ii od2)] true, bx ct 115 (flat chC [chN (chT c tk) u8 g8 tk8] ++ restt) true] (by kernel_rfl) hgr hbx hrw8 hnw8)
     obtain ⟨bu8, ou8, hAu8⟩ := row_at unC_size hrw8
     obtain ⟨e1, e2⟩ := seam hch7 hch8 (.inl rfl) (.inr (unpack_mod (.inl rfl))) (.inl rfl)
     subst e1 e2
     refine H.ge HP [(22, (.slice A8 1 k8))] [] fun a H => ?_
     refine ztn (zsq ?_)
     refine An.start (fun v => Hp w v [bx b_35 9 [(.string (bstr ([])))] true, bx b_18 9 [(.string (bstr s1))] true, bx b_6 55 [(ii it1), (ii ix1)] true, bx bs 111 [(.slice (some ⟨cs, 0, none⟩) 1 kcs), (.slice Ss ls.length kSs), (.bool hd2), (ii at2), (ii od2)] true, bx cs 115 (flat chC [chN c u7 g7 tk7] ++ rests) true, bx bt 111 [(.slice (some ⟨ct, 0, none⟩) 1 kct), (.slice St lt.length kSt), (.bool hd2), (ii at2), (ii od2)] true, bx ct 115 (flat chC [chN (chT c tk) u7 g7 tk8] ++ restt) true] [rowF 13 unC A8 [uv u7 B8 d8], rowF 13 unC A7 [uv u7 B7 d7], astsK St lt, astsK Ss ls, rowF 13 plnC AP [(pl0 I0 i0)], itsK [(pl0 I0 i0), (pl1 I1 i1)], astsK LA li, laidK, rowF 5 ar5 AL l, rowF 1 i1C XA xs, rowF 1 i1C AW wh]) 18 18 HP wide_follows rfl fun w_39 HP => ?_
     refine An.go H (.inr (HP)) 8 [0, 1, 2, 3, 4, 5, 6, 7, 8, 9] [(147, (.bool false)), (148, (.slice A7 1 k7))] [] fun a H => ?_
     refine An.q H (.inr (HP)) 10 149 (.pointer (some ⟨bu7, ou7 + 0 * 13, none⟩)) (fun _ => ex_indexA (b := bu7) (off := ou7) (len := 1) (cap := k7) (e := 76) (k := 13) (ik := .i64) (i := 0) (m := 0) hAu7 (by kernel_rfl) (by kernel_rfl) rfl (by decide) (by kernel_rfl) (by kernel_rfl)) fun a H => ?_
     refine An.vw H (HP) 11 150 (.agg #[(ii u7.channel), (ii u7.frame), (ii u7.version), (ii u7.item), (ii u7.index), (.bool u7.key), (.string (bstr u7.data)), (ii u7.regions), (ii u7.gain), (.string (bstr u7.caption)), (ii u7.os), (ii u7.of), (.slice B7 0 d7)]) (fun _ hS => ex_lN [(ii u7.channel), (ii u7.frame), (ii u7.version), (ii u7.item), (ii u7.index), (.bool u7.key), (.string (bstr u7.data)), (ii u7.regions), (ii u7.gain), (.string (bstr u7.caption)), (ii u7.os), (ii u7.of), (.slice B7 0 d7)] (IsRow.cells unC_size (hS.fact 1 rfl : IsRow 13 unC _ A7 [uv u7 B7 d7]) hAu7 (i := 0) (x := uv u7 B7 d7) rfl)) fun a H => ?_
     refine An.go H (.inr (HP)) 5 [12] [(151, (.slice A8 1 k8))] [] fun a H => ?_
     refine An.q H (.inr (HP)) 13 152 (.pointer (some ⟨bu8, ou8 + 0 * 13, none⟩)) (fun _ => ex_indexA (b := bu8) (off := ou8) (len := 1) (cap := k8) (e := 76) (k := 13) (ik := .i64) (i := 0) (m := 0) hAu8 (by kernel_rfl) (by kernel_rfl) rfl (by decide) (by kernel_rfl) (by kernel_rfl)) fun a H => ?_
     refine An.vw H (HP) 14 153 (.agg #[(ii u7.channel), (ii u7.frame), (ii u7.version), (ii u7.item), (ii u7.index), (.bool u7.key), (.string (bstr u7.data)), (ii u7.regions), (ii u7.gain), (.string (bstr u7.caption)), (ii u7.os), (ii u7.of), (.slice B8 0 d8)]) (fun _ hS => ex_lN [(ii u7.channel), (ii u7.frame), (ii u7.version), (ii u7.item), (ii u7.index), (.bool u7.key), (.string (bstr u7.data)), (ii u7.regions), (ii u7.gain), (.string (bstr u7.caption)), (ii u7.os), (ii u7.of), (.slice B8 0 d8)] (IsRow.cells unC_size (hS.fact 0 rfl : IsRow 13 unC _ A8 [uv u7 B8 d8]) hAu8 (i := 0) (x := uv u7 B8 d8) rfl)) fun a H => ?_
     refine An.one 15 (by kernel_rfl) ?_
     refine Op.call H 154 rfl (by kernel_rfl) (Eq.trans (by kernel_rfl : _ = (callFunc 24 #[(.agg #[(ii u7.channel), (ii u7.frame), (ii u7.version), (ii u7.item), (ii u7.index), (.bool u7.key), (.string (bstr u7.data)), (ii u7.regions), (ii u7.gain), (.string (bstr u7.caption)), (ii u7.os), (ii u7.of), (.slice B7 0 d7)]), (.agg #[(ii u7.channel), (ii u7.frame), (ii u7.version), (ii u7.item), (ii u7.index), (.bool u7.key), (.string (bstr u7.data)), (ii u7.regions), (ii u7.gain), (.string (bstr u7.caption)), (ii u7.os), (ii u7.of), (.slice B8 0 d8)])]).run Tryz.prog w_39) (Tryz.call24 _ _)) ((by have hh := rusame_any (uv u7 B7 d7) (uv u7 B8 d8) w_39 (alts_uv _ _ _) (alts_uv _ _ _) (Nat.zero_le _); rw [show sameU (uv u7 B7 d7) (uv u7 B8 d8) = true from (same_bare _ _).2 rfl] at hh; exact hh)) ?_
     rintro e w_40 ⟨rfl, hb⟩
     refine ⟨_, rfl, ?_⟩
     intro a H
     have HP := HP.next hb
     refine ⟨.inr (HP), ?_⟩
     refine An.go H (.inr (HP)) 0 [16, 17] [(156, (.bool false))] [] fun a H => ?_
     refine An.done (by kernel_rfl) ?_
     refine ztn ?_
     refine w_iff H rfl ?_
     refine zsk (zibn (ztn (zrg ?_)))
     refine H.go HP 1 [(56, (ii i))] [] fun a H => H.wi 57 ((i : Int) + 1) fun a H => ?_
     refine H.ge HP [(15, (ii ((i : Int) + 1)))] [] fun a H => ?_
     refine ztn ?_
     have H := H.as 15 (ii ((i + 1 : Nat) : Int)) rfl rfl
     refine ⟨_, ?_, i + 1, hd2, at2, od2, (chN c u7 g7 tk7), it1, ix1, tk8, rfl, H.keep (by kernel_rfl), (HP.subw [2, 3, 4, 5, 6] [bx b_6 55 [(ii it1), (ii ix1)] true, bx bs 111 [(.slice (some ⟨cs, 0, none⟩) 1 kcs), (.slice Ss ls.length kSs), (.bool hd2), (ii at2), (ii od2)] true, bx cs 115 (flat chC [chN c u7 g7 tk7] ++ rests) true, bx bt 111 [(.slice (some ⟨ct, 0, none⟩) 1 kct), (.slice St lt.length kSt), (.bool hd2), (ii at2), (ii od2)] true, bx ct 115 (flat chC [chN (chT c tk) u7 g7 tk8] ++ restt) true] (by kernel_rfl) (by kernel_rfl)).untop.untop, (by omega), (by omega), (beat_more hbo2), (hch7.ok hc), (by omega)⟩
     omega
    have g126p := ne_of_beq_false g126
    refine zsk (zibn (ztn (zsq (zrg ?_))))
    refine H.go HP 4 [(129, (pt bs 0)), (130, (ii i)), (131, (.slice (some ⟨b_18, 0, none⟩) 1 1)), (132, (.slice (some ⟨b_18, 0, none⟩) 1 1))] [] fun a H => ?_
    refine H.cl 133 (Tryz.call20 _ _) (chooseL1 bs cs kcs kSs Ss h1s hd2 at2 od2 (i : Int) rests c hc (some ⟨b_18, 0, none⟩) (some ⟨b_18, 0, none⟩) 1 1 [s1] [s1] w_20 (rows_ok hsn1.ok) (rows_ok hsn1.ok) (by omega) (by omega) (HP.ne 2 3 rfl rfl (by decide)) (HP.factNo 1 3 rfl rfl) (HP.ge2 5 3 rfl rfl) (rowFp_ne (HP.ne 0 3 rfl rfl (by decide))) (rowFp_ne (HP.ne 0 3 rfl rfl (by decide))) (HP.fact 5 rfl) (HP.fact 1 rfl) (HP.at_ 2 rfl) (HP.at_ 3 rfl) (str1 (HP.at_ 0 rfl)) (str1 (HP.at_ 0 rfl))) ?_
    rintro e w_41 ⟨A9, k9, u9, g9, tk9, B9, d9, rfl, hch9, hal9, hrw9, hnw9, hbx, hgr⟩
    refine ⟨_, rfl, ?_⟩
    intro a H
    have HP := (HP.changedRow 3 rfl (flat chC [chN c u9 g9 tk9] ++ rests) [bx b_18 9 [(.string (bstr s1))] true, bx b_6 55 [(ii it1), (ii ix1)] true, bx bs 111 [(.slice (some ⟨cs, 0, none⟩) 1 kcs), (.slice Ss ls.length kSs), (.bool hd2), (ii at2), (ii od2)] true, bx cs 115 (flat chC [chN c u9 g9 tk9] ++ rests) true, bx bt 111 [(.slice (some ⟨ct, 0, none⟩) 1 kct), (.slice St lt.length kSt), (.bool hd2), (ii at2), (ii od2)] true, bx ct 115 (flat chC [chT c tk] ++ restt) true] (by kernel_rfl) hgr hbx hrw9 hnw9)
    obtain ⟨bu9, ou9, hAu9⟩ := row_at unC_size hrw9
    refine H.ge HP [(21, (.slice A9 1 k9))] [] fun a H => ?_
    refine ztn (zsq (zrg ?_))
    refine H.go HP 4 [(134, (pt bt 0)), (135, (ii i)), (136, (.slice (some ⟨b_18, 0, none⟩) 1 1)), (137, (.slice (some ⟨b_18, 0, none⟩) 1 1))] [] fun a H => ?_
    refine H.cl 138 (Tryz.call20 _ _) (chooseL1 bt ct kct kSt St h1t hd2 at2 od2 (i : Int) restt (chT c tk) (chT_ok hc) (some ⟨b_18, 0, none⟩) (some ⟨b_18, 0, none⟩) 1 1 [s1] [s1] w_41 (rows_ok hsn1.ok) (rows_ok hsn1.ok) (by omega) (by omega) (HP.ne 4 5 rfl rfl (by decide)) (HP.factNo 1 5 rfl rfl) (HP.ge2 6 5 rfl rfl) (rowFp_ne (HP.ne 0 5 rfl rfl (by decide))) (rowFp_ne (HP.ne 0 5 rfl rfl (by decide))) (HP.fact 6 rfl) (HP.fact 1 rfl) (HP.at_ 4 rfl) (HP.at_ 5 rfl) (str1 (HP.at_ 0 rfl)) (str1 (HP.at_ 0 rfl))) ?_
    rintro e w_42 ⟨A10, k10, u10, g10, tk10, B10, d10, rfl, hch10, hal10, hrw10, hnw10, hbx, hgr⟩
    refine ⟨_, rfl, ?_⟩
    intro a H
    have HP := (HP.changedRow 5 rfl (flat chC [chN (chT c tk) u10 g10 tk10] ++ restt) [bx b_18 9 [(.string (bstr s1))] true, bx b_6 55 [(ii it1), (ii ix1)] true, bx bs 111 [(.slice (some ⟨cs, 0, none⟩) 1 kcs), (.slice Ss ls.length kSs), (.bool hd2), (ii at2), (ii od2)] true, bx cs 115 (flat chC [chN c u9 g9 tk9] ++ rests) true, bx bt 111 [(.slice (some ⟨ct, 0, none⟩) 1 kct), (.slice St lt.length kSt), (.bool hd2), (ii at2), (ii od2)] true, bx ct 115 (flat chC [chN (chT c tk) u10 g10 tk10] ++ restt) true] (by kernel_rfl) hgr hbx hrw10 hnw10)
    obtain ⟨bu10, ou10, hAu10⟩ := row_at unC_size hrw10
    obtain ⟨e1, e2⟩ := seam hch9 hch10 (.inl rfl) (.inl rfl) (.inl rfl)
    subst e1 e2
    refine H.ge HP [(22, (.slice A10 1 k10))] [] fun a H => ?_
    refine ztn (zsq ?_)
    refine An.start (fun v => Hp w v [bx b_18 9 [(.string (bstr s1))] true, bx b_6 55 [(ii it1), (ii ix1)] true, bx bs 111 [(.slice (some ⟨cs, 0, none⟩) 1 kcs), (.slice Ss ls.length kSs), (.bool hd2), (ii at2), (ii od2)] true, bx cs 115 (flat chC [chN c u9 g9 tk9] ++ rests) true, bx bt 111 [(.slice (some ⟨ct, 0, none⟩) 1 kct), (.slice St lt.length kSt), (.bool hd2), (ii at2), (ii od2)] true, bx ct 115 (flat chC [chN (chT c tk) u9 g9 tk10] ++ restt) true] [rowF 13 unC A10 [uv u9 B10 d10], rowF 13 unC A9 [uv u9 B9 d9], astsK St lt, astsK Ss ls, rowF 13 plnC AP [(pl0 I0 i0)], itsK [(pl0 I0 i0), (pl1 I1 i1)], astsK LA li, laidK, rowF 5 ar5 AL l, rowF 1 i1C XA xs, rowF 1 i1C AW wh]) 18 18 HP wide_follows rfl fun w_43 HP => ?_
    refine An.go H (.inr (HP)) 8 [0, 1, 2, 3, 4, 5, 6, 7, 8, 9] [(147, (.bool false)), (148, (.slice A9 1 k9))] [] fun a H => ?_
    refine An.q H (.inr (HP)) 10 149 (.pointer (some ⟨bu9, ou9 + 0 * 13, none⟩)) (fun _ => ex_indexA (b := bu9) (off := ou9) (len := 1) (cap := k9) (e := 76) (k := 13) (ik := .i64) (i := 0) (m := 0) hAu9 (by kernel_rfl) (by kernel_rfl) rfl (by decide) (by kernel_rfl) (by kernel_rfl)) fun a H => ?_
    refine An.vw H (HP) 11 150 (.agg #[(ii u9.channel), (ii u9.frame), (ii u9.version), (ii u9.item), (ii u9.index), (.bool u9.key), (.string (bstr u9.data)), (ii u9.regions), (ii u9.gain), (.string (bstr u9.caption)), (ii u9.os), (ii u9.of), (.slice B9 0 d9)]) (fun _ hS => ex_lN [(ii u9.channel), (ii u9.frame), (ii u9.version), (ii u9.item), (ii u9.index), (.bool u9.key), (.string (bstr u9.data)), (ii u9.regions), (ii u9.gain), (.string (bstr u9.caption)), (ii u9.os), (ii u9.of), (.slice B9 0 d9)] (IsRow.cells unC_size (hS.fact 1 rfl : IsRow 13 unC _ A9 [uv u9 B9 d9]) hAu9 (i := 0) (x := uv u9 B9 d9) rfl)) fun a H => ?_
    refine An.go H (.inr (HP)) 5 [12] [(151, (.slice A10 1 k10))] [] fun a H => ?_
    refine An.q H (.inr (HP)) 13 152 (.pointer (some ⟨bu10, ou10 + 0 * 13, none⟩)) (fun _ => ex_indexA (b := bu10) (off := ou10) (len := 1) (cap := k10) (e := 76) (k := 13) (ik := .i64) (i := 0) (m := 0) hAu10 (by kernel_rfl) (by kernel_rfl) rfl (by decide) (by kernel_rfl) (by kernel_rfl)) fun a H => ?_
    refine An.vw H (HP) 14 153 (.agg #[(ii u9.channel), (ii u9.frame), (ii u9.version), (ii u9.item), (ii u9.index), (.bool u9.key), (.string (bstr u9.data)), (ii u9.regions), (ii u9.gain), (.string (bstr u9.caption)), (ii u9.os), (ii u9.of), (.slice B10 0 d10)]) (fun _ hS => ex_lN [(ii u9.channel), (ii u9.frame), (ii u9.version), (ii u9.item), (ii u9.index), (.bool u9.key), (.string (bstr u9.data)), (ii u9.regions), (ii u9.gain), (.string (bstr u9.caption)), (ii u9.os), (ii u9.of), (.slice B10 0 d10)] (IsRow.cells unC_size (hS.fact 0 rfl : IsRow 13 unC _ A10 [uv u9 B10 d10]) hAu10 (i := 0) (x := uv u9 B10 d10) rfl)) fun a H => ?_
    refine An.one 15 (by kernel_rfl) ?_
    refine Op.call H 154 rfl (by kernel_rfl) (Eq.trans (by kernel_rfl : _ = (callFunc 24 #[(.agg #[(ii u9.channel), (ii u9.frame), (ii u9.version), (ii u9.item), (ii u9.index), (.bool u9.key), (.string (bstr u9.data)), (ii u9.regions), (ii u9.gain), (.string (bstr u9.caption)), (ii u9.os), (ii u9.of), (.slice B9 0 d9)]), (.agg #[(ii u9.channel), (ii u9.frame), (ii u9.version), (ii u9.item), (ii u9.index), (.bool u9.key), (.string (bstr u9.data)), (ii u9.regions), (ii u9.gain), (.string (bstr u9.caption)), (ii u9.os), (ii u9.of), (.slice B10 0 d10)])]).run Tryz.prog w_43) (Tryz.call24 _ _)) ((by have hh := rusame_any (uv u9 B9 d9) (uv u9 B10 d10) w_43 (alts_uv _ _ _) (alts_uv _ _ _) (Nat.zero_le _); rw [show sameU (uv u9 B9 d9) (uv u9 B10 d10) = true from (same_bare _ _).2 rfl] at hh; exact hh)) ?_
    rintro e w_44 ⟨rfl, hb⟩
    refine ⟨_, rfl, ?_⟩
    intro a H
    have HP := HP.next hb
    refine ⟨.inr (HP), ?_⟩
    refine An.go H (.inr (HP)) 0 [16, 17] [(156, (.bool false))] [] fun a H => ?_
    refine An.done (by kernel_rfl) ?_
    refine ztn ?_
    refine w_iff H rfl ?_
    refine zsk (zibn (ztn (zrg ?_)))
    refine H.go HP 1 [(56, (ii i))] [] fun a H => H.wi 57 ((i : Int) + 1) fun a H => ?_
    refine H.ge HP [(15, (ii ((i : Int) + 1)))] [] fun a H => ?_
    refine ztn ?_
    have H := H.as 15 (ii ((i + 1 : Nat) : Int)) rfl rfl
    refine ⟨_, ?_, i + 1, hd2, at2, od2, (chN c u9 g9 tk9), it1, ix1, tk10, rfl, H.keep (by kernel_rfl), (HP.subw [1, 2, 3, 4, 5] [bx b_6 55 [(ii it1), (ii ix1)] true, bx bs 111 [(.slice (some ⟨cs, 0, none⟩) 1 kcs), (.slice Ss ls.length kSs), (.bool hd2), (ii at2), (ii od2)] true, bx cs 115 (flat chC [chN c u9 g9 tk9] ++ rests) true, bx bt 111 [(.slice (some ⟨ct, 0, none⟩) 1 kct), (.slice St lt.length kSt), (.bool hd2), (ii at2), (ii od2)] true, bx ct 115 (flat chC [chN (chT c tk) u9 g9 tk10] ++ restt) true] (by kernel_rfl) (by kernel_rfl)).untop.untop, (by omega), (by omega), (beat_more hbo2), (hch9.ok hc), (by omega)⟩
    omega
   have g109p := of_decide_eq_false g109
   refine zsk (ztn (zsq (zrg ?_)))
   refine H.go HP 4 [(129, (pt bs 0)), (130, (ii i)), (131, (.slice (some ⟨b_18, 0, none⟩) 1 1)), (132, (.slice (some ⟨b_18, 0, none⟩) 1 1))] [] fun a H => ?_
   refine H.cl 133 (Tryz.call20 _ _) (chooseL1 bs cs kcs kSs Ss h1s hd2 at2 od2 (i : Int) rests c hc (some ⟨b_18, 0, none⟩) (some ⟨b_18, 0, none⟩) 1 1 [s1] [s1] w_19 (rows_ok hsn1.ok) (rows_ok hsn1.ok) (by omega) (by omega) (HP.ne 2 3 rfl rfl (by decide)) (HP.factNo 1 3 rfl rfl) (HP.ge2 5 3 rfl rfl) (rowFp_ne (HP.ne 0 3 rfl rfl (by decide))) (rowFp_ne (HP.ne 0 3 rfl rfl (by decide))) (HP.fact 5 rfl) (HP.fact 1 rfl) (HP.at_ 2 rfl) (HP.at_ 3 rfl) (str1 (HP.at_ 0 rfl)) (str1 (HP.at_ 0 rfl))) ?_
   rintro e w_45 ⟨A11, k11, u11, g11, tk11, B11, d11, rfl, hch11, hal11, hrw11, hnw11, hbx, hgr⟩
   refine ⟨_, rfl, ?_⟩
   intro a H
   have HP := (HP.changedRow 3 rfl (flat chC [chN c u11 g11 tk11] ++ rests) [bx b_18 9 [(.string (bstr s1))] true, bx b_6 55 [(ii it1), (ii ix1)] true, bx bs 111 [(.slice (some ⟨cs, 0, none⟩) 1 kcs), (.slice Ss ls.length kSs), (.bool hd2), (ii at2), (ii od2)] true, bx cs 115 (flat chC [chN c u11 g11 tk11] ++ rests) true, bx bt 111 [(.slice (some ⟨ct, 0, none⟩) 1 kct), (.slice St lt.length kSt), (.bool hd2), (ii at2), (ii od2)] true, bx ct 115 (flat chC [chT c tk] ++ restt) true] (by kernel_rfl) hgr hbx hrw11 hnw11)
   obtain ⟨bu11, ou11, hAu11⟩ := row_at unC_size hrw11
   refine H.ge HP [(21, (.slice A11 1 k11))] [] fun a H => ?_
   refine ztn (zsq (zrg ?_))
   refine H.go HP 4 [(134, (pt bt 0)), (135, (ii i)), (136, (.slice (some ⟨b_18, 0, none⟩) 1 1)), (137, (.slice (some ⟨b_18, 0, none⟩) 1 1))] [] fun a H => ?_
   refine H.cl 138 (Tryz.call20 _ _) (chooseL1 bt ct kct kSt St h1t hd2 at2 od2 (i : Int) restt (chT c tk) (chT_ok hc) (some ⟨b_18, 0, none⟩) (some ⟨b_18, 0, none⟩) 1 1 [s1] [s1] w_45 (rows_ok hsn1.ok) (rows_ok hsn1.ok) (by omega) (by omega) (HP.ne 4 5 rfl rfl (by decide)) (HP.factNo 1 5 rfl rfl) (HP.ge2 6 5 rfl rfl) (rowFp_ne (HP.ne 0 5 rfl rfl (by decide))) (rowFp_ne (HP.ne 0 5 rfl rfl (by decide))) (HP.fact 6 rfl) (HP.fact 1 rfl) (HP.at_ 4 rfl) (HP.at_ 5 rfl) (str1 (HP.at_ 0 rfl)) (str1 (HP.at_ 0 rfl))) ?_
   rintro e w_46 ⟨A12, k12, u12, g12, tk12, B12, d12, rfl, hch12, hal12, hrw12, hnw12, hbx, hgr⟩
   refine ⟨_, rfl, ?_⟩
   intro a H
   have HP := (HP.changedRow 5 rfl (flat chC [chN (chT c tk) u12 g12 tk12] ++ restt) [bx b_18 9 [(.string (bstr s1))] true, bx b_6 55 [(ii it1), (ii ix1)] true, bx bs 111 [(.slice (some ⟨cs, 0, none⟩) 1 kcs), (.slice Ss ls.length kSs), (.bool hd2), (ii at2), (ii od2)] true, bx cs 115 (flat chC [chN c u11 g11 tk11] ++ rests) true, bx bt 111 [(.slice (some ⟨ct, 0, none⟩) 1 kct), (.slice St lt.length kSt), (.bool hd2), (ii at2), (ii od2)] true, bx ct 115 (flat chC [chN (chT c tk) u12 g12 tk12] ++ restt) true] (by kernel_rfl) hgr hbx hrw12 hnw12)
   obtain ⟨bu12, ou12, hAu12⟩ := row_at unC_size hrw12
   obtain ⟨e1, e2⟩ := seam hch11 hch12 (.inl rfl) (.inl rfl) (.inl rfl)
   subst e1 e2
   refine H.ge HP [(22, (.slice A12 1 k12))] [] fun a H => ?_
   refine ztn (zsq ?_)
   refine An.start (fun v => Hp w v [bx b_18 9 [(.string (bstr s1))] true, bx b_6 55 [(ii it1), (ii ix1)] true, bx bs 111 [(.slice (some ⟨cs, 0, none⟩) 1 kcs), (.slice Ss ls.length kSs), (.bool hd2), (ii at2), (ii od2)] true, bx cs 115 (flat chC [chN c u11 g11 tk11] ++ rests) true, bx bt 111 [(.slice (some ⟨ct, 0, none⟩) 1 kct), (.slice St lt.length kSt), (.bool hd2), (ii at2), (ii od2)] true, bx ct 115 (flat chC [chN (chT c tk) u11 g11 tk12] ++ restt) true] [rowF 13 unC A12 [uv u11 B12 d12], rowF 13 unC A11 [uv u11 B11 d11], astsK St lt, astsK Ss ls, rowF 13 plnC AP [(pl0 I0 i0)], itsK [(pl0 I0 i0), (pl1 I1 i1)], astsK LA li, laidK, rowF 5 ar5 AL l, rowF 1 i1C XA xs, rowF 1 i1C AW wh]) 18 18 HP wide_follows rfl fun w_47 HP => ?_
   refine An.go H (.inr (HP)) 8 [0, 1, 2, 3, 4, 5, 6, 7, 8, 9] [(147, (.bool false)), (148, (.slice A11 1 k11))] [] fun a H => ?_
   refine An.q H (.inr (HP)) 10 149 (.pointer (some ⟨bu11, ou11 + 0 * 13, none⟩)) (fun _ => ex_indexA (b := bu11) (off := ou11) (len := 1) (cap := k11) (e := 76) (k := 13) (ik := .i64) (i := 0) (m := 0) hAu11 (by kernel_rfl) (by kernel_rfl) rfl (by decide) (by kernel_rfl) (by kernel_rfl)) fun a H => ?_
   refine An.vw H (HP) 11 150 (.agg #[(ii u11.channel), (ii u11.frame), (ii u11.version), (ii u11.item), (ii u11.index), (.bool u11.key), (.string (bstr u11.data)), (ii u11.regions), (ii u11.gain), (.string (bstr u11.caption)), (ii u11.os), (ii u11.of), (.slice B11 0 d11)]) (fun _ hS => ex_lN [(ii u11.channel), (ii u11.frame), (ii u11.version), (ii u11.item), (ii u11.index), (.bool u11.key), (.string (bstr u11.data)), (ii u11.regions), (ii u11.gain), (.string (bstr u11.caption)), (ii u11.os), (ii u11.of), (.slice B11 0 d11)] (IsRow.cells unC_size (hS.fact 1 rfl : IsRow 13 unC _ A11 [uv u11 B11 d11]) hAu11 (i := 0) (x := uv u11 B11 d11) rfl)) fun a H => ?_
   refine An.go H (.inr (HP)) 5 [12] [(151, (.slice A12 1 k12))] [] fun a H => ?_
   refine An.q H (.inr (HP)) 13 152 (.pointer (some ⟨bu12, ou12 + 0 * 13, none⟩)) (fun _ => ex_indexA (b := bu12) (off := ou12) (len := 1) (cap := k12) (e := 76) (k := 13) (ik := .i64) (i := 0) (m := 0) hAu12 (by kernel_rfl) (by kernel_rfl) rfl (by decide) (by kernel_rfl) (by kernel_rfl)) fun a H => ?_
   refine An.vw H (HP) 14 153 (.agg #[(ii u11.channel), (ii u11.frame), (ii u11.version), (ii u11.item), (ii u11.index), (.bool u11.key), (.string (bstr u11.data)), (ii u11.regions), (ii u11.gain), (.string (bstr u11.caption)), (ii u11.os), (ii u11.of), (.slice B12 0 d12)]) (fun _ hS => ex_lN [(ii u11.channel), (ii u11.frame), (ii u11.version), (ii u11.item), (ii u11.index), (.bool u11.key), (.string (bstr u11.data)), (ii u11.regions), (ii u11.gain), (.string (bstr u11.caption)), (ii u11.os), (ii u11.of), (.slice B12 0 d12)] (IsRow.cells unC_size (hS.fact 0 rfl : IsRow 13 unC _ A12 [uv u11 B12 d12]) hAu12 (i := 0) (x := uv u11 B12 d12) rfl)) fun a H => ?_
   refine An.one 15 (by kernel_rfl) ?_
   refine Op.call H 154 rfl (by kernel_rfl) (Eq.trans (by kernel_rfl : _ = (callFunc 24 #[(.agg #[(ii u11.channel), (ii u11.frame), (ii u11.version), (ii u11.item), (ii u11.index), (.bool u11.key), (.string (bstr u11.data)), (ii u11.regions), (ii u11.gain), (.string (bstr u11.caption)), (ii u11.os), (ii u11.of), (.slice B11 0 d11)]), (.agg #[(ii u11.channel), (ii u11.frame), (ii u11.version), (ii u11.item), (ii u11.index), (.bool u11.key), (.string (bstr u11.data)), (ii u11.regions), (ii u11.gain), (.string (bstr u11.caption)), (ii u11.os), (ii u11.of), (.slice B12 0 d12)])]).run Tryz.prog w_47) (Tryz.call24 _ _)) ((by have hh := rusame_any (uv u11 B11 d11) (uv u11 B12 d12) w_47 (alts_uv _ _ _) (alts_uv _ _ _) (Nat.zero_le _); rw [show sameU (uv u11 B11 d11) (uv u11 B12 d12) = true from (same_bare _ _).2 rfl] at hh; exact hh)) ?_
   rintro e w_48 ⟨rfl, hb⟩
   refine ⟨_, rfl, ?_⟩
   intro a H
   have HP := HP.next hb
   refine ⟨.inr (HP), ?_⟩
   refine An.go H (.inr (HP)) 0 [16, 17] [(156, (.bool false))] [] fun a H => ?_
   refine An.done (by kernel_rfl) ?_
   refine ztn ?_
   refine w_iff H rfl ?_
   refine zsk (zibn (ztn (zrg ?_)))
   refine H.go HP 1 [(56, (ii i))] [] fun a H => H.wi 57 ((i : Int) + 1) fun a H => ?_
   refine H.ge HP [(15, (ii ((i : Int) + 1)))] [] fun a H => ?_
   refine ztn ?_
   have H := H.as 15 (ii ((i + 1 : Nat) : Int)) rfl rfl
   refine ⟨_, ?_, i + 1, hd2, at2, od2, (chN c u11 g11 tk11), it1, ix1, tk12, rfl, H.keep (by kernel_rfl), (HP.subw [1, 2, 3, 4, 5] [bx b_6 55 [(ii it1), (ii ix1)] true, bx bs 111 [(.slice (some ⟨cs, 0, none⟩) 1 kcs), (.slice Ss ls.length kSs), (.bool hd2), (ii at2), (ii od2)] true, bx cs 115 (flat chC [chN c u11 g11 tk11] ++ rests) true, bx bt 111 [(.slice (some ⟨ct, 0, none⟩) 1 kct), (.slice St lt.length kSt), (.bool hd2), (ii at2), (ii od2)] true, bx ct 115 (flat chC [chN (chT c tk) u11 g11 tk12] ++ restt) true] (by kernel_rfl) (by kernel_rfl)).untop.untop, (by omega), (by omega), (beat_more hbo2), (hch11.ok hc), (by omega)⟩
   omega
  have g55p := of_decide_eq_false g55
  refine wp_exit (then_exit (then_exit ?_))
  refine w_exit_here ?_
  refine ztn (zsq (zrg ?_))
  refine H.ge HP [(6, (.bool true))] [] fun a H => ?_
  refine ztn (zrt ?_)
  refine H.r1 (.bool true) Tryz.results6 ?_
  exact ⟨rfl, HP.bl⟩
 have g52p := of_decide_eq_false g52
 refine H.ge HP [(55, (.bool false))] [] fun a H => ?_
 refine ztn ?_
 refine w_iff H rfl ?_
 refine wp_exit (then_exit (then_exit ?_))
 refine w_exit_here ?_
 refine ztn (zsq (zrg ?_))
 refine H.ge HP [(6, (.bool true))] [] fun a H => ?_
 refine ztn (zrt ?_)
 refine H.r1 (.bool true) Tryz.results6 ?_
 exact ⟨rfl, HP.bl⟩
end Go.Proofs.YthpbaaadkhdifaaGreatDoor
namespace Go.Proofs.YthpbaaadkhdifaaGreatDoor.selectorSeamless
set_option maxRecDepth 100000
set_option maxHeartbeats 4000000
open Go.ChangeShapes Go.WideShapes Go.ChangeAt Go.RowKit
theorem walk (a0 : SlA Int) (a1 : SlA (Nat → Int)) (a2 : SlA Int) (w : World) (hL : Laid w) (h0 : opInts.ok w a0) (h1 : op5s.ok w a1) (h2 : opInts.ok w a2) :
    Calls Tryz.prog 6 #[(opInts.cells a0).headD undef, (op5s.cells a1).headD undef, (opInts.cells a2).headD undef] w fun e w' => e = .returned (.bool true) ∧ Below w.heap.size w w' :=
  seam_law a0.A a0.c a0.l a1.A a1.c a1.l a2.A a2.c a2.l w hL (ints_ok h0).row (ints_ok h0).all (ints_ok h0).len (ar5_ok h1).row (ar5_ok h1).all (ar5_ok h1).len (ints_ok h2).row (ints_ok h2).all
end Go.Proofs.YthpbaaadkhdifaaGreatDoor.selectorSeamless
namespace Go.Proofs.YthpbaaadkhdifaaGreatDoor.selectorSeamless
set_option maxRecDepth 100000
set_option maxHeartbeats 4000000
open Go.ChangeShapes Go.WideShapes Go.ChangeAt Go.RowKit
open Go.ChangeMaps (open_string shut_string)
set_option linter.unusedVariables false
theorem own : ownKnob Tryz.prog.godebug = none := by kernel_rfl
theorem laidOut : laidOutB Tryz.prog = true := by kernel_rfl
set_option maxRecDepth 100000 in
theorem lifted (os : Os) (started : os.Started) (H : Type) (enc : TypeId × Value → H) :
    ReturnsInHanded {} Tryz.checked os 6 .any (fun w args => (Rows.selectorSeamlessSpec.pre enc Tryz.prog Tryz.f6 [] false w args ∧ laidMetH Tryz.prog laid2 w) ∧ sizedMet enc Tryz.prog Tryz.f6 (OpenSpec.ofChange Rows.selectorSeamlessSpec) false w args) (Rows.selectorSeamlessSpec.post enc Tryz.prog Tryz.f6 false true false false) := by
  refine returnsInHanded_of_change_and (C := Tryz.checked) (X := fun w _ => laidMetH Tryz.prog laid2 w) (fun _ _ _ hh h => h.of_heap hh) own started (by kernel_rfl) Tryz.func6
    (ChangeSpec.witness_shaped (enc := enc) (C := Tryz.checked) (os := os) (X := fun w _ => laidMetH Tryz.prog laid2 w) false (World.doorLaid Tryz.prog 4000 os) #[.slice none 0 0, .slice none 0 0, .slice none 0 0] 12 rfl (World.shaped_of_RefB (by kernel_rfl) (by kernel_rfl)) (by kernel_rfl) (by kernel_rfl) (by kernel_rfl) (door_met os _)) ?_
  intro W base args ds gs before hval0 hW hcnd hsz0 hL _
  have hval : ∀ (j : Nat) t v, Tryz.f6.params[j]? = some t → args[j]? = some v → Value.okWide Tryz.prog W .any base t v := hval0
  have hW' := hW
  obtain ⟨p, q, hA0, hV, rfl, hfz, hnd⟩ := hW
  have hA : DataW.TrodAll enc Tryz.prog W 0 (fun _ => true) true Tryz.f6.params.toList args.toList ds p := hA0
  have hsz : (DataW.weightsEach Tryz.prog (Tryz.f6.params.toList ++ Rows.selectorSeamlessSpec.plain.varTypes Tryz.prog) (ds ++ gs)).all (· ≤ reachBytes) = true := hsz0
  rw [Tryz.params6] at hA hval hsz
  obtain ⟨v0, vs0, d0, ds0, p0, q0, hargs, rfl, rfl, h0, r0⟩ := trodAll_cons hA
  obtain ⟨v1, vs1, d1, ds1, p1, q1, rfl, rfl, rfl, h1, r1⟩ := trodAll_cons r0
  obtain ⟨v2, vs2, d2, ds2, p2, q2, rfl, rfl, rfl, h2, r2⟩ := trodAll_cons r1
  obtain ⟨rfl, rfl, rfl⟩ := trodAll_nil r2
  obtain rfl : args = #[v0, v1, v2] := by cases args; simp_all
  obtain ⟨rfl, rfl⟩ := trodVars_none hV
  obtain ⟨a0x, len0, cap0, rfl⟩ := okWide_slice Tryz.underlying22 (hval 0 22 v0 rfl rfl)
  have k0 := h0
  have lt0 : ∀ x ∈ p0, x.block < W.heap.size := by obtain ⟨m, hm⟩ := k0; exact DataW.trod_lt m _ _ _ hm
  obtain ⟨a0, w0, e0⟩ : ∃ a, opInts.ok W a ∧ Value.slice a0x len0 cap0 = (opInts.cells a).headD undef := by
    obtain ⟨fuel, hf⟩ := h0
    obtain ⟨a, ha, hok⟩ := opInts.opens hf (fun n hn => of_decide_eq_true (List.all_eq_true.1 hsz n (DataW.weights_mem_each (j := 0) (t := 22) (by rfl) (by rfl) n hn)))
    refine ⟨a, hok, ?_⟩
    have : [Value.slice a0x len0 cap0] = opInts.cells a := ha
    rw [← this]
    rfl
  rw [e0] at k0 hW' ⊢
  obtain ⟨a1x, len1, cap1, rfl⟩ := okWide_slice Tryz.underlying84 (hval 1 84 v1 rfl rfl)
  have k1 := h1
  have lt1 : ∀ x ∈ p1, x.block < W.heap.size := by obtain ⟨m, hm⟩ := k1; exact DataW.trod_lt m _ _ _ hm
  obtain ⟨a1, w1, e1⟩ : ∃ a, op5s.ok W a ∧ Value.slice a1x len1 cap1 = (op5s.cells a).headD undef := by
    obtain ⟨fuel, hf⟩ := h1
    obtain ⟨a, ha, hok⟩ := op5s.opens hf (fun n hn => of_decide_eq_true (List.all_eq_true.1 hsz n (DataW.weights_mem_each (j := 1) (t := 84) (by rfl) (by rfl) n hn)))
    refine ⟨a, hok, ?_⟩
    have : [Value.slice a1x len1 cap1] = op5s.cells a := ha
    rw [← this]
    rfl
  rw [e1] at k1 hW' ⊢
  obtain ⟨a2x, len2, cap2, rfl⟩ := okWide_slice Tryz.underlying22 (hval 2 22 v2 rfl rfl)
  have k2 := h2
  have lt2 : ∀ x ∈ p2, x.block < W.heap.size := by obtain ⟨m, hm⟩ := k2; exact DataW.trod_lt m _ _ _ hm
  obtain ⟨a2, w2, e2⟩ : ∃ a, opInts.ok W a ∧ Value.slice a2x len2 cap2 = (opInts.cells a).headD undef := by
    obtain ⟨fuel, hf⟩ := h2
    obtain ⟨a, ha, hok⟩ := opInts.opens hf (fun n hn => of_decide_eq_true (List.all_eq_true.1 hsz n (DataW.weights_mem_each (j := 2) (t := 22) (by rfl) (by rfl) n hn)))
    refine ⟨a, hok, ?_⟩
    have : [Value.slice a2x len2 cap2] = opInts.cells a := ha
    rw [← this]
    rfl
  rw [e2] at k2 hW' ⊢
  clear hA0 hval0 hsz0
  refine (walk a0 a1 a2 W (laid_of hL) w0 w1 w2).mono fun e W' ⟨he, bel⟩ => ?_
  subst he
  exact ⟨_, rfl, _, _, _, [], _, [], hW', trodAll_mk1 (shut_bool Tryz.underlying4 _), (trodAll_cons_mk (Below.trod laidOut (by kernel_rfl) (of_decide_eq_true (by kernel_rfl)) k0 bel lt0) (trodAll_cons_mk (Below.trod laidOut (by kernel_rfl) (of_decide_eq_true (by kernel_rfl)) k1 bel lt1) (trodAll_cons_mk (Below.trod laidOut (by kernel_rfl) (of_decide_eq_true (by kernel_rfl)) k2 bel lt2) trodAll_mk0))), rfl, bel.frame _, fun h => by cases h⟩
theorem over : Rows.selectorSeamlessRow.holds Tryz.pinned (OpenSpec.ofChange Rows.selectorSeamlessSpec) :=
  OpenClaim.holds_of_wide 6 Tryz.f6 rfl rfl rfl rfl rfl rfl rfl ⟨rfl, rfl, rfl, rfl, rfl⟩ rfl rfl rfl rfl rfl (by kernel_rfl) Tryz.func6 (by kernel_rfl)
    (of_decide_eq_true (by kernel_rfl)) (by unfold Func.isWrapper; first | (rw [if_pos (by decide +kernel)]; kernel_rfl) | (rw [if_neg (by decide +kernel)]; exact ⟨rfl, rfl⟩))
    (fun os started H enc _ => lifted os started H enc)
theorem proved : Rows.SelectorSeamlessCardSaid :=
  Claim7.holds_tied_plain_at .later [] [.data, .data] true (true, "9dee3736a47d5fde62d585030fb6813f4463abab0d4d0d63d0a04982675a9e5c") false
    over (fun _ h => by cases h) (by kernel_rfl) (fun _ h => by cases h) selectorSeamless_row_tie rfl ⟨rfl, rfl⟩ (by kernel_rfl) rfl
    (fun f fn hf hfn => by
      obtain rfl : f = 6 := Option.some.inj ((show Tryz.prog.funcNamed "onair/onairlaw22.SelectorSeamless" = some 6 by kernel_rfl).symm.trans hf) |>.symm
      obtain rfl : fn = Tryz.f6 := (Option.some.inj (Tryz.func6.symm.trans hfn)).symm
      exact ⟨by kernel_rfl, fun j t ht => by
        rw [Tryz.params6] at ht
        have hm : t ∈ [22, 84, 22] := by simpa using Array.mem_of_getElem? ht
        have hall : ([22, 84, 22].all fun u => !Tryz.prog.wantsStandIn u) = true := by kernel_rfl
        exact (show Tryz.prog.wantsStandIn t = false by simpa using List.all_eq_true.1 hall t hm)⟩)
    (by kernel_rfl)
#print axioms proved
end Go.Proofs.YthpbaaadkhdifaaGreatDoor.selectorSeamless
