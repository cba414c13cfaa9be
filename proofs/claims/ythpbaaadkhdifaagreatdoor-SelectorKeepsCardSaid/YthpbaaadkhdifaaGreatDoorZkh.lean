/- The statement SelectorKeeps: for every input the law returns true and leaves its arguments as they were. No condition. -/
import Derived.Deep.Slices
import Derived.Deep.Fields
import Derived.ChangeSame
import Derived.ChangeArms
import Derived.SizedLaws
import Derived.OpenShut
import Derived.Test.YthpbaaadkhdifaaGreatDoorCards
import Derived.Test.YthpbaaadkhdifaaGreatDoorTie
import Derived.WalkKit
import Derived.ProofKit
import Derived.ShutString
import Derived.ChangeOld
import Derived.Below
import Derived.SevenTiedAt
import Derived.Test.YthpbaaadkhdifaaGreatDoorZkg
namespace Go.Proofs.YthpbaaadkhdifaaGreatDoor
set_option maxRecDepth 100000
set_option maxHeartbeats 4000000
open Go.ChangeShapes Go.WideShapes Go.ChangeAt Go.RowKit Go.Shelf
set_option linter.unusedVariables false
set_option linter.unusedSimpArgs false
abbrev keepU (X : AstA) (i : Nat) : Un := ⟨3, (i : Int), 9, X.item, (i : Int), (X.pics.getD i picZ).key, (X.pics.getD i picZ).str, 255, 1000, [64, 0, 0], 0, 0, none, 0, []⟩
theorem keep_len {X : AstA} {i : Nat} (h : picsOk 30 X.pics) (hi : i < 30) : (X.pics.getD i picZ).str.length ≤ 400 := by
  have hi' : i < X.pics.length := by rw [h.1]; exact hi
  have := (h.2.1 (X.pics.getD i picZ) (by rw [List.getD_eq_getElem?_getD, List.getElem?_eq_getElem hi']; exact List.getElem_mem hi')).1
  show (X.pics.getD i picZ).data.data.toList.length ≤ 400
  rw [Array.length_toList]; exact this
theorem keep_valid {X : AstA} {i : Nat} (h : picsOk 30 X.pics) (hi : i < 30) (h1 : 1 ≤ X.item ∧ X.item ≤ 8) : validU (keepU X i) = true := by
  have hl := keep_len h hi
  unfold validU
  rw [Bool.and_eq_true]
  refine ⟨decide_eq_true ?_, rfl⟩
  show 0 ≤ (3 : Int) ∧ (3 : Int) < 40 ∧ 0 ≤ (i : Int) ∧ (i : Int) ≤ 100000000 ∧ 0 ≤ (i : Int) ∧ (i : Int) ≤ 100000000 ∧ 0 ≤ (9 : Int) ∧ (9 : Int) ≤ 4611686018427387903 ∧ 0 ≤ X.item ∧ X.item ≤ 4611686018427387903 ∧ (X.pics.getD i picZ).str.length ≤ 400 ∧ 3 = 3 ∧ 0 ≤ (255 : Int) ∧ (255 : Int) ≤ 255 ∧ 250 ≤ (1000 : Int) ∧ (1000 : Int) ≤ 4000
  omega
theorem keep_pack {X : AstA} {i : Nat} (h : picsOk 30 X.pics) (hi : i < 30) (h1 : 1 ≤ X.item ∧ X.item ≤ 8) : ∃ t, packP 50 1 (keepU X i) = some t := by
  unfold packP
  rw [keep_valid h hi h1, show rateOk 50 1 = true by kernel_rfl]
  exact ⟨_, rfl⟩
theorem lib_find {li : List AstA} (h : LibOk li) {kx : Nat} (hk : kx < 3) : findA (li.getD kx astZ).item li = some (li.getD kx astZ) ∧ li.getD kx astZ ∈ li := by
  match li, h.its with
  | [a, b, c], hi =>
    simp only [List.map_cons, List.map_nil, libItems, List.cons.injEq, and_true] at hi
    obtain ⟨h1, h2, h3⟩ := hi
    rcases (by omega : kx = 0 ∨ kx = 1 ∨ kx = 2) with rfl | rfl | rfl
    · refine ⟨?_, List.mem_cons_self ..⟩
      show findA a.item [a, b, c] = some a
      simp [findA]
    · refine ⟨?_, List.mem_cons_of_mem _ (List.mem_cons_self ..)⟩
      show findA b.item [a, b, c] = some b
      simp [findA, h1, h2]
    · refine ⟨?_, List.mem_cons_of_mem _ (List.mem_cons_of_mem _ (List.mem_cons_self ..))⟩
      show findA c.item [a, b, c] = some c
      simp [findA, h1, h2, h3]
  | [], hi => cases hi
  | [_], hi => simp [libItems] at hi
  | [_, _], hi => simp [libItems] at hi
  | _ :: _ :: _ :: _ :: _, hi => simp [libItems] at hi
theorem sizes_at {l : List PicA} {i : Nat} (hi : i < l.length) : (sizesP l).drop i = ((l.getD i picZ).str.length : Int) :: (sizesP l).drop (i + 1) := by
  have hl : i < (sizesP l).length := by rw [List.length_map]; exact hi
  rw [List.drop_eq_getElem_cons hl]
  congr 1
  rw [List.getElem_map, List.getD_eq_getElem?_getD, List.getElem?_eq_getElem hi]
  show ((l[i].data.data.size : Nat) : Int) = ((l[i].data.data.toList.length : Nat) : Int)
  rw [Array.length_toList]
theorem need_in {l : List Int} (h1 : (needOf l).isSome = true) (h2 : (needOf l).getD 0 ≤ 500) : ∃ nd, needOf l = some nd ∧ nd ≤ 500 := by
  cases h : needOf l with
  | none => rw [h] at h1; cases h1
  | some y => rw [h] at h2; exact ⟨y, rfl, h2⟩
structure Keep (X : AstA) (i : Nat) (c : Ch) : Prop where
  run : (vrun c.full ((sizesP X.pics).drop i)).isSome = true
  at_ : i = 0 ∨ (c.item = X.item ∧ c.index = (i : Int) - 1)
theorem keep_zero {X : AstA} {nd : Int} (h : needOf (sizesP X.pics) = some nd) (h5 : nd ≤ 500) (p : PlS) : Keep X 0 (mkCh p) :=
  ⟨(need_law _ 500 (by omega) (by omega)).2 ⟨nd, h, h5⟩, .inl rfl⟩
theorem keep_step {li : List AstA} {X : AstA} {i : Nat} {c : Ch} {s t : List UInt8} {u : Un} {g tk : Int} (hl : LibOk li) (hf : findA X.item li = some X) (hp : picsOk 30 X.pics) (h1 : 1 ≤ X.item ∧ X.item ≤ 8) (hi : i < 30) (hc : ChOk 50 3 c) (hk : Keep X i c) (hs : SentP 50 1 s) (ht : packP 50 1 (keepU X i) = some t)
    (h : Chosen li (floorP true (i : Int) 5 (i : Int)) c (i : Int) s t u g tk) : u = keepU X i ∧ Keep X (i + 1) (chN c u g tk) := by
  have hx : i < X.pics.length := by rw [hp.1]; exact hi
  have hfl : floorP true (i : Int) 5 (i : Int) = some 5 := by unfold floorP; rw [if_pos ⟨rfl, Int.le_refl _, by omega⟩]
  have hrun := hk.run
  rw [sizes_at hx] at hrun
  obtain ⟨g0, hg0⟩ : ∃ g0, vstep c.full ((X.pics.getD i picZ).str.length : Int) = some g0 := by
    cases hv : vstep c.full ((X.pics.getD i picZ).str.length : Int) with
    | none => simp only [vrun] at hrun; rw [hv] at hrun; cases hrun
    | some y => exact ⟨y, rfl⟩
  simp only [vrun] at hrun
  rw [hg0] at hrun
  have hgen : genuineP li (keepU X i) = true := by
    unfold genuineP
    rw [if_neg (show X.item ≠ 0 by omega)]
    show (match findA X.item li with | none => false | some a => _) = true
    rw [hf]
    simp only [Int.toNat_natCast, beq_self_eq_true, Bool.and_true, Bool.and_eq_true, decide_eq_true_eq]
    omega
  have hacc : acceptP li (floorP true (i : Int) 5 (i : Int)) c (i : Int) t = some (keepU X i) := by
    unfold acceptP
    rw [hc.num, hc.den, unpack_pack ht]
    show (if _ then some (bareU (keepU X i)) else none) = _
    rw [show bareU (keepU X i) = keepU X i from rfl, hfl]
    refine if_pos ⟨?_, hgen, ?_, ?_⟩
    · show (((3 : Int) == c.number) && ((i : Int) == (i : Int))) = true
      rw [hc.nb]; simp
    · show decide ((5 : Int) ≤ 9) = true
      decide
    · rw [Bool.or_eq_true, Bool.or_eq_true]
      right
      rcases hk.at_ with rfl | ⟨e1, e2⟩
      · right
        unfold entersS
        show (match findA X.item li with | none => false | some a => _) = true
        rw [hf]
        have h0 : (X.pics.getD 0 picZ).key = true := hp.2.2 (by omega)
        obtain ⟨nd, hn, hle⟩ := (need_law _ c.full hc.f0 hc.f1).1 hk.run
        show (_ && (decide ((0 : Int) ≤ ((0 : Nat) : Int)) && (decide (((0 : Nat) : Int) < (X.pics.length : Int)) && match needOf ((sizesP X.pics).drop 0) with | none => false | some nd => decide (nd ≤ c.full)))) = true
        rw [hn]
        simp only [h0, Bool.true_and, Bool.and_eq_true, decide_eq_true_eq]
        omega
      · left
        unfold contS
        show ((X.item == c.item) && (((i : Int) == c.index + 1) && (vstep c.full ((X.pics.getD i picZ).str.length : Int)).isSome)) = true
        rw [e1, e2, hg0]
        simp
  have hu : u = keepU X i := by
    have e1 := congrArg Prod.fst h.eq
    simp only [chooseC] at e1
    rw [hacc] at e1
    cases hr : acceptP li (floorP true (i : Int) 5 (i : Int)) c (i : Int) s with
    | none => rw [hr] at e1; exact e1.symm
    | some x =>
      rw [hr] at e1
      have hx2 := (accept_facts hr).1
      rw [hc.num, hc.den] at hx2
      have hv := (hs.2 x hx2).2
      have hpr : preferP x (keepU X i) c.taken = 1 := by
        unfold preferP
        rw [if_neg (by show ¬ (9 : Int) < x.version; omega), if_pos (by show x.version < (9 : Int); omega)]
      simp only [takeP] at e1
      rw [if_pos hpr] at e1
      exact e1.symm
  subst hu
  have hg : g = g0 := by
    have := h.step
    rw [show ((keepU X i).data.length : Int) = ((X.pics.getD i picZ).str.length : Int) from rfl, hg0] at this
    exact (Option.some.inj this).symm
  subst hg
  refine ⟨rfl, hrun, .inr ⟨rfl, ?_⟩⟩
  show (i : Int) = ((i + 1 : Nat) : Int) - 1
  omega
theorem keep_same {u : Un} {X : AstA} {i : Nat} {B : Option Addr} {d : Nat} (h : u = keepU X i) : sameU (uv u B d) (keepU X i) = true := by
  subst h; exact (same_bare _ _).2 rfl
theorem keep_sent {X : AstA} {i : Nat} {t : List UInt8} (h : packP 50 1 (keepU X i) = some t) : StrOk 50 t := pack_sent h rfl
theorem rslate_any (ch fr : Int) (w : World) :
  Calls Tryz.prog 32 #[.int .i64 ch, .int .i64 fr] w fun e w' => e = .returned (slateU ch fr).val ∧ Below w.heap.size w w' := by
 have HP := Hp.start w
 refine w_enter 8 [(0, (ii ch)), (1, (ii fr))] Tryz.func32 rfl Tryz.ntmps32 (by kernel_rfl) (by kernel_rfl) fun a H => ?_
 refine zsq (zrg ?_)
 refine H.al HP 4 76 [(ii 0), (ii 0), (ii 0), (ii 0), (ii 0), (.bool false), (.string (bstr ([]))), (ii 0), (ii 0), (.string (bstr ([]))), (ii 0), (ii 0), (.slice none 0 0)] fun b_1 w_2 a H HP => ?_
 refine znl (ztn (zsq (zrg ?_)))
 refine H.go HP 3 [(5, (ii ch)), (6, (ii fr)), (7, (.agg #[(ii ch), (ii fr), (ii 0), (ii 0), (ii 0), (.bool true), (.string (bstr ([]))), (ii 255), (ii 1000), (.string (bstr ([64, 0, 0]))), (ii 0), (ii 0), (.slice none 0 0)]))] [] fun a H => H.sh HP 0 0 (.agg #[(ii ch), (ii fr), (ii 0), (ii 0), (ii 0), (.bool true), (.string (bstr ([]))), (ii 255), (ii 1000), (.string (bstr ([64, 0, 0]))), (ii 0), (ii 0), (.slice none 0 0)]) rfl fun w_3 a H HP => ?_
 refine znl (ztn (zrt ?_))
 refine H.ret1 (fn := Tryz.f32) Tryz.results32 (RV.cellN (vs := [(ii ch), (ii fr), (ii 0), (ii 0), (ii 0), (.bool true), (.string (bstr ([]))), (ii 255), (ii 1000), (.string (bstr ([64, 0, 0]))), (ii 0), (ii 0), (.slice none 0 0)]) (b := b_1) (off := 0) (k := 13) (by kernel_rfl) (by kernel_rfl) (by kernel_rfl) rfl (HP.cells 0 rfl 0 13 (by kernel_rfl))) ?_
 exact ⟨rfl, HP.bl⟩
theorem keep_law (XA : Option Addr) (xc : Nat) (xs : List Int) (which : Int) (AL : Option Addr) (cl : Nat) (l : List (Nat → Int)) (w : World) (hL : Laid w) (hxr : IsRow 1 i1C w XA xs) (hxi : ∀ n ∈ xs, in64 n) (hxl : xs.length ≤ 1000000000000000) (hlr : IsRow 4 ar4 w AL l) (hin : ∀ q ∈ l, ∀ k, in64 (q k)) (hll : l.length ≤ 1000000000000000) (hwi : in64 which) :
  Calls Tryz.prog 8 #[.slice XA xs.length xc, .int .i64 which, .slice AL l.length cl] w fun e w' => e = .returned (.bool true) ∧ Below w.heap.size w w' := by
 have HP := ((((Hp.start w).keepF (rowF 1 i1C XA xs) hxr (rowF_ok _ _ _ _) (fun k hk => ⟨hxr.lt k hk, fun x hx => by cases hx⟩)).keepF (rowF 4 ar4 AL l) hlr (rowF_ok _ _ _ _) (fun k hk => ⟨hlr.lt k hk, fun x hx => by cases hx⟩)).keepF laidK hL laidK_ok (fun k hk => ⟨hL.lt k hk, fun x hx => by cases hx⟩))
 refine w_enter 140 [(0, (.slice XA xs.length xc)), (1, (ii which)), (2, (.slice AL l.length cl))] Tryz.func8 rfl Tryz.ntmps8 (by kernel_rfl) (by kernel_rfl) fun a H => ?_
 refine zsq (zrg ?_)
 refine H.ge HP [(6, (.bool false))] [] fun a H => ?_
 refine ztn (zsq (zrg ?_))
 refine H.cb HP 22 (Tryz.call10 _ _) (sane_any w (HP.fact 0 rfl)) fun w_1 hb a H HP => ?_
 refine H.ge HP [(7, (.bool true))] [] fun a H => ?_
 refine ztn (zsq (zrg ?_))
 refine H.go HP 1 [(23, (.slice XA xs.length xc))] [] fun a H => ?_
 refine H.cl 24 (Tryz.call11 _ _) (libraryL_any XA xc xs w_1 hxl hxi (HP.fact 2 rfl)) ?_
 rintro e w_2 ⟨LA, lc, li, rfl, hli, hlib, hb⟩
 refine ⟨_, rfl, ?_⟩
 intro a H
 have HP := (HP.next hb).keepF (astsK LA li) hlib (fun _ _ h hk hs => IsAsts.keep h hk hs) (fun k hk => ⟨IsAsts.lt hlib hk, fun x hx => by cases hx⟩)
 refine H.ge HP [(8, (.slice LA li.length lc))] [] fun a H => ?_
 refine ztn (zsq (zrg ?_))
 refine H.cl 25 (Tryz.call12 _ _) (plansL_any w_2) ?_
 rintro e w_3 ⟨AP, cp, I0, i0, I1, i1, rfl, hcp, hpr, hpi, hb⟩
 refine ⟨_, rfl, ?_⟩
 intro a H
 have HP := (((HP.next hb).keepF (itsK [(pl0 I0 i0), (pl1 I1 i1)]) hpi (itsK_ok _) (fun k hk => ⟨itsK_lt hpi hk, fun x hx => by cases hx⟩)).keepF (rowF 13 plnC AP [(pl0 I0 i0)]) (pl_take hpr) (rowF_ok _ _ _ _) (fun k hk => ⟨IsRow.lt (pl_take hpr) k hk, fun x hx => by cases hx⟩))
 refine H.u 26 (.slice AP 1 cp) (ex_sliceH (len := 2) (k := .i64) (m := 1) (sz := 13) (by kernel_rfl) (by kernel_rfl) (by kernel_rfl) (by kernel_rfl) rfl (by omega)) fun a H => ?_
 refine H.ge HP [(9, (.slice AP 1 cp))] [] fun a H => ?_
 refine ztn (zsq (zrg ?_))
 refine H.go HP 2 [(28, (.slice AP 1 cp)), (29, (.slice LA li.length lc))] [] fun a H => ?_
 refine H.cl 30 (Tryz.call13 _ _) (newL_any AP cp lc [(pl0 I0 i0)] LA li w_3 plOk0 hli (HP.fact 3 rfl) (its_0 (HP.fact 1 rfl)) (HP.fact 0 rfl) (HP.fact 2 rfl)) ?_
 rintro e w_4 ⟨bs, cs, kcs, Ss, kSs, ls, rests, rfl, hN, hbn⟩
 refine ⟨_, rfl, ?_⟩
 intro a H
 have HP := (HP.gainSel hN hbn : Hp w _ [bx bs 111 [(.slice (some ⟨cs, 0, none⟩) 1 kcs), (.slice Ss ls.length kSs), (.bool false), (ii 0), (ii 0)] true, bx cs 115 (flat chC [mkCh (pl0 I0 i0)] ++ rests) true] [astsK Ss ls, rowF 13 plnC AP [(pl0 I0 i0)], itsK [(pl0 I0 i0), (pl1 I1 i1)], astsK LA li, laidK, rowF 4 ar4 AL l, rowF 1 i1C XA xs])
 have h1s := hN.sel1 hli
 refine H.ge HP [(10, (pt bs 0)), (11, (ii 0))] [] fun a H => ?_
 refine ztn (zsq (zsq (zrg ?_)))
 refine H.ge HP [(34, (.bool false))] [] fun a H => ?_
 refine ztn ?_
 refine w_iff H rfl ?_
 refine zsk (ztn (zsq (zrg ?_)))
 refine H.go HP 2 [(35, (.slice LA li.length lc)), (36, (ii which))] [] fun a H => ?_
 refine H.cl 37 (Tryz.call18 _ _) (pick_any which 3 w_4 hwi (by omega)) ?_
 rintro e w_5 ⟨rfl, hw⟩
 refine ⟨_, rfl, ?_⟩
 intro a H
 have HP := hw ▸ HP
 have hpk3 := pickI_lt which 3 (by omega)
 obtain ⟨kx, hkx⟩ : ∃ kx : Nat, pickI which 3 = (kx : Int) := ⟨(pickI which 3).toNat, by omega⟩
 have hlen3 := hli.len
 obtain ⟨X, hX⟩ : ∃ X, li.getD kx astZ = X := ⟨_, rfl⟩
 obtain ⟨bX, oX, hAX, hbl, pa, pb, hok2, hmem⟩ := IsAsts.get (HP.fact 3 rfl) (i := kx) (by omega)
 obtain ⟨hfi, _⟩ := lib_find hli (kx := kx) (by omega)
 rw [hX] at pa pb hok2 hmem hfi
 have hpx := hli.pics X hmem; have hix := lib_item hli hmem
 refine H.u 38 (.pointer (some ⟨bX, oX + kx * 2, none⟩)) (ex_indexA (b := bX) (off := oX) (len := li.length) (cap := lc) (e := 91) (k := 2) (ik := .i64) (i := pickI which 3) (m := kx) hAX (by kernel_rfl) (by kernel_rfl) hkx (by omega) (by kernel_rfl) (by kernel_rfl)) fun a H => H.u 39 (.agg #[(ii X.item), (.slice X.A X.pics.length X.c)]) (ex_lN [(ii X.item), (.slice X.A X.pics.length X.c)] (cells2 pa pb)) fun a H => H.al HP 12 91 [(ii 0), (.slice none 0 0)] fun b_6 w_7 a H HP => H.sh HP 0 0 (.agg #[(ii X.item), (.slice X.A X.pics.length X.c)]) rfl fun w_8 a H HP => ?_
 refine znl (ztn (zsq (zrg ?_)))
 refine H.go HP 1 [(40, (.agg #[(ii X.item), (.slice X.A X.pics.length X.c)]))] [0] fun a H => ?_
 refine H.cl 41 (Tryz.call30 _ _) (msizes_any X.item X.A X.pics.length X.c X.pics w_8 ((((HP.fact 3 rfl : IsAsts _ LA li.length li)).2 X hmem) : X.ok _).1 (hli.pl X hmem)) ?_
 rintro e w_9 ⟨BZ, cz, rfl, hz1, hz2, hz3, _, hb⟩
 refine ⟨_, rfl, ?_⟩
 intro a H
 have HP := HP.next hb
 refine H.ge HP [(13, (.slice BZ ((sizesP X.pics).length) cz))] [] fun a H => ?_
 refine ztn (zsq (zrg ?_))
 refine H.go HP 1 [(43, (.slice BZ ((sizesP X.pics).length) cz))] [] fun a H => ?_
 refine H.cl 44 (Tryz.call31 _ _) (refNeed_any BZ (sizesP X.pics).length cz (sizesP X.pics) w_9 hz1 (by unfold maxLen at hz3; omega)) ?_
 rintro e w_10 ⟨rfl, hw⟩
 refine ⟨_, rfl, ?_⟩
 intro a H
 have HP := hw ▸ HP
 refine H.ge HP [(14, (ii ((needOf (sizesP X.pics)).getD 0))), (15, (.bool ((needOf (sizesP X.pics)).isSome)))] [] fun a H => ?_
 refine ztn (zsq (zsq (zrg ?_)))
 refine H.go HP 3 [(49, (.bool (!((needOf (sizesP X.pics)).isSome))))] [] fun a H => ?_
 refine H.split 49 rfl (fun g49 H => ?_) (fun g49 H => ?_)
 ·have g49p := not_is_true g49
  refine H.ge HP [(52, (.bool true))] [] fun a H => ?_
  refine ztn ?_
  refine w_ift H rfl ?_
  refine zsq (zrg ?_)
  refine H.ge HP [(6, (.bool true))] [] fun a H => ?_
  refine ztn (zrt (ztr ?_))
  refine H.r1 (.bool true) Tryz.results8 ?_
  exact ⟨rfl, HP.bl⟩
 have g49p := not_is_false g49
 refine H.ge HP [(52, (.bool (decide (((needOf (sizesP X.pics)).getD 0) > 500))))] [] fun a H => ?_
 refine ztn ?_
 refine w_if H rfl (fun g52 => ?_) (fun g52 => ?_)
 ·have g52p := of_decide_eq_true g52
  refine zsq (zrg ?_)
  refine H.ge HP [(6, (.bool true))] [] fun a H => ?_
  refine ztn (zrt (ztr ?_))
  refine H.r1 (.bool true) Tryz.results8 ?_
  exact ⟨rfl, HP.bl⟩
 have g52p := of_decide_eq_false g52
 refine zsk (ztn (zsq (zrg ?_)))
 refine H.go HP 1 [(54, (.agg #[(ii 0), (ii 0)]))] [] fun a H => H.al HP 55 55 [(ii 0), (ii 0)] fun b_11 w_12 a H HP => ?_
 refine H.ge HP [(16, (pt b_11 0))] [] fun a H => ?_
 refine ztn (zsq (zsq ?_))
 obtain ⟨nd, hnd, hn5⟩ := need_in (by simpa using g49) (by simpa using g52)
 have hsz : (sizesP X.pics).length = 30 := by rw [List.length_map]; exact hpx.1
 refine zrg ?_
 refine H.ge HP [(17, (ii 0))] [] fun a H => ?_
 refine ztn (zbk ?_)
 obtain ⟨bp, op, hApl0⟩ := pl_at (q := (pl0 I0 i0)) (HP.fact 1 rfl : IsRow 13 plnC _ AP [(pl0 I0 i0)])
 refine w_loop (fun mm a wv => ∃ (i : Nat), ∃ (hd : Bool), ∃ (at_ : Int), ∃ (od : Int), ∃ (c : Ch), ∃ (t0 : Int), ∃ (x0 : Int), l.length - i = mm ∧ Sl 140 [(17, (ii i)), (0, (.slice XA xs.length xc)), (1, (ii which)), (2, (.slice AL l.length cl)), (7, (.bool true)), (8, (.slice LA li.length lc)), (9, (.slice AP 1 cp)), (10, (pt bs 0)), (12, (pt b_6 0)), (13, (.slice BZ ((sizesP X.pics).length) cz)), (16, (pt b_11 0))] a ∧ Hp w wv [bx b_6 91 [(ii X.item), (.slice X.A X.pics.length X.c)] true, bx b_11 55 [(ii t0), (ii x0)] true, bx bs 111 [(.slice (some ⟨cs, 0, none⟩) 1 kcs), (.slice Ss ls.length kSs), (.bool hd), (ii at_), (ii od)] true, bx cs 115 (flat chC [c] ++ rests) true] [astsK Ss ls, rowF 13 plnC AP [(pl0 I0 i0)], itsK [(pl0 I0 i0), (pl1 I1 i1)], astsK LA li, laidK, rowF 4 ar4 AL l, rowF 1 i1C XA xs] ∧ (i ≤ l.length) ∧ (i ≤ 30) ∧ (BeatOk hd at_ od (i : Int)) ∧ (ChOk 50 3 c) ∧ ((0 ≤ t0 ∧ t0 ≤ 8) ∧ (0 ≤ x0 ∧ x0 ≤ 29 + (i : Int))) ∧ (hd = false ∨ at_ < (i : Int)) ∧ (Keep X i c)) (l.length - 0) ?_ ?_
 ·exact ⟨0, false, 0, 0, (mkCh (pl0 I0 i0)), 0, 0, (by omega), H.keep (by kernel_rfl), (HP.subw [1, 0, 2, 3] [bx b_6 91 [(ii X.item), (.slice X.A X.pics.length X.c)] true, bx b_11 55 [(ii 0), (ii 0)] true, bx bs 111 [(.slice (some ⟨cs, 0, none⟩) 1 kcs), (.slice Ss ls.length kSs), (.bool false), (ii 0), (ii 0)] true, bx cs 115 (flat chC [mkCh (pl0 I0 i0)] ++ rests) true] (by kernel_rfl) (by kernel_rfl)), (Nat.zero_le _), (Nat.zero_le _), beat_zero, (ch_ok0 (pl0 I0 i0)), (by omega), (.inl rfl), (keep_zero hnd hn5 _)⟩
 rintro mm a w_13 ⟨i, hd, at_, od, c, t0, x0, hmeas, H, HP, hil, hin_, hbo, hc, hcu, hat, hkp⟩
 refine zsq (zsq (zrg ?_))
 refine H.go HP 5 [(60, (.bool (decide ((i : Int) < (l.length : Int)))))] [] fun a H => ?_
 refine H.split 60 rfl (fun g60 H => ?_) (fun g60 H => ?_)
 ·have g60p := of_decide_eq_true g60
  refine H.go HP 6 [(66, (.bool (decide ((i : Int) < (((sizesP X.pics).length : Nat) : Int)))))] [] fun a H => ?_
  refine H.split 66 rfl (fun g66 H => ?_) (fun g66 H => ?_)
  ·have g66p := of_decide_eq_true g66
   refine H.ge HP [(69, (.bool (decide ((i : Int) < 30))))] [] fun a H => ?_
   refine ztn ?_
   refine w_if H rfl (fun g69 => ?_) (fun g69 => ?_)
   ·have g69p := of_decide_eq_true g69
    refine zsk (ztn (zsq (zbk (zsq ?_))))
    obtain ⟨bL, oL, q, hAL, _, _, hq, hqm, _⟩ := IsRow.get ar4_size (HP.fact 5 rfl) (i := i) (by omega)
    have hqi := hin q hqm
    have hpl30 := hpx.1
    have hbo2 : BeatOk true (i : Int) 5 (i : Int) := ⟨by omega, by omega, by omega, by omega⟩
    refine zrg ?_
    refine H.go HP 3 [(72, (pt bs 0)), (74, (.agg #[(ii 3), (ii 0), (ii 0), (ii i), (ii 5), (ii 0), (ii 0), (ii 0), (ii 0), (ii 0), (ii 0), (ii 0), (ii 0), (ii 0), (ii 0), (ii 0), (ii 0), (.slice none 0 0), (ii 0), (ii 0), (ii 0), (ii 0), (ii 0), (ii 0), (ii 0), (ii 0), (ii 0), (ii 0), (ii 0), (ii 0), (.string (bstr ([])))]))] [] fun a H => ?_
    refine H.cl 75 (Tryz.call16 _ _) (receive_any bs cs 1 kcs Ss ls.length kSs hd at_ od 0 (i : Int) 5 w_13 (HP.at_ 2 rfl) (by decide)) ?_
    rintro e w_14 ⟨rfl, hbx, hgr⟩
    refine ⟨_, rfl, ?_⟩
    intro a H
    have HP := (HP.changed 2 rfl [(.slice (some ⟨cs, 0, none⟩) 1 kcs), (.slice Ss ls.length kSs), (.bool true), (ii i), (ii 5)] [bx b_6 91 [(ii X.item), (.slice X.A X.pics.length X.c)] true, bx b_11 55 [(ii t0), (ii x0)] true, bx bs 111 [(.slice (some ⟨cs, 0, none⟩) 1 kcs), (.slice Ss ls.length kSs), (.bool true), (ii i), (ii 5)] true, bx cs 115 (flat chC [c] ++ rests) true] (by kernel_rfl) hgr (by have hh := hbx; rw [recv_new (by omega) (by decide) hat] at hh; exact hh))
    refine znl (ztn (zsq (zrg ?_)))
    refine H.go HP 1 [(76, (.slice AP 1 cp))] [] fun a H => H.u 77 (.pointer (some ⟨bp, op + 0 * 13, none⟩)) (ex_indexA (b := bp) (off := op) (len := 1) (cap := cp) (e := 67) (k := 13) (ik := .i64) (i := 0) (m := 0) hApl0 (by kernel_rfl) (by kernel_rfl) rfl (by decide) (by kernel_rfl) (by kernel_rfl)) fun a H => H.go HP 1 [(78, (.pointer (some ⟨bp, op + 0 * 13, none⟩)))] [] fun a H => H.u 79 (ii 3) (ex_l1 (IsRow.cells plnC_size (HP.fact 1 rfl : IsRow 13 plnC _ AP [(pl0 I0 i0)]) hApl0 (i := 0) (x := (pl0 I0 i0)) rfl 0 _ rfl)) fun a H => H.go HP 1 [(80, (ii i))] [] fun a H => H.cb HP 81 (Tryz.call32 _ _) (rslate_any 3 (i : Int) w_14) fun w_15 hb a H HP => H.al HP 18 76 [(ii 0), (ii 0), (ii 0), (ii 0), (ii 0), (.bool false), (.string (bstr ([]))), (ii 0), (ii 0), (.string (bstr ([]))), (ii 0), (ii 0), (.slice none 0 0)] fun b_16 w_17 a H HP => H.sh HP 0 0 (.agg #[(ii 3), (ii i), (ii 0), (ii 0), (ii 0), (.bool true), (.string (bstr ([]))), (ii 255), (ii 1000), (.string (bstr ([64, 0, 0]))), (ii 0), (ii 0), (.slice none 0 0)]) rfl fun w_18 a H HP => ?_
    refine znl (ztn (zsq (zrg ?_)))
    refine H.go HP 1 [(82, (pt b_16 2))] [] fun a H => H.sh HP 0 2 (ii 9) rfl fun w_19 a H HP => ?_
    refine znl (ztn (zsq ?_))
    have HP : Hp w w_19 [bx b_16 76 [(ii 3), (ii i), (ii 9), (ii 0), (ii 0), (.bool true), (.string (bstr ([]))), (ii 255), (ii 1000), (.string (bstr ([64, 0, 0]))), (ii 0), (ii 0), (.slice none 0 0)] true, bx b_6 91 [(ii X.item), (.slice X.A X.pics.length X.c)] true, bx b_11 55 [(ii t0), (ii x0)] true, bx bs 111 [(.slice (some ⟨cs, 0, none⟩) 1 kcs), (.slice Ss ls.length kSs), (.bool true), (ii i), (ii 5)] true, bx cs 115 (flat chC [c] ++ rests) true] [astsK Ss ls, rowF 13 plnC AP [(pl0 I0 i0)], itsK [(pl0 I0 i0), (pl1 I1 i1)], astsK LA li, laidK, rowF 4 ar4 AL l, rowF 1 i1C XA xs] := HP
    refine zrg ?_
    refine H.go HP 3 [(84, (ii X.item)), (85, (pt b_16 3))] [1] fun a H => H.sh HP 0 3 (ii X.item) rfl fun w_20 a H HP => ?_
    refine znl (ztn (zsq (zrg ?_)))
    refine H.go HP 2 [(86, (ii i)), (87, (pt b_16 4))] [] fun a H => H.sh HP 0 4 (ii i) rfl fun w_21 a H HP => ?_
    refine znl (ztn (zsq ?_))
    have HP : Hp w w_21 [bx b_16 76 [(ii 3), (ii i), (ii 9), (ii X.item), (ii i), (.bool true), (.string (bstr ([]))), (ii 255), (ii 1000), (.string (bstr ([64, 0, 0]))), (ii 0), (ii 0), (.slice none 0 0)] true, bx b_6 91 [(ii X.item), (.slice X.A X.pics.length X.c)] true, bx b_11 55 [(ii t0), (ii x0)] true, bx bs 111 [(.slice (some ⟨cs, 0, none⟩) 1 kcs), (.slice Ss ls.length kSs), (.bool true), (ii i), (ii 5)] true, bx cs 115 (flat chC [c] ++ rests) true] [astsK Ss ls, rowF 13 plnC AP [(pl0 I0 i0)], itsK [(pl0 I0 i0), (pl1 I1 i1)], astsK LA li, laidK, rowF 4 ar4 AL l, rowF 1 i1C XA xs] := HP
    refine zrg ?_
    refine H.go HP 3 [(89, (.slice X.A X.pics.length X.c)), (90, (ii i))] [1] fun a H => ?_
    obtain ⟨bq_, oq_, hAq, hbq, hpc⟩ := pic_cells ((((HP.fact 3 rfl : IsAsts _ LA li.length li)).2 X hmem) : X.ok _).1 (i := i) (by omega)
    refine H.u 91 (.pointer (some ⟨bq_, oq_ + i * 3, none⟩)) (ex_indexA (b := bq_) (off := oq_) (len := X.pics.length) (cap := X.c) (e := 96) (k := 3) (ik := .i64) (i := (i : Int)) (m := i) hAq (by kernel_rfl) (by kernel_rfl) rfl (by omega) (by kernel_rfl) (by kernel_rfl)) fun a H => H.go HP 1 [(92, (.pointer (some ⟨bq_, oq_ + i * 3, none⟩)))] [] fun a H => H.u 93 (.bool ((X.pics.getD i picZ).key)) (ex_l1 (pic_cells2 ((((HP.fact 3 rfl : IsAsts _ LA li.length li)).2 X hmem) : X.ok _).1 (i := i) (by omega) hAq 0 _ rfl)) fun a H => H.go HP 1 [(94, (pt b_16 5))] [] fun a H => H.sh HP 0 5 (.bool ((X.pics.getD i picZ).key)) rfl fun w_22 a H HP => ?_
    refine znl (ztn (zsq ?_))
    have HP : Hp w w_22 [bx b_16 76 [(ii 3), (ii i), (ii 9), (ii X.item), (ii i), (.bool ((X.pics.getD i picZ).key)), (.string (bstr ([]))), (ii 255), (ii 1000), (.string (bstr ([64, 0, 0]))), (ii 0), (ii 0), (.slice none 0 0)] true, bx b_6 91 [(ii X.item), (.slice X.A X.pics.length X.c)] true, bx b_11 55 [(ii t0), (ii x0)] true, bx bs 111 [(.slice (some ⟨cs, 0, none⟩) 1 kcs), (.slice Ss ls.length kSs), (.bool true), (ii i), (ii 5)] true, bx cs 115 (flat chC [c] ++ rests) true] [astsK Ss ls, rowF 13 plnC AP [(pl0 I0 i0)], itsK [(pl0 I0 i0), (pl1 I1 i1)], astsK LA li, laidK, rowF 4 ar4 AL l, rowF 1 i1C XA xs] := HP
    refine zrg ?_
    refine H.go HP 3 [(96, (.slice X.A X.pics.length X.c)), (97, (ii i))] [1] fun a H => H.u 98 (.pointer (some ⟨bq_, oq_ + i * 3, none⟩)) (ex_indexA (b := bq_) (off := oq_) (len := X.pics.length) (cap := X.c) (e := 96) (k := 3) (ik := .i64) (i := (i : Int)) (m := i) hAq (by kernel_rfl) (by kernel_rfl) rfl (by omega) (by kernel_rfl) (by kernel_rfl)) fun a H => H.go HP 1 [(99, (.pointer (some ⟨bq_, oq_ + i * 3 + 1, none⟩)))] [] fun a H => H.u 100 (.string (bstr ((X.pics.getD i picZ).str))) (ex_l1 (pic_cells2 ((((HP.fact 3 rfl : IsAsts _ LA li.length li)).2 X hmem) : X.ok _).1 (i := i) (by omega) hAq 1 _ rfl)) fun a H => H.go HP 1 [(101, (pt b_16 6))] [] fun a H => H.sh HP 0 6 (.string (bstr ((X.pics.getD i picZ).str))) rfl fun w_23 a H HP => ?_
    refine znl (ztn (zsq ?_))
    have HP : Hp w w_23 [bx b_16 76 [(ii 3), (ii i), (ii 9), (ii X.item), (ii i), (.bool ((X.pics.getD i picZ).key)), (.string (bstr ((X.pics.getD i picZ).str))), (ii 255), (ii 1000), (.string (bstr ([64, 0, 0]))), (ii 0), (ii 0), (.slice none 0 0)] true, bx b_6 91 [(ii X.item), (.slice X.A X.pics.length X.c)] true, bx b_11 55 [(ii t0), (ii x0)] true, bx bs 111 [(.slice (some ⟨cs, 0, none⟩) 1 kcs), (.slice Ss ls.length kSs), (.bool true), (ii i), (ii 5)] true, bx cs 115 (flat chC [c] ++ rests) true] [astsK Ss ls, rowF 13 plnC AP [(pl0 I0 i0)], itsK [(pl0 I0 i0), (pl1 I1 i1)], astsK LA li, laidK, rowF 4 ar4 AL l, rowF 1 i1C XA xs] := HP
    obtain ⟨tp, htp⟩ := keep_pack hpx (i := i) (by omega) hix
    refine An.start (fun v => Hp w v [bx b_16 76 [(ii 3), (ii i), (ii 9), (ii X.item), (ii i), (.bool ((X.pics.getD i picZ).key)), (.string (bstr ((X.pics.getD i picZ).str))), (ii 255), (ii 1000), (.string (bstr ([64, 0, 0]))), (ii 0), (ii 0), (.slice none 0 0)] true, bx b_6 91 [(ii X.item), (.slice X.A X.pics.length X.c)] true, bx b_11 55 [(ii t0), (ii x0)] true, bx bs 111 [(.slice (some ⟨cs, 0, none⟩) 1 kcs), (.slice Ss ls.length kSs), (.bool true), (ii i), (ii 5)] true, bx cs 115 (flat chC [c] ++ rests) true] [astsK Ss ls, rowF 13 plnC AP [(pl0 I0 i0)], itsK [(pl0 I0 i0), (pl1 I1 i1)], astsK LA li, laidK, rowF 4 ar4 AL l, rowF 1 i1C XA xs]) 11 11 HP wide_follows rfl fun w_24 HP => ?_
    refine An.go H (.inr (HP)) 10 [0] [(103, (.slice AP 1 cp))] [] fun a H => ?_
    refine An.q H (.inr (HP)) 1 104 (.pointer (some ⟨bp, op + 0 * 13, none⟩)) (fun _ => ex_indexA (b := bp) (off := op) (len := 1) (cap := cp) (e := 67) (k := 13) (ik := .i64) (i := 0) (m := 0) hApl0 (by kernel_rfl) (by kernel_rfl) rfl (by decide) (by kernel_rfl) (by kernel_rfl)) fun a H => ?_
    refine An.go H (.inr (HP)) 8 [2] [(105, (.pointer (some ⟨bp, op + 0 * 13 + 1, none⟩)))] [] fun a H => ?_
    refine An.vw H (HP) 3 106 (.agg #[(ii 50), (ii 1)]) (fun _ hS => ex_lN [(ii 50), (ii 1)] (cells_sub (IsRow.cells plnC_size (hS.fact 1 rfl : IsRow 13 plnC _ AP [(pl0 I0 i0)]) hApl0 (i := 0) (x := (pl0 I0 i0)) rfl) 1 2)) fun a H => ?_
    refine An.go H (.inr (HP)) 6 [4] [(107, (.agg #[(ii 3), (ii i), (ii 9), (ii X.item), (ii i), (.bool ((X.pics.getD i picZ).key)), (.string (bstr ((X.pics.getD i picZ).str))), (ii 255), (ii 1000), (.string (bstr ([64, 0, 0]))), (ii 0), (ii 0), (.slice none 0 0)]))] [0] fun a H => ?_
    refine An.one 5 (by kernel_rfl) ?_
    refine Op.call H 108 rfl (by kernel_rfl) (Eq.trans (by kernel_rfl : _ = (callFunc 28 #[(.agg #[(ii 50), (ii 1)]), (.agg #[(ii 3), (ii i), (ii 9), (ii X.item), (ii i), (.bool ((X.pics.getD i picZ).key)), (.string (bstr ((X.pics.getD i picZ).str))), (ii 255), (ii 1000), (.string (bstr ([64, 0, 0]))), (ii 0), (ii 0), (.slice none 0 0)])]).run Tryz.prog w_24) (Tryz.call28 _ _)) ((by have hh := pack_any 50 1 (keepU X i) w_24 (HP.fact 4 rfl) (alts_nil _ _) (Nat.zero_le _); rw [htp] at hh; exact hh)) ?_
    rintro e w_25 ⟨rfl, hb⟩
    refine ⟨_, rfl, ?_⟩
    intro a H
    have HP := HP.next hb
    refine ⟨.inr (HP), ?_⟩
    refine An.go H (.inr (HP)) 0 [6, 7, 8, 9, 10] [(19, (.string (bstr tp)))] [] fun a H => ?_
    refine An.done (by kernel_rfl) ?_
    refine ztn (zsq ?_)
    have HP := HP.front 4 rfl _ rfl
    have HP := HP.front 3 rfl _ rfl
    refine An.start (fun v => Hp w v [bx b_16 76 [(ii 3), (ii i), (ii 9), (ii X.item), (ii i), (.bool ((X.pics.getD i picZ).key)), (.string (bstr ((X.pics.getD i picZ).str))), (ii 255), (ii 1000), (.string (bstr ([64, 0, 0]))), (ii 0), (ii 0), (.slice none 0 0)] true, bx b_6 91 [(ii X.item), (.slice X.A X.pics.length X.c)] true, bx bs 111 [(.slice (some ⟨cs, 0, none⟩) 1 kcs), (.slice Ss ls.length kSs), (.bool true), (ii i), (ii 5)] true] [astsK Ss ls, rowF 13 plnC AP [(pl0 I0 i0)], itsK [(pl0 I0 i0), (pl1 I1 i1)], astsK LA li, laidK, rowF 4 ar4 AL l, rowF 1 i1C XA xs]) 18 18 HP wide_follows rfl fun w_26 HP => ?_
    refine An.go H (.inr (((HP.tail rfl).tail rfl))) 14 [0, 1, 2, 3] [(111, (pt bs 0)), (112, (ii i)), (113, (pt b_11 0)), (114, (.slice AP 1 cp))] [] fun a H => ?_
    refine An.q H (.inr (((HP.tail rfl).tail rfl))) 4 115 (.pointer (some ⟨bp, op + 0 * 13, none⟩)) (fun _ => ex_indexA (b := bp) (off := op) (len := 1) (cap := cp) (e := 67) (k := 13) (ik := .i64) (i := 0) (m := 0) hApl0 (by kernel_rfl) (by kernel_rfl) rfl (by decide) (by kernel_rfl) (by kernel_rfl)) fun a H => ?_
    refine An.vw H (((HP.tail rfl).tail rfl)) 5 116 (.agg #[(ii 3), (ii 50), (ii 1), (ii 0), (.slice none 0 0), (ii 0), (ii 2), (ii 500), (ii 1), (.slice I0 3 i0), (.slice none 0 0), (.slice none 0 0), (.slice none 0 0)]) (fun _ hS => ex_lN [(ii 3), (ii 50), (ii 1), (ii 0), (.slice none 0 0), (ii 0), (ii 2), (ii 500), (ii 1), (.slice I0 3 i0), (.slice none 0 0), (.slice none 0 0), (.slice none 0 0)] (IsRow.cells plnC_size (hS.fact 1 rfl : IsRow 13 plnC _ AP [(pl0 I0 i0)]) hApl0 (i := 0) (x := (pl0 I0 i0)) rfl)) fun a H => ?_
    refine An.go H (.inr (((HP.tail rfl).tail rfl))) 8 [6, 7, 8, 9] [(117, (.slice LA li.length lc)), (118, (ii i)), (119, (.slice AL l.length cl)), (120, (ii i))] [] fun a H => ?_
    refine An.q H (.inr (((HP.tail rfl).tail rfl))) 10 121 (.pointer (some ⟨bL, oL + i * 4, none⟩)) (fun _ => ex_indexA (b := bL) (off := oL) (len := l.length) (cap := cl) (e := 52) (k := 4) (ik := .i64) (i := (i : Int)) (m := i) hAL (by kernel_rfl) (by kernel_rfl) rfl (by omega) (by kernel_rfl) (by kernel_rfl)) fun a H => ?_
    refine An.vw H (((HP.tail rfl).tail rfl)) 11 122 (.agg #[(ii (q 0)), (ii (q 1)), (ii (q 2)), (ii (q 3))]) (fun _ hS => ex_lN [(ii (q 0)), (ii (q 1)), (ii (q 2)), (ii (q 3))] (IsRow.cells ar4_size (hS.fact 5 rfl : IsRow 4 ar4 _ AL l) hAL hq)) fun a H => ?_
    refine An.go H (.inr (((HP.tail rfl).tail rfl))) 5 [14] [(125, (.string (bstr tp)))] [] fun a H => ?_
    refine An.two 12 15 (by kernel_rfl) ?_ ?_
    ·refine Op.call H 123 rfl (by kernel_rfl) (Eq.trans (by kernel_rfl : _ = (callFunc 19 #[(pt b_11 0), (.agg #[(ii 3), (ii 50), (ii 1), (ii 0), (.slice none 0 0), (ii 0), (ii 2), (ii 500), (ii 1), (.slice I0 3 i0), (.slice none 0 0), (.slice none 0 0), (.slice none 0 0)]), (.slice LA li.length lc), (ii i), (.agg #[(ii (q 0)), (ii (q 1)), (ii (q 2)), (ii (q 3))])]).run Tryz.prog w_26) (Tryz.call19 _ _)) (sent0_any b_11 0 lc (pl0 I0 i0) LA li (i : Int) (q 0) (q 1) (q 2) (q 3) t0 x0 [] [] w_26 rfl (by omega) pl0_ok1.1 (hqi 0) (hqi 1) (hqi 2) (hqi 3) (by omega) (by omega) (HP.factNo 3 0 rfl rfl) (HP.ge2 4 0 rfl rfl) (HP.fact 4 rfl) (HP.fact 3 rfl) hli.max hli.pl hli.dl (HP.at_ 0 rfl)) ?_
     rintro e w_27 ⟨s1, it1, ix1, rfl, hsn1, hit1, hix1, hbx, hgr⟩
     refine ⟨_, rfl, ?_⟩
     intro a H
     have HP := (HP.changed 0 rfl [(ii it1), (ii ix1)] [bx b_11 55 [(ii it1), (ii ix1)] true, bx cs 115 (flat chC [c] ++ rests) true, bx b_16 76 [(ii 3), (ii i), (ii 9), (ii X.item), (ii i), (.bool ((X.pics.getD i picZ).key)), (.string (bstr ((X.pics.getD i picZ).str))), (ii 255), (ii 1000), (.string (bstr ([64, 0, 0]))), (ii 0), (ii 0), (.slice none 0 0)] true, bx b_6 91 [(ii X.item), (.slice X.A X.pics.length X.c)] true, bx bs 111 [(.slice (some ⟨cs, 0, none⟩) 1 kcs), (.slice Ss ls.length kSs), (.bool true), (ii i), (ii 5)] true] (by kernel_rfl) hgr hbx)
     refine ⟨.inr (((HP.tail rfl).tail rfl)), ?_⟩
     refine An.two 13 15 (by kernel_rfl) ?_ ?_
     ·refine Op.alloc H HP 124 (fun b => (.slice (some ⟨b, 0, none⟩) 1 1)) 9 [(.string (bstr s1))] rfl (by kernel_rfl) (fun w => by kernel_rfl) fun b_28 w_29 a H HP => ?_
      refine ⟨.inr ((((HP.tail rfl).tail rfl).tail rfl)), ?_⟩
      refine An.one 15 (by kernel_rfl) ?_
      refine Op.alloc H HP 126 (fun b => (.slice (some ⟨b, 0, none⟩) 1 1)) 9 [(.string (bstr tp))] rfl (by kernel_rfl) (fun w => by kernel_rfl) fun b_30 w_31 a H HP => ?_
      refine ⟨.inr (((((HP.tail rfl).tail rfl).tail rfl).tail rfl)), ?_⟩
      refine An.one 16 (by kernel_rfl) ?_
      refine Op.call H 127 rfl (by kernel_rfl) (Eq.trans (by kernel_rfl : _ = (callFunc 20 #[(pt bs 0), (ii i), (.slice (some ⟨b_28, 0, none⟩) 1 1), (.slice (some ⟨b_30, 0, none⟩) 1 1)]).run Tryz.prog w_31) (Tryz.call20 _ _)) (chooseL1 bs cs kcs kSs Ss h1s true (i : Int) 5 (i : Int) rests c hc (some ⟨b_28, 0, none⟩) (some ⟨b_30, 0, none⟩) 1 1 [s1] [tp] w_31 (rows_ok hsn1.ok) (rows_ok (keep_sent htp)) (by omega) (by omega) (HP.ne 6 3 rfl rfl (by decide)) (HP.factNo 0 3 rfl rfl) (HP.ge2 4 3 rfl rfl) (rowFp_ne (HP.ne 1 3 rfl rfl (by decide))) (rowFp_ne (HP.ne 0 3 rfl rfl (by decide))) (HP.fact 4 rfl) (HP.fact 0 rfl) (HP.at_ 6 rfl) (HP.at_ 3 rfl) (str1 (HP.at_ 1 rfl)) (str1 (HP.at_ 0 rfl))) ?_
      rintro e w_32 ⟨A1, k1, u1, g1, tk1, B1, d1, rfl, hch1, hal1, hrw1, hnw1, hbx, hgr⟩
      refine ⟨_, rfl, ?_⟩
      intro a H
      have HP := (HP.changedRow 3 rfl (flat chC [chN c u1 g1 tk1] ++ rests) [bx b_30 9 [(.string (bstr tp))] true, bx b_28 9 [(.string (bstr s1))] true, bx b_11 55 [(ii it1), (ii ix1)] true, bx cs 115 (flat chC [chN c u1 g1 tk1] ++ rests) true, bx b_16 76 [(ii 3), (ii i), (ii 9), (ii X.item), (ii i), (.bool ((X.pics.getD i picZ).key)), (.string (bstr ((X.pics.getD i picZ).str))), (ii 255), (ii 1000), (.string (bstr ([64, 0, 0]))), (ii 0), (ii 0), (.slice none 0 0)] true, bx b_6 91 [(ii X.item), (.slice X.A X.pics.length X.c)] true, bx bs 111 [(.slice (some ⟨cs, 0, none⟩) 1 kcs), (.slice Ss ls.length kSs), (.bool true), (ii i), (ii 5)] true] (by kernel_rfl) hgr hbx hrw1 hnw1)
      obtain ⟨bu1, ou1, hAu1⟩ := row_at unC_size hrw1
      obtain ⟨hku1, hkp2⟩ := keep_step hli hfi hpx hix (by omega) hc hkp hsn1 htp hch1
      refine ⟨.inr (((((HP.tail rfl).tail rfl).tail rfl).tail rfl).untop), ?_⟩
      refine An.go H (.inr (((((HP.tail rfl).tail rfl).tail rfl).tail rfl).untop)) 0 [17] [(21, (.slice A1 1 k1))] [] fun a H => ?_
      refine An.done (by kernel_rfl) ?_
      refine ztn (zsq ?_)
      refine An.start (fun v => Hp w v [bx b_30 9 [(.string (bstr tp))] true, bx b_28 9 [(.string (bstr s1))] true, bx b_11 55 [(ii it1), (ii ix1)] true, bx cs 115 (flat chC [chN c u1 g1 tk1] ++ rests) true, bx b_16 76 [(ii 3), (ii i), (ii 9), (ii X.item), (ii i), (.bool ((X.pics.getD i picZ).key)), (.string (bstr ((X.pics.getD i picZ).str))), (ii 255), (ii 1000), (.string (bstr ([64, 0, 0]))), (ii 0), (ii 0), (.slice none 0 0)] true, bx b_6 91 [(ii X.item), (.slice X.A X.pics.length X.c)] true, bx bs 111 [(.slice (some ⟨cs, 0, none⟩) 1 kcs), (.slice Ss ls.length kSs), (.bool true), (ii i), (ii 5)] true] [rowF 13 unC A1 [uv u1 B1 d1], astsK Ss ls, rowF 13 plnC AP [(pl0 I0 i0)], itsK [(pl0 I0 i0), (pl1 I1 i1)], astsK LA li, laidK, rowF 4 ar4 AL l, rowF 1 i1C XA xs]) 11 11 HP wide_follows rfl fun w_33 HP => ?_
      refine An.go H (.inr (HP)) 6 [0, 1, 2, 3, 4] [(131, (.bool false)), (132, (.slice A1 1 k1))] [] fun a H => ?_
      refine An.q H (.inr (HP)) 5 133 (.pointer (some ⟨bu1, ou1 + 0 * 13, none⟩)) (fun _ => ex_indexA (b := bu1) (off := ou1) (len := 1) (cap := k1) (e := 76) (k := 13) (ik := .i64) (i := 0) (m := 0) hAu1 (by kernel_rfl) (by kernel_rfl) rfl (by decide) (by kernel_rfl) (by kernel_rfl)) fun a H => ?_
      refine An.vw H (HP) 6 134 (.agg #[(ii u1.channel), (ii u1.frame), (ii u1.version), (ii u1.item), (ii u1.index), (.bool u1.key), (.string (bstr u1.data)), (ii u1.regions), (ii u1.gain), (.string (bstr u1.caption)), (ii u1.os), (ii u1.of), (.slice B1 0 d1)]) (fun _ hS => ex_lN [(ii u1.channel), (ii u1.frame), (ii u1.version), (ii u1.item), (ii u1.index), (.bool u1.key), (.string (bstr u1.data)), (ii u1.regions), (ii u1.gain), (.string (bstr u1.caption)), (ii u1.os), (ii u1.of), (.slice B1 0 d1)] (IsRow.cells unC_size (hS.fact 0 rfl : IsRow 13 unC _ A1 [uv u1 B1 d1]) hAu1 (i := 0) (x := uv u1 B1 d1) rfl)) fun a H => ?_
      refine An.go H (.inr (HP)) 3 [7] [(135, (.agg #[(ii 3), (ii i), (ii 9), (ii X.item), (ii i), (.bool ((X.pics.getD i picZ).key)), (.string (bstr ((X.pics.getD i picZ).str))), (ii 255), (ii 1000), (.string (bstr ([64, 0, 0]))), (ii 0), (ii 0), (.slice none 0 0)]))] [4] fun a H => ?_
      refine An.one 8 (by kernel_rfl) ?_
      refine Op.call H 136 rfl (by kernel_rfl) (Eq.trans (by kernel_rfl : _ = (callFunc 24 #[(.agg #[(ii u1.channel), (ii u1.frame), (ii u1.version), (ii u1.item), (ii u1.index), (.bool u1.key), (.string (bstr u1.data)), (ii u1.regions), (ii u1.gain), (.string (bstr u1.caption)), (ii u1.os), (ii u1.of), (.slice B1 0 d1)]), (.agg #[(ii 3), (ii i), (ii 9), (ii X.item), (ii i), (.bool ((X.pics.getD i picZ).key)), (.string (bstr ((X.pics.getD i picZ).str))), (ii 255), (ii 1000), (.string (bstr ([64, 0, 0]))), (ii 0), (ii 0), (.slice none 0 0)])]).run Tryz.prog w_33) (Tryz.call24 _ _)) ((by have hh := rusame_any (uv u1 B1 d1) (keepU X i) w_33 (alts_uv _ _ _) (alts_nil _ _) (Nat.zero_le _); rw [keep_same hku1] at hh; exact hh)) ?_
      rintro e w_34 ⟨rfl, hb⟩
      refine ⟨_, rfl, ?_⟩
      intro a H
      have HP := HP.next hb
      refine ⟨.inr (HP), ?_⟩
      refine An.go H (.inr (HP)) 0 [9, 10] [(138, (.bool false))] [] fun a H => ?_
      refine An.done (by kernel_rfl) ?_
      refine ztn ?_
      refine w_iff H rfl ?_
      refine zsk (zibn (ztn (zrg ?_)))
      refine H.go HP 1 [(70, (ii i))] [] fun a H => H.wi 71 ((i : Int) + 1) fun a H => ?_
      refine H.ge HP [(17, (ii ((i : Int) + 1)))] [] fun a H => ?_
      refine ztn ?_
      have H := H.as 17 (ii ((i + 1 : Nat) : Int)) rfl rfl
      refine ⟨_, ?_, i + 1, true, (i : Int), 5, (chN c u1 g1 tk1), it1, ix1, rfl, H.keep (by kernel_rfl), (HP.subw [5, 2, 6, 3] [bx b_6 91 [(ii X.item), (.slice X.A X.pics.length X.c)] true, bx b_11 55 [(ii it1), (ii ix1)] true, bx bs 111 [(.slice (some ⟨cs, 0, none⟩) 1 kcs), (.slice Ss ls.length kSs), (.bool true), (ii i), (ii 5)] true, bx cs 115 (flat chC [chN c u1 g1 tk1] ++ rests) true] (by kernel_rfl) (by kernel_rfl)).untop, (by omega), (by omega), (beat_more hbo2), (hch1.ok hc), (by omega), (.inr (by omega)), hkp2⟩
      omega
     refine Op.alloc H HP 126 (fun b => (.slice (some ⟨b, 0, none⟩) 1 1)) 9 [(.string (bstr tp))] rfl (by kernel_rfl) (fun w => by kernel_rfl) fun b_35 w_36 a H HP => ?_
     refine ⟨.inr ((((HP.tail rfl).tail rfl).tail rfl)), ?_⟩
     refine An.one 13 (by kernel_rfl) ?_
     refine Op.alloc H HP 124 (fun b => (.slice (some ⟨b, 0, none⟩) 1 1)) 9 [(.string (bstr s1))] rfl (by kernel_rfl) (fun w => by kernel_rfl) fun b_37 w_38 a H HP => ?_
     refine ⟨.inr (((((HP.tail rfl).tail rfl).tail rfl).tail rfl)), ?_⟩
     refine An.one 16 (by kernel_rfl) ?_
     refine Op.call H 127 rfl (by kernel_rfl) (Eq.trans (by kernel_rfl : _ = (callFunc 20 #[(pt bs 0), (ii i), (.slice (some ⟨b_37, 0, none⟩) 1 1), (.slice (some ⟨b_35, 0, none⟩) 1 1)]).run Tryz.prog w_38) (Tryz.call20 _ _)) (chooseL1 bs cs kcs kSs Ss h1s true (i : Int) 5 (i : Int) rests c hc (some ⟨b_37, 0, none⟩) (some ⟨b_35, 0, none⟩) 1 1 [s1] [tp] w_38 (rows_ok hsn1.ok) (rows_ok (keep_sent htp)) (by omega) (by omega) (HP.ne 6 3 rfl rfl (by decide)) (HP.factNo 0 3 rfl rfl) (HP.ge2 4 3 rfl rfl) (rowFp_ne (HP.ne 0 3 rfl rfl (by decide))) (rowFp_ne (HP.ne 1 3 rfl rfl (by decide))) (HP.fact 4 rfl) (HP.fact 0 rfl) (HP.at_ 6 rfl) (HP.at_ 3 rfl) (str1 (HP.at_ 0 rfl)) (str1 (HP.at_ 1 rfl))) ?_
     rintro e w_39 ⟨A2, k2, u2, g2, tk2, B2, d2, rfl, hch2, hal2, hrw2, hnw2, hbx, hgr⟩
     refine ⟨_, rfl, ?_⟩
     intro a H
     have HP := (HP.changedRow 3 rfl (flat chC [chN c u2 g2 tk2] ++ rests) [bx b_37 9 [(.string (bstr s1))] true, bx b_35 9 [(.string (bstr tp))] true, bx b_11 55 [(ii it1), (ii ix1)] true, bx cs 115 (flat chC [chN c u2 g2 tk2] ++ rests) true, bx b_16 76 [(ii 3), (ii i), (ii 9), (ii X.item), (ii i), (.bool ((X.pics.getD i picZ).key)), (.string (bstr ((X.pics.getD i picZ).str))), (ii 255), (ii 1000), (.string (bstr ([64, 0, 0]))), (ii 0), (ii 0), (.slice none 0 0)] true, bx b_6 91 [(ii X.item), (.slice X.A X.pics.length X.c)] true, bx bs 111 [(.slice (some ⟨cs, 0, none⟩) 1 kcs), (.slice Ss ls.length kSs), (.bool true), (ii i), (ii 5)] true] (by kernel_rfl) hgr hbx hrw2 hnw2)
     obtain ⟨bu2, ou2, hAu2⟩ := row_at unC_size hrw2
     obtain ⟨hku2, hkp2⟩ := keep_step hli hfi hpx hix (by omega) hc hkp hsn1 htp hch2
     refine ⟨.inr (((((HP.tail rfl).tail rfl).tail rfl).tail rfl).untop), ?_⟩
     refine An.go H (.inr (((((HP.tail rfl).tail rfl).tail rfl).tail rfl).untop)) 0 [17] [(21, (.slice A2 1 k2))] [] fun a H => ?_
     refine An.done (by kernel_rfl) ?_
     refine ztn (zsq ?_)
     refine An.start (fun v => Hp w v [bx b_37 9 [(.string (bstr s1))] true, bx b_35 9 [(.string (bstr tp))] true, bx b_11 55 [(ii it1), (ii ix1)] true, bx cs 115 (flat chC [chN c u2 g2 tk2] ++ rests) true, bx b_16 76 [(ii 3), (ii i), (ii 9), (ii X.item), (ii i), (.bool ((X.pics.getD i picZ).key)), (.string (bstr ((X.pics.getD i picZ).str))), (ii 255), (ii 1000), (.string (bstr ([64, 0, 0]))), (ii 0), (ii 0), (.slice none 0 0)] true, bx b_6 91 [(ii X.item), (.slice X.A X.pics.length X.c)] true, bx bs 111 [(.slice (some ⟨cs, 0, none⟩) 1 kcs), (.slice Ss ls.length kSs), (.bool true), (ii i), (ii 5)] true] [rowF 13 unC A2 [uv u2 B2 d2], astsK Ss ls, rowF 13 plnC AP [(pl0 I0 i0)], itsK [(pl0 I0 i0), (pl1 I1 i1)], astsK LA li, laidK, rowF 4 ar4 AL l, rowF 1 i1C XA xs]) 11 11 HP wide_follows rfl fun w_40 HP => ?_
     refine An.go H (.inr (HP)) 6 [0, 1, 2, 3, 4] [(131, (.bool false)), (132, (.slice A2 1 k2))] [] fun a H => ?_
     refine An.q H (.inr (HP)) 5 133 (.pointer (some ⟨bu2, ou2 + 0 * 13, none⟩)) (fun _ => ex_indexA (b := bu2) (off := ou2) (len := 1) (cap := k2) (e := 76) (k := 13) (ik := .i64) (i := 0) (m := 0) hAu2 (by kernel_rfl) (by kernel_rfl) rfl (by decide) (by kernel_rfl) (by kernel_rfl)) fun a H => ?_
     refine An.vw H (HP) 6 134 (.agg #[(ii u2.channel), (ii u2.frame), (ii u2.version), (ii u2.item), (ii u2.index), (.bool u2.key), (.string (bstr u2.data)), (ii u2.regions), (ii u2.gain), (.string (bstr u2.caption)), (ii u2.os), (ii u2.of), (.slice B2 0 d2)]) (fun _ hS => ex_lN [(ii u2.channel), (ii u2.frame), (ii u2.version), (ii u2.item), (ii u2.index), (.bool u2.key), (.string (bstr u2.data)), (ii u2.regions), (ii u2.gain), (.string (bstr u2.caption)), (ii u2.os), (ii u2.of), (.slice B2 0 d2)] (IsRow.cells unC_size (hS.fact 0 rfl : IsRow 13 unC _ A2 [uv u2 B2 d2]) hAu2 (i := 0) (x := uv u2 B2 d2) rfl)) fun a H => ?_
     refine An.go H (.inr (HP)) 3 [7] [(135, (.agg #[(ii 3), (ii i), (ii 9), (ii X.item), (ii i), (.bool ((X.pics.getD i picZ).key)), (.string (bstr ((X.pics.getD i picZ).str))), (ii 255), (ii 1000), (.string (bstr ([64, 0, 0]))), (ii 0), (ii 0), (.slice none 0 0)]))] [4] fun a H => ?_
     refine An.one 8 (by kernel_rfl) ?_
     refine Op.call H 136 rfl (by kernel_rfl) (Eq.trans (by kernel_rfl : _ = (callFunc 24 #[(.agg #[(ii u2.channel), (ii u2.frame), (ii u2.version), (ii u2.item), (ii u2.index), (.bool u2.key), (.string (bstr u2.data)), (ii u2.regions), (ii u2.gain), (.string (bstr u2.caption)), (ii u2.os), (ii u2.of), (.slice B2 0 d2)]), (.agg #[(ii 3), (ii i), (ii 9), (ii X.item), (ii i), (.bool ((X.pics.getD i picZ).key)), (.string (bstr ((X.pics.getD i picZ).str))), (ii 255), (ii 1000), (.string (bstr ([64, 0, 0]))), (ii 0), (ii 0), (.slice none 0 0)])]).run Tryz.prog w_40) (Tryz.call24 _ _)) ((by have hh := rusame_any (uv u2 B2 d2) (keepU X i) w_40 (alts_uv _ _ _) (alts_nil _ _) (Nat.zero_le _); rw [keep_same hku2] at hh; exact hh)) ?_
     rintro e w_41 ⟨rfl, hb⟩
     refine ⟨_, rfl, ?_⟩
     intro a H
     have HP := HP.next hb
     refine ⟨.inr (HP), ?_⟩
     refine An.go H (.inr (HP)) 0 [9, 10] [(138, (.bool false))] [] fun a H => ?_
     refine An.done (by kernel_rfl) ?_
     refine ztn ?_
     refine w_iff H rfl ?_
     refine zsk (zibn (ztn (zrg ?_)))
     refine H.go HP 1 [(70, (ii i))] [] fun a H => H.wi 71 ((i : Int) + 1) fun a H => ?_
     refine H.ge HP [(17, (ii ((i : Int) + 1)))] [] fun a H => ?_
     refine ztn ?_
     have H := H.as 17 (ii ((i + 1 : Nat) : Int)) rfl rfl
     refine ⟨_, ?_, i + 1, true, (i : Int), 5, (chN c u2 g2 tk2), it1, ix1, rfl, H.keep (by kernel_rfl), (HP.subw [5, 2, 6, 3] [bx b_6 91 [(ii X.item), (.slice X.A X.pics.length X.c)] true, bx b_11 55 [(ii it1), (ii ix1)] true, bx bs 111 [(.slice (some ⟨cs, 0, none⟩) 1 kcs), (.slice Ss ls.length kSs), (.bool true), (ii i), (ii 5)] true, bx cs 115 (flat chC [chN c u2 g2 tk2] ++ rests) true] (by kernel_rfl) (by kernel_rfl)).untop, (by omega), (by omega), (beat_more hbo2), (hch2.ok hc), (by omega), (.inr (by omega)), hkp2⟩
     omega
    refine Op.alloc H HP 126 (fun b => (.slice (some ⟨b, 0, none⟩) 1 1)) 9 [(.string (bstr tp))] rfl (by kernel_rfl) (fun w => by kernel_rfl) fun b_42 w_43 a H HP => ?_
    refine ⟨.inr ((((HP.tail rfl).tail rfl).tail rfl)), ?_⟩
    refine An.one 12 (by kernel_rfl) ?_
    refine Op.call H 123 rfl (by kernel_rfl) (Eq.trans (by kernel_rfl : _ = (callFunc 19 #[(pt b_11 0), (.agg #[(ii 3), (ii 50), (ii 1), (ii 0), (.slice none 0 0), (ii 0), (ii 2), (ii 500), (ii 1), (.slice I0 3 i0), (.slice none 0 0), (.slice none 0 0), (.slice none 0 0)]), (.slice LA li.length lc), (ii i), (.agg #[(ii (q 0)), (ii (q 1)), (ii (q 2)), (ii (q 3))])]).run Tryz.prog w_43) (Tryz.call19 _ _)) (sent0_any b_11 0 lc (pl0 I0 i0) LA li (i : Int) (q 0) (q 1) (q 2) (q 3) t0 x0 [] [] w_43 rfl (by omega) pl0_ok1.1 (hqi 0) (hqi 1) (hqi 2) (hqi 3) (by omega) (by omega) (HP.factNo 3 1 rfl rfl) (HP.ge2 4 1 rfl rfl) (HP.fact 4 rfl) (HP.fact 3 rfl) hli.max hli.pl hli.dl (HP.at_ 1 rfl)) ?_
    rintro e w_44 ⟨s2, it2, ix2, rfl, hsn2, hit2, hix2, hbx, hgr⟩
    refine ⟨_, rfl, ?_⟩
    intro a H
    have HP := (HP.changed 1 rfl [(ii it2), (ii ix2)] [bx b_42 9 [(.string (bstr tp))] true, bx b_11 55 [(ii it2), (ii ix2)] true, bx cs 115 (flat chC [c] ++ rests) true, bx b_16 76 [(ii 3), (ii i), (ii 9), (ii X.item), (ii i), (.bool ((X.pics.getD i picZ).key)), (.string (bstr ((X.pics.getD i picZ).str))), (ii 255), (ii 1000), (.string (bstr ([64, 0, 0]))), (ii 0), (ii 0), (.slice none 0 0)] true, bx b_6 91 [(ii X.item), (.slice X.A X.pics.length X.c)] true, bx bs 111 [(.slice (some ⟨cs, 0, none⟩) 1 kcs), (.slice Ss ls.length kSs), (.bool true), (ii i), (ii 5)] true] (by kernel_rfl) hgr hbx)
    refine ⟨.inr ((((HP.tail rfl).tail rfl).tail rfl)), ?_⟩
    refine An.one 13 (by kernel_rfl) ?_
    refine Op.alloc H HP 124 (fun b => (.slice (some ⟨b, 0, none⟩) 1 1)) 9 [(.string (bstr s2))] rfl (by kernel_rfl) (fun w => by kernel_rfl) fun b_45 w_46 a H HP => ?_
    refine ⟨.inr (((((HP.tail rfl).tail rfl).tail rfl).tail rfl)), ?_⟩
    refine An.one 16 (by kernel_rfl) ?_
    refine Op.call H 127 rfl (by kernel_rfl) (Eq.trans (by kernel_rfl : _ = (callFunc 20 #[(pt bs 0), (ii i), (.slice (some ⟨b_45, 0, none⟩) 1 1), (.slice (some ⟨b_42, 0, none⟩) 1 1)]).run Tryz.prog w_46) (Tryz.call20 _ _)) (chooseL1 bs cs kcs kSs Ss h1s true (i : Int) 5 (i : Int) rests c hc (some ⟨b_45, 0, none⟩) (some ⟨b_42, 0, none⟩) 1 1 [s2] [tp] w_46 (rows_ok hsn2.ok) (rows_ok (keep_sent htp)) (by omega) (by omega) (HP.ne 6 3 rfl rfl (by decide)) (HP.factNo 0 3 rfl rfl) (HP.ge2 4 3 rfl rfl) (rowFp_ne (HP.ne 0 3 rfl rfl (by decide))) (rowFp_ne (HP.ne 1 3 rfl rfl (by decide))) (HP.fact 4 rfl) (HP.fact 0 rfl) (HP.at_ 6 rfl) (HP.at_ 3 rfl) (str1 (HP.at_ 0 rfl)) (str1 (HP.at_ 1 rfl))) ?_
    rintro e w_47 ⟨A3, k3, u3, g3, tk3, B3, d3, rfl, hch3, hal3, hrw3, hnw3, hbx, hgr⟩
    refine ⟨_, rfl, ?_⟩
    intro a H
    have HP := (HP.changedRow 3 rfl (flat chC [chN c u3 g3 tk3] ++ rests) [bx b_45 9 [(.string (bstr s2))] true, bx b_42 9 [(.string (bstr tp))] true, bx b_11 55 [(ii it2), (ii ix2)] true, bx cs 115 (flat chC [chN c u3 g3 tk3] ++ rests) true, bx b_16 76 [(ii 3), (ii i), (ii 9), (ii X.item), (ii i), (.bool ((X.pics.getD i picZ).key)), (.string (bstr ((X.pics.getD i picZ).str))), (ii 255), (ii 1000), (.string (bstr ([64, 0, 0]))), (ii 0), (ii 0), (.slice none 0 0)] true, bx b_6 91 [(ii X.item), (.slice X.A X.pics.length X.c)] true, bx bs 111 [(.slice (some ⟨cs, 0, none⟩) 1 kcs), (.slice Ss ls.length kSs), (.bool true), (ii i), (ii 5)] true] (by kernel_rfl) hgr hbx hrw3 hnw3)
    obtain ⟨bu3, ou3, hAu3⟩ := row_at unC_size hrw3
    obtain ⟨hku3, hkp2⟩ := keep_step hli hfi hpx hix (by omega) hc hkp hsn2 htp hch3
    refine ⟨.inr (((((HP.tail rfl).tail rfl).tail rfl).tail rfl).untop), ?_⟩
    refine An.go H (.inr (((((HP.tail rfl).tail rfl).tail rfl).tail rfl).untop)) 0 [17] [(21, (.slice A3 1 k3))] [] fun a H => ?_
    refine An.done (by kernel_rfl) ?_
    refine ztn (zsq ?_)
    refine An.start (fun v => Hp w v [bx b_45 9 [(.string (bstr s2))] true, bx b_42 9 [(.string (bstr tp))] true, bx b_11 55 [(ii it2), (ii ix2)] true, bx cs 115 (flat chC [chN c u3 g3 tk3] ++ rests) true, bx b_16 76 [(ii 3), (ii i), (ii 9), (ii X.item), (ii i), (.bool ((X.pics.getD i picZ).key)), (.string (bstr ((X.pics.getD i picZ).str))), (ii 255), (ii 1000), (.string (bstr ([64, 0, 0]))), (ii 0), (ii 0), (.slice none 0 0)] true, bx b_6 91 [(ii X.item), (.slice X.A X.pics.length X.c)] true, bx bs 111 [(.slice (some ⟨cs, 0, none⟩) 1 kcs), (.slice Ss ls.length kSs), (.bool true), (ii i), (ii 5)] true] [rowF 13 unC A3 [uv u3 B3 d3], astsK Ss ls, rowF 13 plnC AP [(pl0 I0 i0)], itsK [(pl0 I0 i0), (pl1 I1 i1)], astsK LA li, laidK, rowF 4 ar4 AL l, rowF 1 i1C XA xs]) 11 11 HP wide_follows rfl fun w_48 HP => ?_
    refine An.go H (.inr (HP)) 6 [0, 1, 2, 3, 4] [(131, (.bool false)), (132, (.slice A3 1 k3))] [] fun a H => ?_
    refine An.q H (.inr (HP)) 5 133 (.pointer (some ⟨bu3, ou3 + 0 * 13, none⟩)) (fun _ => ex_indexA (b := bu3) (off := ou3) (len := 1) (cap := k3) (e := 76) (k := 13) (ik := .i64) (i := 0) (m := 0) hAu3 (by kernel_rfl) (by kernel_rfl) rfl (by decide) (by kernel_rfl) (by kernel_rfl)) fun a H => ?_
    refine An.vw H (HP) 6 134 (.agg #[(ii u3.channel), (ii u3.frame), (ii u3.version), (ii u3.item), (ii u3.index), (.bool u3.key), (.string (bstr u3.data)), (ii u3.regions), (ii u3.gain), (.string (bstr u3.caption)), (ii u3.os), (ii u3.of), (.slice B3 0 d3)]) (fun _ hS => ex_lN [(ii u3.channel), (ii u3.frame), (ii u3.version), (ii u3.item), (ii u3.index), (.bool u3.key), (.string (bstr u3.data)), (ii u3.regions), (ii u3.gain), (.string (bstr u3.caption)), (ii u3.os), (ii u3.of), (.slice B3 0 d3)] (IsRow.cells unC_size (hS.fact 0 rfl : IsRow 13 unC _ A3 [uv u3 B3 d3]) hAu3 (i := 0) (x := uv u3 B3 d3) rfl)) fun a H => ?_
    refine An.go H (.inr (HP)) 3 [7] [(135, (.agg #[(ii 3), (ii i), (ii 9), (ii X.item), (ii i), (.bool ((X.pics.getD i picZ).key)), (.string (bstr ((X.pics.getD i picZ).str))), (ii 255), (ii 1000), (.string (bstr ([64, 0, 0]))), (ii 0), (ii 0), (.slice none 0 0)]))] [4] fun a H => ?_
    refine An.one 8 (by kernel_rfl) ?_
    refine Op.call H 136 rfl (by kernel_rfl) (Eq.trans (by kernel_rfl : _ = (callFunc 24 #[(.agg #[(ii u3.channel), (ii u3.frame), (ii u3.version), (ii u3.item), (ii u3.index), (.bool u3.key), (.string (bstr u3.data)), (ii u3.regions), (ii u3.gain), (.string (bstr u3.caption)), (ii u3.os), (ii u3.of), (.slice B3 0 d3)]), (.agg #[(ii 3), (ii i), (ii 9), (ii X.item), (ii i), (.bool ((X.pics.getD i picZ).key)), (.string (bstr ((X.pics.getD i picZ).str))), (ii 255), (ii 1000), (.string (bstr ([64, 0, 0]))), (ii 0), (ii 0), (.slice none 0 0)])]).run Tryz.prog w_48) (Tryz.call24 _ _)) ((by have hh := rusame_any (uv u3 B3 d3) (keepU X i) w_48 (alts_uv _ _ _) (alts_nil _ _) (Nat.zero_le _); rw [keep_same hku3] at hh; exact hh)) ?_
    rintro e w_49 ⟨rfl, hb⟩
    refine ⟨_, rfl, ?_⟩
    intro a H
    have HP := HP.next hb
    refine ⟨.inr (HP), ?_⟩
    refine An.go H (.inr (HP)) 0 [9, 10] [(138, (.bool false))] [] fun a H => ?_
    refine An.done (by kernel_rfl) ?_
    refine ztn ?_
    refine w_iff H rfl ?_
    refine zsk (zibn (ztn (zrg ?_)))
    refine H.go HP 1 [(70, (ii i))] [] fun a H => H.wi 71 ((i : Int) + 1) fun a H => ?_
    refine H.ge HP [(17, (ii ((i : Int) + 1)))] [] fun a H => ?_
    refine ztn ?_
    have H := H.as 17 (ii ((i + 1 : Nat) : Int)) rfl rfl
    refine ⟨_, ?_, i + 1, true, (i : Int), 5, (chN c u3 g3 tk3), it2, ix2, rfl, H.keep (by kernel_rfl), (HP.subw [5, 2, 6, 3] [bx b_6 91 [(ii X.item), (.slice X.A X.pics.length X.c)] true, bx b_11 55 [(ii it2), (ii ix2)] true, bx bs 111 [(.slice (some ⟨cs, 0, none⟩) 1 kcs), (.slice Ss ls.length kSs), (.bool true), (ii i), (ii 5)] true, bx cs 115 (flat chC [chN c u3 g3 tk3] ++ rests) true] (by kernel_rfl) (by kernel_rfl)).untop, (by omega), (by omega), (beat_more hbo2), (hch3.ok hc), (by omega), (.inr (by omega)), hkp2⟩
    omega
   have g69p := of_decide_eq_false g69
   refine wp_exit (then_exit (then_exit ?_))
   refine w_exit_here ?_
   refine ztn (zsq (zrg ?_))
   refine H.ge HP [(6, (.bool true))] [] fun a H => ?_
   refine ztn (zrt ?_)
   refine H.r1 (.bool true) Tryz.results8 ?_
   exact ⟨rfl, HP.bl⟩
  have g66p := of_decide_eq_false g66
  refine H.ge HP [(69, (.bool false))] [] fun a H => ?_
  refine ztn ?_
  refine w_iff H rfl ?_
  refine wp_exit (then_exit (then_exit ?_))
  refine w_exit_here ?_
  refine ztn (zsq (zrg ?_))
  refine H.ge HP [(6, (.bool true))] [] fun a H => ?_
  refine ztn (zrt ?_)
  refine H.r1 (.bool true) Tryz.results8 ?_
  exact ⟨rfl, HP.bl⟩
 have g60p := of_decide_eq_false g60
 refine H.ge HP [(69, (.bool false))] [] fun a H => ?_
 refine ztn ?_
 refine w_iff H rfl ?_
 refine wp_exit (then_exit (then_exit ?_))
 refine w_exit_here ?_
 refine ztn (zsq (zrg ?_))
 refine H.ge HP [(6, (.bool true))] [] fun a H => ?_
 refine ztn (zrt ?_)
 refine H.r1 (.bool true) Tryz.results8 ?_
 exact ⟨rfl, HP.bl⟩
open Go.Deep
structure Op (P : Program) (t : TypeId) (α : Type) where
  size : Nat
  cells : α → List Value
  ok : World → α → Prop
  csize : P.cellsOf t = size
  len : ∀ a, (cells a).length = size
  opens : ∀ {H : Type} {enc : TypeId × Value → H} {w : World} {base : Nat} {held : Bool} {fuel : Nat} {cs : List Value} {x : DataW H × List MemPlace},
    DataW.trod enc P w base (fun _ => true) held fuel t cs = some x → (∀ n ∈ x.1.weights P t, n ≤ reachBytes) → ∃ a, cs = cells a ∧ ok w a
structure SlA (α : Type) where
  A : Option Addr
  c : Nat
  l : List α
section
variable {P : Program} {t e : TypeId} {α β : Type}
noncomputable def opInt (k : IntKind) (hu : P.underlying t = some (.int k)) (hc : P.cellsOf t = 1) : Op P t Int where
  size := 1
  cells n := [.int k n]
  ok _ n := (Lit.int k n).wf = true
  csize := hc
  len _ := rfl
  opens h _ := by
    obtain ⟨n, rfl, rfl, hw⟩ := DataW.trod_int hu h
    exact ⟨n, rfl, hw⟩
theorem weightsAll_mem {H : Type} {d : DataW H} {l : List (DataW H)} (h : d ∈ l) : ∀ n ∈ d.weights P e, n ∈ DataW.weightsAll P e l := by
  induction l with
  | nil => cases h
  | cons y l ih =>
    intro n hn
    rw [DataW.weightsAll]
    rcases List.mem_cons.1 h with rfl | h
    · exact List.mem_append_left _ hn
    · exact List.mem_append_right _ (ih h n hn)
theorem choose_list {Q : Nat → α → Prop} : ∀ n : Nat, (∀ i, i < n → ∃ a, Q i a) → ∃ l : List α, l.length = n ∧ ∀ i a, l[i]? = some a → Q i a := by
  intro n
  induction n with
  | zero => intro _; exact ⟨[], rfl, by simp⟩
  | succ n ih =>
    intro h
    obtain ⟨l, hl, hq⟩ := ih (fun i hi => h i (by omega))
    obtain ⟨a, ha⟩ := h n (by omega)
    refine ⟨l ++ [a], by simp [hl], fun i b hb => ?_⟩
    by_cases hi : i < l.length
    · rw [List.getElem?_append_left hi] at hb
      exact hq i b hb
    · rw [List.getElem?_append_right (by omega)] at hb
      have h0 : i - l.length = 0 := by
        have := (List.getElem?_eq_some_iff.1 hb).1
        simp at this
        omega
      rw [h0] at hb
      simp at hb
      subst hb
      obtain rfl : i = n := by omega
      exact ha
theorem flatO_get {f : α → List Value} {s : Nat} (hf : ∀ a, (f a).length = s) : ∀ (l : List α) (i j : Nat) (a : α), l[i]? = some a → j < s → (l.flatMap f)[i * s + j]? = (f a)[j]? := by
  intro l
  induction l with
  | nil => intro i j a h; simp at h
  | cons y l ih =>
    intro i j a h hj
    cases i with
    | zero =>
      simp at h
      subst h
      simp only [List.flatMap_cons, Nat.zero_mul, Nat.zero_add]
      rw [List.getElem?_append_left (by rw [hf]; exact hj)]
    | succ i =>
      simp only [List.flatMap_cons]
      rw [List.getElem?_append_right (by rw [hf, Nat.add_mul]; omega), hf, show (i + 1) * s + j - s = i * s + j by rw [Nat.add_mul]; omega]
      exact ih i j a (by simpa using h) hj
theorem flatO_len {f : α → List Value} {s : Nat} (hf : ∀ a, (f a).length = s) : ∀ l : List α, (l.flatMap f).length = l.length * s := by
  intro l
  induction l with
  | nil => simp
  | cons y l ih => simp only [List.flatMap_cons, List.length_append, List.length_cons, ih, hf, Nat.add_mul]; omega
theorem rd_of_cells {w : World} {a : Addr} {s : Nat} {f : α → List Value} (hf : ∀ x, (f x).length = s) (hs : 0 < s) {l : List α}
    (h : ∀ i x, l[i]? = some x → ∀ j, j < s → w.cell? ((a.add (i * s)).add j) = (f x)[j]?) : Rd w s (some a) l.length (l.flatMap f) := by
  refine ⟨flatO_len hf l, ?_⟩
  by_cases hn : l.length = 0
  · exact .inl hn
  · have hl : 0 < l.length := by omega
    have h0 := h 0 l[0] (List.getElem?_eq_getElem hl) 0 hs
    have hv : ∃ v, (f l[0])[0]? = some v := ⟨_, List.getElem?_eq_getElem (by rw [hf]; exact hs)⟩
    obtain ⟨v, hv⟩ := hv
    rw [hv] at h0
    have hsp : a.spot = none := by
      unfold World.cell? at h0
      split at h0
      · by_cases hs : a.spot.isSome = true
        · simp [Addr.add, hs] at h0
        · simpa using hs
      · simp at h0
    obtain ⟨b, off, sp⟩ := a
    simp only at hsp
    subst hsp
    have e0 : (((⟨b, off, none⟩ : Addr).add (0 * s)).add 0) = ⟨b, off, none⟩ := by simp [Addr.add]
    rw [e0] at h0
    refine .inr ⟨b, off, rfl, World.block_lt_of_cell? w _ h0, fun i hi => ?_⟩
    have hq : i / s < l.length := Nat.div_lt_of_lt_mul (by rw [Nat.mul_comm]; exact hi)
    have hm : i % s < s := Nat.mod_lt _ hs
    have hx := h (i / s) l[i / s] (List.getElem?_eq_getElem hq) (i % s) hm
    have hg := flatO_get hf l (i / s) (i % s) _ (List.getElem?_eq_getElem hq) hm
    have hi2 : i / s * s + i % s = i := by rw [Nat.mul_comm]; exact Nat.div_add_mod i s
    rw [hi2] at hg
    rw [hg, ← hx]
    congr 1
    simp only [Addr.add]
    split <;> split <;> simp <;> omega
noncomputable def opSlice (o : Op P e α) (bytes : Nat) (hu : P.underlying t = some (.slice e)) (hb : P.bytesOf e = bytes) (hc : P.cellsOf t = 1) (hs : 0 < o.size) : Op P t (SlA α) where
  size := 1
  cells s := [.slice s.A s.l.length s.c]
  ok w s := Rd w o.size s.A s.l.length (s.l.flatMap o.cells) ∧ (∀ a ∈ s.l, o.ok w a) ∧ s.l.length ≤ s.c ∧ s.c ≤ maxLen ∧ (s.A = none → s.c = 0) ∧ s.c * bytes ≤ reachBytes
  csize := hc
  len _ := rfl
  opens {H enc w base held fuel cs x} h hw := by
    rcases open_slice hu h with ⟨rfl, rfl⟩ | ⟨a, len, cap, m, n, D, Pl, rfl, hba, hl, hm, hmm, rfl, hi⟩
    · exact ⟨⟨none, 0, []⟩, rfl, Rd.nil _ _ _, by simp, Nat.le_refl _, Nat.zero_le _, fun _ => rfl, by simp⟩
    · simp only [if_true] at hmm
      subst hmm
      have hwt : ∀ k ∈ ((len + (m - len)) * bytes) :: DataW.weightsAll P e ((List.range len).map D), k ≤ reachBytes := by
        intro k hk
        simp only [DataW.weights, hu, hb] at hw
        rcases List.mem_cons.1 hk with rfl | hk
        · exact hw _ (by simp)
        · exact hw k (by simp [hk])
      obtain ⟨l, hll, hq⟩ := choose_list (Q := fun i x => (∀ j, j < o.size → w.cell? ((a.add (i * o.size)).add j) = (o.cells x)[j]?) ∧ o.ok w x) len (fun i hi' => by
        obtain ⟨cs', hcs, htr⟩ := hi i (by omega)
        obtain ⟨x, rfl, hok⟩ := o.opens htr (fun k hk => hwt k (List.mem_cons_of_mem _ (weightsAll_mem (d := D i) (List.mem_map.2 ⟨i, by simpa using hi', rfl⟩) k hk)))
        rw [o.csize] at hcs
        obtain ⟨_, _, hat⟩ := World.cells?_some hcs
        exact ⟨x, hat, hok⟩)
      subst hll
      refine ⟨⟨some a, m, l⟩, rfl, rd_of_cells o.len hs (fun i x hx => (hq i x hx).1), fun x hx => ?_, hl, hm, (fun h => by cases h), ?_⟩
      · obtain ⟨i, hi', hx'⟩ := List.getElem_of_mem hx
        exact (hq i x (by rw [List.getElem?_eq_getElem hi', hx'])).2
      · have := hwt _ (List.mem_cons_self ..)
        rwa [Nat.add_sub_cancel' hl] at this
noncomputable def opMap (o : Op P t α) (f : α → β) (cells' : β → List Value) (ok' : World → β → Prop) (h1 : ∀ a, o.cells a = cells' (f a)) (h2 : ∀ w a, o.ok w a → ok' w (f a)) (h3 : ∀ b, (cells' b).length = o.size) : Op P t β where
  size := o.size
  cells := cells'
  ok := ok'
  csize := o.csize
  len := h3
  opens h hw := by
    obtain ⟨a, ha, hok⟩ := o.opens h hw
    exact ⟨f a, by rw [ha, h1], h2 _ _ hok⟩
end
theorem flat_range_take {cs : List Value} {n s : Nat} (h : cs.length = n * s) : (List.range n).flatMap (fun i => (cs.drop (i * s)).take s) = cs := by
  induction n generalizing cs with
  | zero => simp at h; subst h; rfl
  | succ n ih =>
    rw [List.range_succ_eq_map, List.flatMap_cons, List.flatMap_map, Nat.zero_mul, List.drop_zero]
    have hl : (cs.drop s).length = n * s := by rw [List.length_drop, h, Nat.succ_mul]; omega
    have := ih hl
    simp only [List.drop_drop] at this
    have e : (fun i => (cs.drop (i.succ * s)).take s) = fun i => (cs.drop (s + i * s)).take s := by
      funext i; rw [Nat.succ_mul, Nat.add_comm]
    rw [e, this, List.take_append_drop]
theorem flat_range_len {f : Nat → List Value} {s : Nat} (hf : ∀ a, (f a).length = s) (n : Nat) : ((List.range n).flatMap f).length = n * s := by
  rw [flatO_len (f := f) hf, List.length_range]
section
variable {P : Program} {t e : TypeId} {α β : Type}
noncomputable def opArr (o : Op P e α) (n : Nat) (hn : 0 < n) (hu : P.underlying t = some (.array n e)) (hc : P.cellsOf t = n * o.size) : Op P t (Nat → α) where
  size := n * o.size
  cells f := (List.range n).flatMap fun i => o.cells (f i)
  ok w f := ∀ i, o.ok w (f i)
  csize := hc
  len f := flat_range_len (fun i => o.len (f i)) n
  opens {H enc w base held fuel cs x} h hw := by
    obtain ⟨xs, m, _, rfl, hcl, hxl, hf⟩ := DataW.trod_array hu h
    have hwt : ∀ k ∈ DataW.weightsAll P e (xs.map (·.1)), k ≤ reachBytes := fun k hk => hw k (by simpa [DataW.weights, hu] using hk)
    obtain ⟨l, hll, hq⟩ := choose_list (Q := fun i a => (cs.drop (i * o.size)).take o.size = o.cells a ∧ o.ok w a) n (fun i hi => by
      have g := hf i hi
      rw [o.csize] at g
      rw [List.getElem?_eq_getElem (by omega)] at g
      obtain ⟨a, ha, hok⟩ := o.opens g (fun k hk => hwt k (weightsAll_mem (List.mem_map.2 ⟨xs[i]'(by omega), List.getElem_mem _, rfl⟩) k hk))
      exact ⟨a, ha, hok⟩)
    have h0 : 0 < l.length := by omega
    refine ⟨fun i => l.getD i l[0], ?_, fun i => ?_⟩
    · rw [hc] at hcl
      conv => lhs; rw [← flat_range_take hcl]
      have key : ∀ i ∈ List.range n, (cs.drop (i * o.size)).take o.size = o.cells (l.getD i l[0]) := by
        intro i hi
        have hi' : i < l.length := by rw [List.mem_range] at hi; omega
        have := (hq i l[i] (List.getElem?_eq_getElem hi')).1
        rw [this]
        simp [List.getD, List.getElem?_eq_getElem hi']
      rw [List.flatMap_def, List.flatMap_def, List.map_congr_left key]
    · by_cases hi : i < l.length
      · have := (hq i l[i] (List.getElem?_eq_getElem hi)).2
        simpa [List.getD, List.getElem?_eq_getElem hi] using this
      · have := (hq 0 l[0] (List.getElem?_eq_getElem h0)).2
        simpa [List.getD, List.getElem?_eq_none (by omega : l.length ≤ i)] using this
end
theorem in64_of {n : Int} (h : (Lit.int .i64 n).wf = true) : in64 n := by
  unfold in64
  simp [Lit.wf, IntKind.min, IntKind.max, IntKind.signed, IntKind.bits] at h
  omega
noncomputable def opI0 : Op Tryz.prog 3 Int := opInt .i64 Tryz.underlying3 (by kernel_rfl)
noncomputable def opI : Op Tryz.prog 3 Int := opMap opI0 id (fun a => (i1C a).toList) (fun _ a => in64 a) (fun a => rfl) (fun w a h => in64_of h) (fun _ => rfl)
noncomputable def op4 : Op Tryz.prog 52 (Nat → Int) := opMap (opArr opI0 4 (by decide) Tryz.underlying52 (by kernel_rfl)) (fun f k => f (min k 3)) (fun a => (ar4 a).toList) (fun _ a => ∀ k, in64 (a k)) (fun a => rfl) (fun w a h => fun k => in64_of (h _)) (fun _ => rfl)
noncomputable def opInts : Op Tryz.prog 22 (SlA Int) := opSlice opI 8 Tryz.underlying22 (by kernel_rfl) (by kernel_rfl) (by decide)
noncomputable def op4s : Op Tryz.prog 88 (SlA (Nat → Int)) := opSlice op4 32 Tryz.underlying88 (by kernel_rfl) (by kernel_rfl) (by decide)
structure RowOk {α : Type} (k : Nat) (cs : α → Array Value) (w : World) (s : SlA α) (ok : α → Prop) (most : Nat) : Prop where
  row : IsRow k cs w s.A s.l
  all : ∀ a ∈ s.l, ok a
  len : s.l.length ≤ most
theorem ints_ok {w : World} {s : SlA Int} (h : opInts.ok w s) : RowOk 1 i1C w s in64 1000000000000000 := by
  obtain ⟨h1, h2, h3, h4, h5, h6⟩ := h
  refine ⟨h1, h2, ?_⟩
  have : s.c * 8 ≤ 140737488351232 := h6
  omega
theorem ar4_ok {w : World} {s : SlA (Nat → Int)} (h : op4s.ok w s) : RowOk 4 ar4 w s (fun q => ∀ k, in64 (q k)) 1000000000000000 := by
  obtain ⟨h1, h2, h3, h4, h5, h6⟩ := h
  refine ⟨h1, h2, ?_⟩
  have : s.c * 32 ≤ 140737488351232 := h6
  omega
end Go.Proofs.YthpbaaadkhdifaaGreatDoor
namespace Go.Proofs.YthpbaaadkhdifaaGreatDoor.selectorKeeps
set_option maxRecDepth 100000
set_option maxHeartbeats 4000000
open Go.ChangeShapes Go.WideShapes Go.ChangeAt Go.RowKit
theorem walk (a0 : SlA Int) (a1 : Int) (a2 : SlA (Nat → Int)) (w : World) (hL : Laid w) (h0 : opInts.ok w a0) (h1 : (Lit.int .i64 a1).wf = true) (h2 : op4s.ok w a2) :
    Calls Tryz.prog 8 #[(opInts.cells a0).headD undef, .int .i64 a1, (op4s.cells a2).headD undef] w fun e w' => e = .returned (.bool true) ∧ Below w.heap.size w w' :=
  keep_law a0.A a0.c a0.l a1 a2.A a2.c a2.l w hL (ints_ok h0).row (ints_ok h0).all (ints_ok h0).len (ar4_ok h2).row (ar4_ok h2).all (ar4_ok h2).len (in64_of h1)
end Go.Proofs.YthpbaaadkhdifaaGreatDoor.selectorKeeps
namespace Go.Proofs.YthpbaaadkhdifaaGreatDoor.selectorKeeps
set_option maxRecDepth 100000
set_option maxHeartbeats 4000000
open Go.ChangeShapes Go.WideShapes Go.ChangeAt Go.RowKit
open Go.ChangeMaps (open_string shut_string)
set_option linter.unusedVariables false
theorem own : ownKnob Tryz.prog.godebug = none := by kernel_rfl
theorem laidOut : laidOutB Tryz.prog = true := by kernel_rfl
set_option maxRecDepth 100000 in
theorem lifted (os : Os) (started : os.Started) (H : Type) (enc : TypeId × Value → H) :
    ReturnsInHanded {} Tryz.checked os 8 .any (fun w args => (Rows.selectorKeepsSpec.pre enc Tryz.prog Tryz.f8 [] false w args ∧ laidMetH Tryz.prog laid2 w) ∧ sizedMet enc Tryz.prog Tryz.f8 (OpenSpec.ofChange Rows.selectorKeepsSpec) false w args) (Rows.selectorKeepsSpec.post enc Tryz.prog Tryz.f8 false true false false) := by
  refine returnsInHanded_of_change_and (C := Tryz.checked) (X := fun w _ => laidMetH Tryz.prog laid2 w) (fun _ _ _ hh h => h.of_heap hh) own started (by kernel_rfl) Tryz.func8
    (ChangeSpec.witness_shaped (enc := enc) (C := Tryz.checked) (os := os) (X := fun w _ => laidMetH Tryz.prog laid2 w) false (World.doorLaid Tryz.prog 4000 os) #[.slice none 0 0, .int .i64 0, .slice none 0 0] 12 rfl (World.shaped_of_RefB (by kernel_rfl) (by kernel_rfl)) (by kernel_rfl) (by kernel_rfl) (by kernel_rfl) (door_met os _)) ?_
  intro W base args ds gs before hval0 hW hcnd hsz0 hL _
  have hval : ∀ (j : Nat) t v, Tryz.f8.params[j]? = some t → args[j]? = some v → Value.okWide Tryz.prog W .any base t v := hval0
  have hW' := hW
  obtain ⟨p, q, hA0, hV, rfl, hfz, hnd⟩ := hW
  have hA : DataW.TrodAll enc Tryz.prog W 0 (fun _ => true) true Tryz.f8.params.toList args.toList ds p := hA0
  have hsz : (DataW.weightsEach Tryz.prog (Tryz.f8.params.toList ++ Rows.selectorKeepsSpec.plain.varTypes Tryz.prog) (ds ++ gs)).all (· ≤ reachBytes) = true := hsz0
  rw [Tryz.params8] at hA hval hsz
  obtain ⟨v0, vs0, d0, ds0, p0, q0, hargs, rfl, rfl, h0, r0⟩ := trodAll_cons hA
  obtain ⟨v1, vs1, d1, ds1, p1, q1, rfl, rfl, rfl, h1, r1⟩ := trodAll_cons r0
  obtain ⟨v2, vs2, d2, ds2, p2, q2, rfl, rfl, rfl, h2, r2⟩ := trodAll_cons r1
  obtain ⟨rfl, rfl, rfl⟩ := trodAll_nil r2
  obtain rfl : args = #[v0, v1, v2] := by cases args; simp_all
  obtain ⟨rfl, rfl⟩ := trodVars_none hV
  obtain ⟨a0x, len0, cap0, rfl⟩ := okWide_slice Tryz.underlying22 (hval 0 22 v0 rfl rfl)
  have k0 := h0
  have lt0 : ∀ x ∈ p0, x.block < W.heap.size := by obtain ⟨m, hm⟩ := k0; exact DataW.trod_lt m _ _ _ hm
  obtain ⟨a0, w0, e0⟩ : ∃ a, opInts.ok W a ∧ Value.slice a0x len0 cap0 = (opInts.cells a).headD undef := by
    obtain ⟨fuel, hf⟩ := h0
    obtain ⟨a, ha, hok⟩ := opInts.opens hf (fun n hn => of_decide_eq_true (List.all_eq_true.1 hsz n (DataW.weights_mem_each (j := 0) (t := 22) (by rfl) (by rfl) n hn)))
    refine ⟨a, hok, ?_⟩
    have : [Value.slice a0x len0 cap0] = opInts.cells a := ha
    rw [← this]
    rfl
  rw [e0] at k0 hW' ⊢
  obtain ⟨a1, rfl, rfl, rfl, w1⟩ := open_int Tryz.underlying3 (hval 1 3 v1 rfl rfl) h1
  obtain ⟨a2x, len2, cap2, rfl⟩ := okWide_slice Tryz.underlying88 (hval 2 88 v2 rfl rfl)
  have k2 := h2
  have lt2 : ∀ x ∈ p2, x.block < W.heap.size := by obtain ⟨m, hm⟩ := k2; exact DataW.trod_lt m _ _ _ hm
  obtain ⟨a2, w2, e2⟩ : ∃ a, op4s.ok W a ∧ Value.slice a2x len2 cap2 = (op4s.cells a).headD undef := by
    obtain ⟨fuel, hf⟩ := h2
    obtain ⟨a, ha, hok⟩ := op4s.opens hf (fun n hn => of_decide_eq_true (List.all_eq_true.1 hsz n (DataW.weights_mem_each (j := 2) (t := 88) (by rfl) (by rfl) n hn)))
    refine ⟨a, hok, ?_⟩
    have : [Value.slice a2x len2 cap2] = op4s.cells a := ha
    rw [← this]
    rfl
  rw [e2] at k2 hW' ⊢
  clear hA0 hval0 hsz0
  refine (walk a0 a1 a2 W (laid_of hL) w0 w1 w2).mono fun e W' ⟨he, bel⟩ => ?_
  subst he
  exact ⟨_, rfl, _, _, _, [], _, [], hW', trodAll_mk1 (shut_bool Tryz.underlying4 _), (trodAll_cons_mk (Below.trod laidOut (by kernel_rfl) (of_decide_eq_true (by kernel_rfl)) k0 bel lt0) (trodAll_cons_mk (shut_int Tryz.underlying3 w1) (trodAll_cons_mk (Below.trod laidOut (by kernel_rfl) (of_decide_eq_true (by kernel_rfl)) k2 bel lt2) trodAll_mk0))), rfl, bel.frame _, fun h => by cases h⟩
theorem over : Rows.selectorKeepsRow.holds Tryz.pinned (OpenSpec.ofChange Rows.selectorKeepsSpec) :=
  OpenClaim.holds_of_wide 8 Tryz.f8 rfl rfl rfl rfl rfl rfl rfl ⟨rfl, rfl, rfl, rfl, rfl⟩ rfl rfl rfl rfl rfl (by kernel_rfl) Tryz.func8 (by kernel_rfl)
    (of_decide_eq_true (by kernel_rfl)) (by unfold Func.isWrapper; first | (rw [if_pos (by decide +kernel)]; kernel_rfl) | (rw [if_neg (by decide +kernel)]; exact ⟨rfl, rfl⟩))
    (fun os started H enc _ => lifted os started H enc)
theorem proved : Rows.SelectorKeepsCardSaid :=
  Claim7.holds_tied_plain_at .later [] [.data, .data] true (true, "9dee3736a47d5fde62d585030fb6813f4463abab0d4d0d63d0a04982675a9e5c") false
    over (fun _ h => by cases h) (by kernel_rfl) (fun _ h => by cases h) selectorKeeps_row_tie rfl ⟨rfl, rfl⟩ (by kernel_rfl) rfl
    (fun f fn hf hfn => by
      obtain rfl : f = 8 := Option.some.inj ((show Tryz.prog.funcNamed "onair/onairlaw22.SelectorKeeps" = some 8 by kernel_rfl).symm.trans hf) |>.symm
      obtain rfl : fn = Tryz.f8 := (Option.some.inj (Tryz.func8.symm.trans hfn)).symm
      exact ⟨by kernel_rfl, fun j t ht => by
        rw [Tryz.params8] at ht
        have hm : t ∈ [22, 3, 88] := by simpa using Array.mem_of_getElem? ht
        have hall : ([22, 3, 88].all fun u => !Tryz.prog.wantsStandIn u) = true := by kernel_rfl
        exact (show Tryz.prog.wantsStandIn t = false by simpa using List.all_eq_true.1 hall t hm)⟩)
    (by kernel_rfl)
#print axioms proved
end Go.Proofs.YthpbaaadkhdifaaGreatDoor.selectorKeeps
