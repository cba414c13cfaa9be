/- SplicerLawful: the walk. -/
import Derived.Test.YtpaepefpfaoacaaSqG
namespace Go.Proofs.Ytpaepefpfaoacaa
open Go.ChangeShapes Go.WideShapes Go.ChangeAt Go.RowKit
set_option linter.unusedVariables false
set_option linter.unusedSimpArgs false

set_option maxRecDepth 100000 in
set_option maxHeartbeats 16000000 in
theorem lawful_walk (r : Int) (X : Nat → Int) (PA : Option Addr) (pn pc : Nat) (PL : List Pc) (ZA : Option Addr) (zn zc : Nat) (zs : List Int) (w : World) (hreg : -9223372036854775808 ≤ r ∧ r ≤ 9223372036854775807) (hX : ∀ i, -9223372036854775808 ≤ X i ∧ X i ≤ 9223372036854775807) (hpcs : IsRow 5 Pc.cells w PA pn PL) (hpn : pn ≤ 9223372036854775807) (hpb : ∀ p ∈ PL, p.bd) (hzs : IsInts w ZA zn zs) (hzn : zn ≤ 9223372036854775807) (hzb : ∀ z ∈ zs, -9223372036854775808 ≤ z ∧ z ≤ 9223372036854775807) :
    Calls Try.prog 3 #[.int .i64 r, .agg #[.int .i64 (X 0), .int .i64 (X 1), .int .i64 (X 2), .int .i64 (X 3), .int .i64 (X 4), .int .i64 (X 5), .int .i64 (X 6), .int .i64 (X 7), .int .i64 (X 8), .int .i64 (X 9), .int .i64 (X 10), .int .i64 (X 11), .int .i64 (X 12), .int .i64 (X 13), .int .i64 (X 14), .int .i64 (X 15), .int .i64 (X 16), .int .i64 (X 17), .int .i64 (X 18), .int .i64 (X 19)], .slice PA pn pc, .slice ZA zn zc] w fun e w' => e = .returned (.bool true) ∧ Below w.heap.size w w' := by
  have HP := Hp.start w
  refine w_enter 123 [(0, (.int .i64 r)), (1, (.agg #[(.int .i64 (X 0)), (.int .i64 (X 1)), (.int .i64 (X 2)), (.int .i64 (X 3)), (.int .i64 (X 4)), (.int .i64 (X 5)), (.int .i64 (X 6)), (.int .i64 (X 7)), (.int .i64 (X 8)), (.int .i64 (X 9)), (.int .i64 (X 10)), (.int .i64 (X 11)), (.int .i64 (X 12)), (.int .i64 (X 13)), (.int .i64 (X 14)), (.int .i64 (X 15)), (.int .i64 (X 16)), (.int .i64 (X 17)), (.int .i64 (X 18)), (.int .i64 (X 19))])), (2, (.slice PA pn pc)), (3, (.slice ZA zn zc))] Try.func3 rfl Try.ntmps3 (by kernel_rfl) (by kernel_rfl) ?_
  intro a H
  refine wp_seq ?_
  refine w_region ?_
  refine H.alloc HP 5 (fun b => (.pointer (some ⟨b, 0, none⟩))) 24 [(.int .i64 (X 0)), (.int .i64 (X 1)), (.int .i64 (X 2)), (.int .i64 (X 3)), (.int .i64 (X 4)), (.int .i64 (X 5)), (.int .i64 (X 6)), (.int .i64 (X 7)), (.int .i64 (X 8)), (.int .i64 (X 9)), (.int .i64 (X 10)), (.int .i64 (X 11)), (.int .i64 (X 12)), (.int .i64 (X 13)), (.int .i64 (X 14)), (.int .i64 (X 15)), (.int .i64 (X 16)), (.int .i64 (X 17)), (.int .i64 (X 18)), (.int .i64 (X 19))] (by kernel_rfl) (fun w => by kernel_rfl) ?_
  intro b_1 w_2 a H HP
  refine H.val 8 (.bool false) (by kernel_rfl) (by kernel_rfl) ?_
  intro a H
  refine wpList_nil ?_
  refine then_normal ?_
  refine wp_seq ?_
  refine w_region ?_
  refine H.call 24 (by kernel_rfl) (Eq.trans (by kernel_rfl : _ = (callFunc 8 #[]).run Try.prog w_2) (Try.call8 _ _)) (sane_any w_2) ?_
  rintro e w_3 ⟨rfl, hb⟩
  refine ⟨_, rfl, ?_⟩
  intro a H
  have HP := HP.next hb
  refine H.val 9 (.bool true) (by kernel_rfl) (by kernel_rfl) ?_
  intro a H
  refine wpList_nil ?_
  refine then_normal ?_
  refine wp_seq ?_
  refine w_region ?_
  refine H.val 25 (.agg #[(.int .i64 (X 0)), (.int .i64 (X 1)), (.int .i64 (X 2)), (.int .i64 (X 3)), (.int .i64 (X 4)), (.int .i64 (X 5)), (.int .i64 (X 6)), (.int .i64 (X 7)), (.int .i64 (X 8)), (.int .i64 (X 9)), (.int .i64 (X 10)), (.int .i64 (X 11)), (.int .i64 (X 12)), (.int .i64 (X 13)), (.int .i64 (X 14)), (.int .i64 (X 15)), (.int .i64 (X 16)), (.int .i64 (X 17)), (.int .i64 (X 18)), (.int .i64 (X 19))]) (by kernel_rfl) (ex_loadN (vs := [(.int .i64 (X 0)), (.int .i64 (X 1)), (.int .i64 (X 2)), (.int .i64 (X 3)), (.int .i64 (X 4)), (.int .i64 (X 5)), (.int .i64 (X 6)), (.int .i64 (X 7)), (.int .i64 (X 8)), (.int .i64 (X 9)), (.int .i64 (X 10)), (.int .i64 (X 11)), (.int .i64 (X 12)), (.int .i64 (X 13)), (.int .i64 (X 14)), (.int .i64 (X 15)), (.int .i64 (X 16)), (.int .i64 (X 17)), (.int .i64 (X 18)), (.int .i64 (X 19))]) (by kernel_rfl) (by kernel_rfl) (by kernel_rfl) rfl (HP.cells 0 rfl 0 20 (by kernel_rfl))) ?_
  intro a H
  refine H.call 26 (by kernel_rfl) (Eq.trans (by kernel_rfl : _ = (callFunc 9 #[(.agg #[(.int .i64 (X 0)), (.int .i64 (X 1)), (.int .i64 (X 2)), (.int .i64 (X 3)), (.int .i64 (X 4)), (.int .i64 (X 5)), (.int .i64 (X 6)), (.int .i64 (X 7)), (.int .i64 (X 8)), (.int .i64 (X 9)), (.int .i64 (X 10)), (.int .i64 (X 11)), (.int .i64 (X 12)), (.int .i64 (X 13)), (.int .i64 (X 14)), (.int .i64 (X 15)), (.int .i64 (X 16)), (.int .i64 (X 17)), (.int .i64 (X 18)), (.int .i64 (X 19))])]).run Try.prog w_3) (Try.call9 _ _)) (library_any X w_3 hX) ?_
  rintro e w_4 ⟨LA, lc, lib, rfl, hlib, hspec, hl5, hlc, hb, hnewl⟩
  refine ⟨_, rfl, ?_⟩
  intro a H
  have HP := HP.gain hb (astsR LA 5 lib) hlib (astsK_ok _ _ _) (fun k hk => asts_lt hlib hk) hnewl
  obtain ⟨hz0, hplen, hvalid⟩ := spec_find hspec
  refine H.val 10 (.slice LA 5 lc) (by kernel_rfl) (by kernel_rfl) ?_
  intro a H
  refine wpList_nil ?_
  refine then_normal ?_
  refine wp_seq ?_
  refine w_region ?_
  refine H.val 28 (.int .i64 r) (by kernel_rfl) (by kernel_rfl) ?_
  intro a H
  refine H.call 29 (by kernel_rfl) (Eq.trans (by kernel_rfl : _ = (callFunc 11 #[(.int .i64 r), (.int .i64 3)]).run Try.prog w_4) (Try.call11 _ _)) (pick_any r 3 w_4 hreg (by omega)) ?_
  rintro e w_6 ⟨rfl, hw⟩
  refine ⟨_, rfl, ?_⟩
  intro a H
  have HP := hw ▸ HP
  have hpk_5 := pickI_lt r 3 (by omega)
  refine H.val 30 (.slice LA 5 lc) (by kernel_rfl) (by kernel_rfl) ?_
  intro a H
  refine H.call 31 (by kernel_rfl) (Eq.trans (by kernel_rfl : _ = (callFunc 10 #[(.int .i64 0), (.int .i64 (pickI r 3)), (.slice LA 5 lc)]).run Try.prog w_6) (Try.call10 _ _)) ((new_ok 0 (pickI r 3) LA 5 lc lib w_6 (HP.held 0 rfl) ⟨hplen, by omega⟩ (newOk_lib (by omega) (by omega) hvalid))) ?_
  rintro e w_7 ⟨b, k, rfl, hspn, hkc, hkr, hks, hb, hnews⟩
  refine ⟨_, rfl, ?_⟩
  intro a H
  have HP := HP.gain hb (splR b k spZ none 0) hspn (splR_ok _ _ _ _ _) (splR_lt hspn) hnews
  refine H.val 27 (.tuple #[(.pointer (some ⟨b, 0, none⟩)), (.int .i64 0)]) (by kernel_rfl) (by kernel_rfl) ?_
  intro a H
  refine H.val 32 (.pointer (some ⟨b, 0, none⟩)) (by kernel_rfl) (by kernel_rfl) ?_
  intro a H
  refine H.val 33 (.int .i64 0) (by kernel_rfl) (by kernel_rfl) ?_
  intro a H
  refine H.val 11 (.pointer (some ⟨b, 0, none⟩)) (by kernel_rfl) (by kernel_rfl) ?_
  intro a H
  refine H.val 12 (.int .i64 0) (by kernel_rfl) (by kernel_rfl) ?_
  intro a H
  refine wpList_nil ?_
  have H := H.keep (L' := [(12, (.int .i64 0)), (11, (.pointer (some ⟨b, 0, none⟩))), (10, (.slice LA 5 lc)), (26, (.slice LA 5 lc)), (25, (.agg #[(.int .i64 (X 0)), (.int .i64 (X 1)), (.int .i64 (X 2)), (.int .i64 (X 3)), (.int .i64 (X 4)), (.int .i64 (X 5)), (.int .i64 (X 6)), (.int .i64 (X 7)), (.int .i64 (X 8)), (.int .i64 (X 9)), (.int .i64 (X 10)), (.int .i64 (X 11)), (.int .i64 (X 12)), (.int .i64 (X 13)), (.int .i64 (X 14)), (.int .i64 (X 15)), (.int .i64 (X 16)), (.int .i64 (X 17)), (.int .i64 (X 18)), (.int .i64 (X 19))])), (9, (.bool true)), (24, (.bool true)), (8, (.bool false)), (5, (.pointer (some ⟨b_1, 0, none⟩))), (0, (.int .i64 r)), (1, (.agg #[(.int .i64 (X 0)), (.int .i64 (X 1)), (.int .i64 (X 2)), (.int .i64 (X 3)), (.int .i64 (X 4)), (.int .i64 (X 5)), (.int .i64 (X 6)), (.int .i64 (X 7)), (.int .i64 (X 8)), (.int .i64 (X 9)), (.int .i64 (X 10)), (.int .i64 (X 11)), (.int .i64 (X 12)), (.int .i64 (X 13)), (.int .i64 (X 14)), (.int .i64 (X 15)), (.int .i64 (X 16)), (.int .i64 (X 17)), (.int .i64 (X 18)), (.int .i64 (X 19))])), (2, (.slice PA pn pc)), (3, (.slice ZA zn zc))]) (by kernel_rfl)
  refine then_normal ?_
  refine wp_seq ?_
  refine wp_seq ?_
  refine w_region ?_
  refine H.val 34 (.int .i64 0) (by kernel_rfl) (by kernel_rfl) ?_
  intro a H
  refine H.val 35 (.bool false) (by kernel_rfl) (by kernel_rfl) ?_
  intro a H
  refine wpList_nil ?_
  refine then_normal ?_
  refine w_iff H rfl ?_
  refine wp_skip ?_
  refine then_normal ?_
  refine wp_seq ?_
  refine w_region ?_
  refine H.val 36 (.agg #[(.int .i64 0), (.int .i64 0), (.int .i64 0)]) (by kernel_rfl) (by kernel_rfl) ?_
  intro a H
  refine H.alloc HP 13 (fun b => (.pointer (some ⟨b, 0, none⟩))) 36 [(.int .i64 0), (.int .i64 0), (.int .i64 0)] (by kernel_rfl) (fun w => by kernel_rfl) ?_
  intro b_8 w_9 a H HP
  refine H.store HP 0 b_8 0 3 36 [(.int .i64 0), (.int .i64 0), (.int .i64 0)] true (.agg #[(.int .i64 0), (.int .i64 0), (.int .i64 0)]) [bx b_8 36 [(.int .i64 0), (.int .i64 0), (.int .i64 0)] true, (splR b k spZ none 0), (astsR LA 5 lib), bx b_1 24 [(.int .i64 (X 0)), (.int .i64 (X 1)), (.int .i64 (X 2)), (.int .i64 (X 3)), (.int .i64 (X 4)), (.int .i64 (X 5)), (.int .i64 (X 6)), (.int .i64 (X 7)), (.int .i64 (X 8)), (.int .i64 (X 9)), (.int .i64 (X 10)), (.int .i64 (X 11)), (.int .i64 (X 12)), (.int .i64 (X 13)), (.int .i64 (X 14)), (.int .i64 (X 15)), (.int .i64 (X 16)), (.int .i64 (X 17)), (.int .i64 (X 18)), (.int .i64 (X 19))] true] (by kernel_rfl) (by kernel_rfl) (by kernel_rfl) rfl (by kernel_rfl) (by kernel_rfl) (by kernel_rfl) (by kernel_rfl) (by kernel_rfl) ?_
  intro w_10 a H HP
  refine wpList_nil ?_
  refine then_normal ?_
  refine wp_seq ?_
  refine w_region ?_
  refine H.val 14 (.int .i64 500) (by kernel_rfl) (by kernel_rfl) ?_
  intro a H
  refine wpList_nil ?_
  refine then_normal ?_
  refine wp_seq ?_
  refine w_region ?_
  refine H.val 37 (.slice PA pn pc) (by kernel_rfl) (by kernel_rfl) ?_
  intro a H
  refine H.call 38 (by kernel_rfl) (Eq.trans (by kernel_rfl : _ = (callFunc 13 #[(.slice PA pn pc)]).run Try.prog w_10) (Try.call13 _ _)) (events_any PA pn pc PL w_10 (hpcs.below (HP.below (by kernel_rfl))) (by omega) hpb) ?_
  rintro e w_11 ⟨EA, ec, es, rfl, hes, hespec, hel1, hel2, hel3, hb, hnewe⟩
  refine ⟨_, rfl, ?_⟩
  intro a H
  have HP := HP.gain hb (evsR EA (min pn 10) es) hes (evsR_ok _ _ _) (fun k hk => evs_lt hes hk) hnewe
  obtain ⟨hebd, hend⟩ := evs_bd hespec (by omega) (by have := hpcs.1; omega)
  refine H.val 39 (.slice LA 5 lc) (by kernel_rfl) (by kernel_rfl) ?_
  intro a H
  refine H.val 40 (.slice ZA zn zc) (by kernel_rfl) (by kernel_rfl) ?_
  intro a H
  refine H.call 41 (by kernel_rfl) (Eq.trans (by kernel_rfl : _ = (callFunc 12 #[(.slice EA (min pn 10) ec), (.slice LA 5 lc), (.slice ZA zn zc)]).run Try.prog w_11) (Try.call12 _ _)) (feed_any EA (min pn 10) ec es LA 5 lc lib ZA zn zc zs w_11 (HP.held 0 rfl) (by omega) (fun e he => (hebd e he).1) (HP.held 3 rfl) (by omega) hplen (hzs.below (HP.below (by kernel_rfl))) hzn hzb hend) ?_
  rintro e w_12 ⟨UA, uc, ul, rfl, hul, huspec, huc1, huc2, hb, hnewu⟩
  refine ⟨_, rfl, ?_⟩
  intro a H
  have HP := HP.gain hb (unitsR UA ul) hul (unitsR_ok _ _) (fun k hk => units_lt hul hk) hnewu
  refine H.val 15 (.slice UA ul.length uc) (by kernel_rfl) (by kernel_rfl) ?_
  intro a H
  refine wpList_nil ?_
  refine then_normal ?_
  refine wp_seq ?_
  refine wp_seq ?_
  refine w_region ?_
  refine H.val 16 (.int .i64 0) (by kernel_rfl) (by kernel_rfl) ?_
  intro a H
  refine wpList_nil ?_
  refine then_normal ?_
  refine wp_block ?_
  obtain ⟨us, hus⟩ : ∃ us, feedTo es lib (goneP (zs.take (min zn 20))) (endP es).toNat = us := ⟨_, rfl⟩
  rw [hus] at huspec
  have hfo : FeedOk lib us := by rw [← hus]; exact feedTo_ok hplen (fun e he => (hebd e he).1) (by omega)
  have hulen : ul.length = us.length := by rw [← huspec]; simp
  have hulim : us.length ≤ 1000000 := by rw [← hus]; simp [feedTo]; omega
  have HP := HP.sub [0, 3, 4, 2] [(unitsR UA ul), (splR b k spZ none 0), (astsR LA 5 lib), bx b_8 36 [(.int .i64 0), (.int .i64 0), (.int .i64 0)] true] (by kernel_rfl) (by kernel_rfl)
  refine w_loop (fun mm a v => ∃ (j : Nat), ∃ (NA : Option Addr), ∃ (nc : Nat), ∃ (lv : Int), ul.length - j = mm ∧ Sl 123 [(16, (.int .i64 ((j : Nat) : Int))), (15, (.slice UA ul.length uc)), (14, (.int .i64 ((stAt k us j).full))), (13, (.pointer (some ⟨b_8, 0, none⟩))), (11, (.pointer (some ⟨b, 0, none⟩))), (10, (.slice LA 5 lc)), (9, (.bool true)), (8, (.bool false))] a ∧ Hp w v [(unitsR UA ul), (splR b k (stAt k us j) NA nc), (astsR LA 5 lib), bx b_8 36 [(.int .i64 ((stAt k us j).last.item)), (.int .i64 ((stAt k us j).last.index)), (.int .i64 lv)] true] [] ∧ (j ≤ ul.length)) (ul.length - 0) ?_ ?_
  · exact ⟨0, none, 0, 0, (by omega), H.keep (by kernel_rfl), HP, by omega⟩
  rintro mm a w_13 ⟨j, NA, nc, lv, hmeas, H, HP, hj⟩
  obtain ⟨u, hu⟩ : ∃ u, ul.getD j (slateA 0) = u := ⟨_, rfl⟩
  obtain ⟨hfull, hinv, hli0, hli1⟩ := stAt_ok (k := k) (us := us) hks hfo hz0 hplen j (by omega)
  refine wp_seq ?_
  refine wp_seq ?_
  refine w_region ?_
  refine H.val 42 (.int .i64 ((j : Nat) : Int)) (by kernel_rfl) (by kernel_rfl) ?_
  intro a H
  refine H.val 43 (.slice UA ul.length uc) (by kernel_rfl) (by kernel_rfl) ?_
  intro a H
  refine H.val 44 (.int .i64 ((ul.length : Nat) : Int)) (by kernel_rfl) (by kernel_rfl) ?_
  intro a H
  refine H.val 45 (.bool (decide (((j : Nat) : Int) < ((ul.length : Nat) : Int)))) (by kernel_rfl) (by kernel_rfl) ?_
  intro a H
  refine wpList_nil ?_
  refine then_normal ?_
  refine w_if H rfl (fun g45 => ?_) (fun g45 => ?_)
  · have g45p := of_decide_eq_true g45
    refine wp_skip ?_
    refine then_normal ?_
    refine wp_seq ?_
    refine wp_block ?_
    refine wp_seq ?_
    obtain ⟨bu, ou, hUA, hbl, pcs, huo, hmu⟩ := IsUnits.get (HP.held 0 rfl) (j := j) (by omega)
    subst hUA
    rw [hu] at pcs huo hmu
    have hstep := stS_eq (k := k) (s := (stAt k us j)) huspec (by omega) hu
    obtain ⟨hL1, hL2, hL3, hL4, hL5⟩ := shown_ok (k := k) (s := (stAt k us j)) (u := u) hks (by have := (hfo _ (getD_memU (us := us) (j := j) (by omega))).1; rw [feed_net huspec (by omega) hu]; rw [feed_item huspec (by omega) hu]; exact this) hz0 hfull
    have hst1 : stAt k us (j + 1) = (stepS k (stAt k us j) u).2.2 := by rw [hstep]; rfl
    have hst1l : (stAt k us (j + 1)).last = (stepS k (stAt k us j) u).1 := by rw [hst1]; exact hL5
    obtain ⟨p, hp⟩ : ∃ p, (stepS k (stAt k us j) u).1 = p := ⟨_, rfl⟩
    obtain ⟨v, hv⟩ : ∃ v, (stepS k (stAt k us j) u).2.1 = v := ⟨_, rfl⟩
    rw [hp] at hL1 hL2 hL3 hL4 hL5 hst1l
    obtain ⟨F, hF⟩ : ∃ F, findA p.item lib = F := ⟨_, rfl⟩
    obtain ⟨fa, hfa⟩ : ∃ fa, F.getD astZ = fa := ⟨_, rfl⟩
    have CF := fun w h => rfind_any LA 5 lc lib p.item w h (by unfold maxLen; omega)
    unfold findV at CF
    simp only [hF, hfa] at CF
    refine w_region ?_
    refine H.val 48 (.pointer (some ⟨b, 0, none⟩)) (by kernel_rfl) (by kernel_rfl) ?_
    intro a H
    refine H.val 49 (.slice (some ⟨bu, ou, none⟩) ul.length uc) (by kernel_rfl) (by kernel_rfl) ?_
    intro a H
    refine H.val 50 (.int .i64 ((j : Nat) : Int)) (by kernel_rfl) (by kernel_rfl) ?_
    intro a H
    refine H.val 51 (.pointer (some ⟨bu, ou + j * 13, none⟩)) (by kernel_rfl) (ex_index (b := bu) (off := ou) (len := ul.length) (cap := uc) (e := 46) (k := 13) (ik := .i64) (i := ((j : Nat) : Int)) (m := j) (by kernel_rfl) (by kernel_rfl) (by omega) (by omega) (by kernel_rfl) (by kernel_rfl)) ?_
    intro a H
    refine H.val 52 (.agg #[(.int .i64 u.channel), (.int .i64 u.frame), (.int .i64 u.version), (.int .i64 u.item), (.int .i64 u.index), (.bool u.key), (.string u.data), (.int .i64 u.regions), (.int .i64 u.gain), (.string u.caption), (.int .i64 u.os), (.int .i64 u.of), (.slice u.A u.al.length u.c)]) (by kernel_rfl) (ex_loadN (vs := [(.int .i64 u.channel), (.int .i64 u.frame), (.int .i64 u.version), (.int .i64 u.item), (.int .i64 u.index), (.bool u.key), (.string u.data), (.int .i64 u.regions), (.int .i64 u.gain), (.string u.caption), (.int .i64 u.os), (.int .i64 u.of), (.slice u.A u.al.length u.c)]) (by kernel_rfl) (by kernel_rfl) (by kernel_rfl) rfl (cells13 (pcs.1) (pcs.2.1) (pcs.2.2.1) (pcs.2.2.2.1) (pcs.2.2.2.2.1) (pcs.2.2.2.2.2.1) (pcs.2.2.2.2.2.2.1) (pcs.2.2.2.2.2.2.2.1) (pcs.2.2.2.2.2.2.2.2.1) (pcs.2.2.2.2.2.2.2.2.2.1) (pcs.2.2.2.2.2.2.2.2.2.2.1) (pcs.2.2.2.2.2.2.2.2.2.2.2.1) (pcs.2.2.2.2.2.2.2.2.2.2.2.2))) ?_
    intro a H
    refine H.call 53 (by kernel_rfl) (Eq.trans (by kernel_rfl : _ = (callFunc 14 #[(.pointer (some ⟨b, 0, none⟩)), (.agg #[(.int .i64 u.channel), (.int .i64 u.frame), (.int .i64 u.version), (.int .i64 u.item), (.int .i64 u.index), (.bool u.key), (.string u.data), (.int .i64 u.regions), (.int .i64 u.gain), (.string u.caption), (.int .i64 u.os), (.int .i64 u.of), (.slice u.A u.al.length u.c)])]).run Try.prog w_13) (Try.call14 _ _)) (step_any b k (stAt k us j) u w_13 NA nc (HP.held 1 rfl) huo (fun jj hj e => pairwise_at HP.apart (i := 0) (j := 1) rfl rfl (by omega) jj (.inr ⟨u, hmu, hj⟩) (.inl e)) (by rw [hkr]; omega) (by rw [hkr]; omega) hinv) ?_
    rintro e w_16 ⟨rfl, NB_14, cB_15, hsp, hq, hg⟩
    rw [hp, hv]; refine ⟨_, rfl, ?_⟩
    intro a H
    have HP := HP.stepped 1 rfl [(unitsR (some ⟨bu, ou, none⟩) ul), (splR b k (stepS k (stAt k us j) u).2.2 NB_14 cB_15), (astsR LA 5 lib), bx b_8 36 [(.int .i64 ((stAt k us j).last.item)), (.int .i64 ((stAt k us j).last.index)), (.int .i64 lv)] true] (by kernel_rfl) hsp hq hg
    have hpfull := hL4
    refine H.alloc HP 17 (fun b => (.pointer (some ⟨b, 0, none⟩))) 36 [(.int .i64 0), (.int .i64 0), (.int .i64 0)] (by kernel_rfl) (fun w => by kernel_rfl) ?_
    intro b_17 w_18 a H HP
    refine H.store HP 0 b_17 0 3 36 [(.int .i64 0), (.int .i64 0), (.int .i64 0)] true (.agg #[(.int .i64 p.item), (.int .i64 p.index), (.int .i64 v)]) [bx b_17 36 [(.int .i64 p.item), (.int .i64 p.index), (.int .i64 v)] true, (unitsR (some ⟨bu, ou, none⟩) ul), (splR b k (stepS k (stAt k us j) u).2.2 NB_14 cB_15), (astsR LA 5 lib), bx b_8 36 [(.int .i64 ((stAt k us j).last.item)), (.int .i64 ((stAt k us j).last.index)), (.int .i64 lv)] true] (by kernel_rfl) (by kernel_rfl) (by kernel_rfl) rfl (by kernel_rfl) (by kernel_rfl) (by kernel_rfl) (by kernel_rfl) (by kernel_rfl) ?_
    intro w_19 a H HP
    refine wpList_nil ?_
    have H := H.keep (L' := [(17, (.pointer (some ⟨b_17, 0, none⟩))), (45, (.bool (decide (((j : Nat) : Int) < ((ul.length : Nat) : Int))))), (44, (.int .i64 ((ul.length : Nat) : Int))), (43, (.slice (some ⟨bu, ou, none⟩) ul.length uc)), (42, (.int .i64 ((j : Nat) : Int))), (16, (.int .i64 ((j : Nat) : Int))), (15, (.slice (some ⟨bu, ou, none⟩) ul.length uc)), (14, (.int .i64 ((stAt k us j).full))), (13, (.pointer (some ⟨b_8, 0, none⟩))), (11, (.pointer (some ⟨b, 0, none⟩))), (10, (.slice LA 5 lc)), (9, (.bool true)), (8, (.bool false))]) (by kernel_rfl)
    refine then_normal ?_
    refine wp_seq ?_
    refine w_region ?_
    refine H.val 18 (.int .i64 0) (by kernel_rfl) (by kernel_rfl) ?_
    intro a H
    refine wpList_nil ?_
    refine then_normal ?_
    refine wp_seq ?_
    refine wp_seq ?_
    refine w_region ?_
    refine H.val 54 (.pointer (some ⟨b_17, 0, none⟩)) (by kernel_rfl) (by kernel_rfl) ?_
    intro a H
    refine H.val 55 (.int .i64 p.item) (by kernel_rfl) (ex_load1 (by kernel_rfl) (by kernel_rfl) (HP.cell 0 rfl 0 rfl)) ?_
    intro a H
    refine H.val 56 (.bool (p.item != 0)) (by kernel_rfl) (by kernel_rfl) ?_
    intro a H
    refine wpList_nil ?_
    refine then_normal ?_
    refine w_if H rfl (fun g56 => ?_) (fun g56 => ?_)
    · have g56p := bne_iff_ne.1 g56
      refine wp_seq ?_
      refine w_region ?_
      refine H.val 58 (.slice LA 5 lc) (by kernel_rfl) (by kernel_rfl) ?_
      intro a H
      refine H.val 59 (.pointer (some ⟨b_17, 0, none⟩)) (by kernel_rfl) (by kernel_rfl) ?_
      intro a H
      refine H.val 60 (.int .i64 p.item) (by kernel_rfl) (ex_load1 (by kernel_rfl) (by kernel_rfl) (HP.cell 0 rfl 0 rfl)) ?_
      intro a H
      refine H.call 61 (by kernel_rfl) (Eq.trans (by kernel_rfl : _ = (callFunc 15 #[(.slice LA 5 lc), (.int .i64 p.item)]).run Try.prog w_19) (Try.call15 _ _)) (CF w_19 (HP.held 3 rfl)) ?_
      rintro e w_20 ⟨rfl, hb⟩
      refine ⟨_, rfl, ?_⟩
      intro a H
      have HP := HP.next hb
      refine H.val 57 (.tuple #[(.agg #[(.int .i64 fa.item), (.slice fa.A fa.pics.length fa.c)]), (.bool F.isSome)]) (by kernel_rfl) (by kernel_rfl) ?_
      intro a H
      refine H.val 62 (.agg #[(.int .i64 fa.item), (.slice fa.A fa.pics.length fa.c)]) (by kernel_rfl) (by kernel_rfl) ?_
      intro a H
      refine H.val 63 (.bool F.isSome) (by kernel_rfl) (by kernel_rfl) ?_
      intro a H
      refine H.alloc HP 19 (fun b => (.pointer (some ⟨b, 0, none⟩))) 49 [(.int .i64 0), (.slice none 0 0)] (by kernel_rfl) (fun w => by kernel_rfl) ?_
      intro b_21 w_22 a H HP
      refine H.store HP 0 b_21 0 2 49 [(.int .i64 0), (.slice none 0 0)] true (.agg #[(.int .i64 fa.item), (.slice fa.A fa.pics.length fa.c)]) [bx b_21 49 [(.int .i64 fa.item), (.slice fa.A fa.pics.length fa.c)] true, bx b_17 36 [(.int .i64 p.item), (.int .i64 p.index), (.int .i64 v)] true, (unitsR (some ⟨bu, ou, none⟩) ul), (splR b k (stepS k (stAt k us j) u).2.2 NB_14 cB_15), (astsR LA 5 lib), bx b_8 36 [(.int .i64 ((stAt k us j).last.item)), (.int .i64 ((stAt k us j).last.index)), (.int .i64 lv)] true] (by kernel_rfl) (by kernel_rfl) (by kernel_rfl) rfl (by kernel_rfl) (by kernel_rfl) (by kernel_rfl) (by kernel_rfl) (by kernel_rfl) ?_
      intro w_23 a H HP
      refine H.val 20 (.bool F.isSome) (by kernel_rfl) (by kernel_rfl) ?_
      intro a H
      refine wpList_nil ?_
      have H := H.keep (L' := [(20, (.bool F.isSome)), (19, (.pointer (some ⟨b_21, 0, none⟩))), (56, (.bool (p.item != 0))), (55, (.int .i64 p.item)), (54, (.pointer (some ⟨b_17, 0, none⟩))), (18, (.int .i64 0)), (17, (.pointer (some ⟨b_17, 0, none⟩))), (45, (.bool (decide (((j : Nat) : Int) < ((ul.length : Nat) : Int))))), (44, (.int .i64 ((ul.length : Nat) : Int))), (43, (.slice (some ⟨bu, ou, none⟩) ul.length uc)), (42, (.int .i64 ((j : Nat) : Int))), (16, (.int .i64 ((j : Nat) : Int))), (15, (.slice (some ⟨bu, ou, none⟩) ul.length uc)), (14, (.int .i64 ((stAt k us j).full))), (13, (.pointer (some ⟨b_8, 0, none⟩))), (11, (.pointer (some ⟨b, 0, none⟩))), (10, (.slice LA 5 lc)), (9, (.bool true)), (8, (.bool false))]) (by kernel_rfl)
      refine then_normal ?_
      refine wp_seq ?_
      refine wp_seq ?_
      refine w_region ?_
      refine H.val 64 (.bool F.isSome) (by kernel_rfl) (by kernel_rfl) ?_
      intro a H
      refine H.val 65 (.bool (!F.isSome)) (by kernel_rfl) (by kernel_rfl) ?_
      intro a H
      refine H.val 66 (.bool (!F.isSome)) (by kernel_rfl) (by kernel_rfl) ?_
      intro a H
      refine H.split 66 rfl (fun g66 H => ?_) (fun g66 H => ?_)
      · have g66p := not_is_true g66
        refine H.skip 67 (by kernel_rfl) ?_
        intro a H
        refine H.skip 68 (by kernel_rfl) ?_
        intro a H
        refine H.skip 69 (by kernel_rfl) ?_
        intro a H
        refine H.val 70 (.bool true) (by kernel_rfl) (by kernel_rfl) ?_
        intro a H
        refine H.val 71 (.bool true) (by kernel_rfl) (by kernel_rfl) ?_
        intro a H
        refine H.skip 72 (by kernel_rfl) ?_
        intro a H
        refine H.skip 73 (by kernel_rfl) ?_
        intro a H
        refine H.skip 74 (by kernel_rfl) ?_
        intro a H
        refine H.skip 75 (by kernel_rfl) ?_
        intro a H
        refine H.skip 76 (by kernel_rfl) ?_
        intro a H
        refine H.skip 77 (by kernel_rfl) ?_
        intro a H
        refine H.val 78 (.bool true) (by kernel_rfl) (by kernel_rfl) ?_
        intro a H
        refine wpList_nil ?_
        have H := H.keep (L' := [(78, (.bool true)), (20, (.bool F.isSome)), (19, (.pointer (some ⟨b_21, 0, none⟩))), (56, (.bool (p.item != 0))), (55, (.int .i64 p.item)), (54, (.pointer (some ⟨b_17, 0, none⟩))), (18, (.int .i64 0)), (17, (.pointer (some ⟨b_17, 0, none⟩))), (45, (.bool (decide (((j : Nat) : Int) < ((ul.length : Nat) : Int))))), (44, (.int .i64 ((ul.length : Nat) : Int))), (43, (.slice (some ⟨bu, ou, none⟩) ul.length uc)), (42, (.int .i64 ((j : Nat) : Int))), (16, (.int .i64 ((j : Nat) : Int))), (15, (.slice (some ⟨bu, ou, none⟩) ul.length uc)), (14, (.int .i64 ((stAt k us j).full))), (13, (.pointer (some ⟨b_8, 0, none⟩))), (11, (.pointer (some ⟨b, 0, none⟩))), (10, (.slice LA 5 lc)), (9, (.bool true)), (8, (.bool false))]) (by kernel_rfl)
        refine then_normal ?_
        refine w_ift H rfl ?_
        refine wp_seq ?_
        refine w_region ?_
        refine H.val 8 (.bool false) (by kernel_rfl) (by kernel_rfl) ?_
        intro a H
        refine wpList_nil ?_
        refine then_normal ?_
        refine wp_ret ?_
        refine then_ret ?_
        refine then_ret ?_
        refine inb_ret ?_
        refine then_ret ?_
        refine then_ret ?_
        refine inb_ret ?_
        refine then_ret ?_
        refine H.ret1 (fn := Try.f3) Try.results3 (RV.tmp_ (v := (.bool false)) (by kernel_rfl)) ?_
        exfalso
        obtain ⟨⟨a0, ha0, hq1, hq2, _⟩, _⟩ := hL1 g56p
        have hfa0 : fa = a0 := eq_getD hfa (hF.symm.trans ha0)
        subst hfa0
        rw [← hF, ha0] at g66p; cases g66p
      · have g66p := not_is_false g66
        refine H.val 67 (.pointer (some ⟨b_17, 1, none⟩)) (by kernel_rfl) (by kernel_rfl) ?_
        intro a H
        refine H.val 68 (.int .i64 p.index) (by kernel_rfl) (ex_load1 (by kernel_rfl) (by kernel_rfl) (HP.cell 1 rfl 1 rfl)) ?_
        intro a H
        refine H.val 69 (.bool (decide (p.index < 0))) (by kernel_rfl) (by kernel_rfl) ?_
        intro a H
        refine H.val 70 (.bool (decide (p.index < 0))) (by kernel_rfl) (by kernel_rfl) ?_
        intro a H
        refine H.val 71 (.bool (decide (p.index < 0))) (by kernel_rfl) (by kernel_rfl) ?_
        intro a H
        refine H.split 71 rfl (fun g71 H => ?_) (fun g71 H => ?_)
        · have g71p := of_decide_eq_true g71
          refine H.skip 72 (by kernel_rfl) ?_
          intro a H
          refine H.skip 73 (by kernel_rfl) ?_
          intro a H
          refine H.skip 74 (by kernel_rfl) ?_
          intro a H
          refine H.skip 75 (by kernel_rfl) ?_
          intro a H
          refine H.skip 76 (by kernel_rfl) ?_
          intro a H
          refine H.skip 77 (by kernel_rfl) ?_
          intro a H
          refine H.val 78 (.bool true) (by kernel_rfl) (by kernel_rfl) ?_
          intro a H
          refine wpList_nil ?_
          have H := H.keep (L' := [(78, (.bool true)), (20, (.bool F.isSome)), (19, (.pointer (some ⟨b_21, 0, none⟩))), (56, (.bool (p.item != 0))), (55, (.int .i64 p.item)), (54, (.pointer (some ⟨b_17, 0, none⟩))), (18, (.int .i64 0)), (17, (.pointer (some ⟨b_17, 0, none⟩))), (45, (.bool (decide (((j : Nat) : Int) < ((ul.length : Nat) : Int))))), (44, (.int .i64 ((ul.length : Nat) : Int))), (43, (.slice (some ⟨bu, ou, none⟩) ul.length uc)), (42, (.int .i64 ((j : Nat) : Int))), (16, (.int .i64 ((j : Nat) : Int))), (15, (.slice (some ⟨bu, ou, none⟩) ul.length uc)), (14, (.int .i64 ((stAt k us j).full))), (13, (.pointer (some ⟨b_8, 0, none⟩))), (11, (.pointer (some ⟨b, 0, none⟩))), (10, (.slice LA 5 lc)), (9, (.bool true)), (8, (.bool false))]) (by kernel_rfl)
          refine then_normal ?_
          refine w_ift H rfl ?_
          refine wp_seq ?_
          refine w_region ?_
          refine H.val 8 (.bool false) (by kernel_rfl) (by kernel_rfl) ?_
          intro a H
          refine wpList_nil ?_
          refine then_normal ?_
          refine wp_ret ?_
          refine then_ret ?_
          refine then_ret ?_
          refine inb_ret ?_
          refine then_ret ?_
          refine then_ret ?_
          refine inb_ret ?_
          refine then_ret ?_
          refine H.ret1 (fn := Try.f3) Try.results3 (RV.tmp_ (v := (.bool false)) (by kernel_rfl)) ?_
          exfalso
          obtain ⟨⟨a0, ha0, hq1, hq2, _⟩, _⟩ := hL1 g56p
          have hfa0 : fa = a0 := eq_getD hfa (hF.symm.trans ha0)
          subst hfa0
          omega
        · have g71p := of_decide_eq_false g71
          refine H.val 72 (.pointer (some ⟨b_17, 1, none⟩)) (by kernel_rfl) (by kernel_rfl) ?_
          intro a H
          refine H.val 73 (.int .i64 p.index) (by kernel_rfl) (ex_load1 (by kernel_rfl) (by kernel_rfl) (HP.cell 1 rfl 1 rfl)) ?_
          intro a H
          refine H.val 74 (.pointer (some ⟨b_21, 1, none⟩)) (by kernel_rfl) (by kernel_rfl) ?_
          intro a H
          refine H.val 75 (.slice fa.A fa.pics.length fa.c) (by kernel_rfl) (ex_load1 (by kernel_rfl) (by kernel_rfl) (HP.cell 0 rfl 1 rfl)) ?_
          intro a H
          refine H.val 76 (.int .i64 ((fa.pics.length : Nat) : Int)) (by kernel_rfl) (by kernel_rfl) ?_
          intro a H
          refine H.val 77 (.bool (decide (p.index ≥ ((fa.pics.length : Nat) : Int)))) (by kernel_rfl) (by kernel_rfl) ?_
          intro a H
          refine H.val 78 (.bool (decide (p.index ≥ ((fa.pics.length : Nat) : Int)))) (by kernel_rfl) (by kernel_rfl) ?_
          intro a H
          refine wpList_nil ?_
          have H := H.keep (L' := [(78, (.bool (decide (p.index ≥ ((fa.pics.length : Nat) : Int))))), (20, (.bool F.isSome)), (19, (.pointer (some ⟨b_21, 0, none⟩))), (56, (.bool (p.item != 0))), (55, (.int .i64 p.item)), (54, (.pointer (some ⟨b_17, 0, none⟩))), (18, (.int .i64 0)), (17, (.pointer (some ⟨b_17, 0, none⟩))), (45, (.bool (decide (((j : Nat) : Int) < ((ul.length : Nat) : Int))))), (44, (.int .i64 ((ul.length : Nat) : Int))), (43, (.slice (some ⟨bu, ou, none⟩) ul.length uc)), (42, (.int .i64 ((j : Nat) : Int))), (16, (.int .i64 ((j : Nat) : Int))), (15, (.slice (some ⟨bu, ou, none⟩) ul.length uc)), (14, (.int .i64 ((stAt k us j).full))), (13, (.pointer (some ⟨b_8, 0, none⟩))), (11, (.pointer (some ⟨b, 0, none⟩))), (10, (.slice LA 5 lc)), (9, (.bool true)), (8, (.bool false))]) (by kernel_rfl)
          refine then_normal ?_
          refine w_if H rfl (fun g78 => ?_) (fun g78 => ?_)
          · have g78p := of_decide_eq_true g78
            refine wp_seq ?_
            refine w_region ?_
            refine H.val 8 (.bool false) (by kernel_rfl) (by kernel_rfl) ?_
            intro a H
            refine wpList_nil ?_
            refine then_normal ?_
            refine wp_ret ?_
            refine then_ret ?_
            refine then_ret ?_
            refine inb_ret ?_
            refine then_ret ?_
            refine then_ret ?_
            refine inb_ret ?_
            refine then_ret ?_
            refine H.ret1 (fn := Try.f3) Try.results3 (RV.tmp_ (v := (.bool false)) (by kernel_rfl)) ?_
            exfalso
            obtain ⟨⟨a0, ha0, hq1, hq2, _⟩, _⟩ := hL1 g56p
            have hfa0 : fa = a0 := eq_getD hfa (hF.symm.trans ha0)
            subst hfa0
            omega
          · have g78p := of_decide_eq_false g78
            refine wp_skip ?_
            refine then_normal ?_
            refine wp_seq ?_
            obtain ⟨⟨a0, ha0, hq1, hq2, hq3, hq4⟩, hq5⟩ := hL1 g56p
            have hfa0 : fa = a0 := eq_getD hfa (hF.symm.trans ha0)
            subst hfa0
            obtain ⟨b2, of2, hA2, hbl2, pa, pb, pp⟩ := IsPics.get (((HP.held 4 rfl).2 fa (findA_mem ha0).1).1) (i := p.index.toNat) (by omega)
            obtain ⟨PX, hPX⟩ : ∃ PX, fa.pics.getD p.index.toNat picZ = PX := ⟨_, rfl⟩
            rw [hPX] at pa pb pp hq3 hq4
            have HP : Hp w w_23 [bx b_21 49 [(.int .i64 fa.item), (.slice (some ⟨b2, of2, none⟩) fa.pics.length fa.c)] true, bx b_17 36 [(.int .i64 p.item), (.int .i64 p.index), (.int .i64 v)] true, (unitsR (some ⟨bu, ou, none⟩) ul), (splR b k (stepS k (stAt k us j) u).2.2 NB_14 cB_15), (astsR LA 5 lib), bx b_8 36 [(.int .i64 ((stAt k us j).last.item)), (.int .i64 ((stAt k us j).last.index)), (.int .i64 lv)] true] [] := by rw [hA2] at HP; exact HP
            refine w_region ?_
            refine H.val 79 (.pointer (some ⟨b_21, 1, none⟩)) (by kernel_rfl) (by kernel_rfl) ?_
            intro a H
            refine H.val 80 (.slice (some ⟨b2, of2, none⟩) fa.pics.length fa.c) (by kernel_rfl) (ex_load1 (by kernel_rfl) (by kernel_rfl) (HP.cell 0 rfl 1 rfl)) ?_
            intro a H
            refine H.val 81 (.pointer (some ⟨b_17, 1, none⟩)) (by kernel_rfl) (by kernel_rfl) ?_
            intro a H
            refine H.val 82 (.int .i64 p.index) (by kernel_rfl) (ex_load1 (by kernel_rfl) (by kernel_rfl) (HP.cell 1 rfl 1 rfl)) ?_
            intro a H
            refine H.val 83 (.pointer (some ⟨b2, of2 + p.index.toNat * 3, none⟩)) (by kernel_rfl) (ex_index (b := b2) (off := of2) (len := fa.pics.length) (cap := fa.c) (e := 53) (k := 3) (ik := .i64) (i := p.index) (m := p.index.toNat) (by kernel_rfl) (by kernel_rfl) (by omega) (by omega) (by kernel_rfl) (by kernel_rfl)) ?_
            intro a H
            refine H.val 84 (.agg #[(.bool PX.key), (.string PX.data), (.int .i64 PX.power)]) (by kernel_rfl) (ex_loadN (vs := [(.bool PX.key), (.string PX.data), (.int .i64 PX.power)]) (by kernel_rfl) (by kernel_rfl) (by kernel_rfl) rfl (cells3 (pa) (pb) (pp))) ?_
            intro a H
            refine H.alloc HP 21 (fun b => (.pointer (some ⟨b, 0, none⟩))) 53 [(.bool false), (.string (ByteArray.mk #[])), (.int .i64 0)] (by kernel_rfl) (fun w => by kernel_rfl) ?_
            intro b_24 w_25 a H HP
            refine H.store HP 0 b_24 0 3 53 [(.bool false), (.string (ByteArray.mk #[])), (.int .i64 0)] true (.agg #[(.bool PX.key), (.string PX.data), (.int .i64 PX.power)]) [bx b_24 53 [(.bool PX.key), (.string PX.data), (.int .i64 PX.power)] true, bx b_21 49 [(.int .i64 fa.item), (.slice (some ⟨b2, of2, none⟩) fa.pics.length fa.c)] true, bx b_17 36 [(.int .i64 p.item), (.int .i64 p.index), (.int .i64 v)] true, (unitsR (some ⟨bu, ou, none⟩) ul), (splR b k (stepS k (stAt k us j) u).2.2 NB_14 cB_15), (astsR LA 5 lib), bx b_8 36 [(.int .i64 ((stAt k us j).last.item)), (.int .i64 ((stAt k us j).last.index)), (.int .i64 lv)] true] (by kernel_rfl) (by kernel_rfl) (by kernel_rfl) rfl (by kernel_rfl) (by kernel_rfl) (by kernel_rfl) (by kernel_rfl) (by kernel_rfl) ?_
            intro w_26 a H HP
            refine wpList_nil ?_
            have H := H.keep (L' := [(21, (.pointer (some ⟨b_24, 0, none⟩))), (78, (.bool (decide (p.index ≥ ((fa.pics.length : Nat) : Int))))), (20, (.bool F.isSome)), (19, (.pointer (some ⟨b_21, 0, none⟩))), (56, (.bool (p.item != 0))), (55, (.int .i64 p.item)), (54, (.pointer (some ⟨b_17, 0, none⟩))), (18, (.int .i64 0)), (17, (.pointer (some ⟨b_17, 0, none⟩))), (45, (.bool (decide (((j : Nat) : Int) < ((ul.length : Nat) : Int))))), (44, (.int .i64 ((ul.length : Nat) : Int))), (43, (.slice (some ⟨bu, ou, none⟩) ul.length uc)), (42, (.int .i64 ((j : Nat) : Int))), (16, (.int .i64 ((j : Nat) : Int))), (15, (.slice (some ⟨bu, ou, none⟩) ul.length uc)), (14, (.int .i64 ((stAt k us j).full))), (13, (.pointer (some ⟨b_8, 0, none⟩))), (11, (.pointer (some ⟨b, 0, none⟩))), (10, (.slice LA 5 lc)), (9, (.bool true)), (8, (.bool false))]) (by kernel_rfl)
            refine then_normal ?_
            refine wp_seq ?_
            refine wp_seq ?_
            refine w_region ?_
            refine H.val 85 (.pointer (some ⟨b_24, 0, none⟩)) (by kernel_rfl) (by kernel_rfl) ?_
            intro a H
            refine H.val 86 (.bool PX.key) (by kernel_rfl) (ex_load1 (by kernel_rfl) (by kernel_rfl) (HP.cell 0 rfl 0 rfl)) ?_
            intro a H
            refine H.val 87 (.bool (!PX.key)) (by kernel_rfl) (by kernel_rfl) ?_
            intro a H
            refine H.val 88 (.bool (!PX.key)) (by kernel_rfl) (by kernel_rfl) ?_
            intro a H
            refine H.split 88 rfl (fun g88 H => ?_) (fun g88 H => ?_)
            · have g88p := not_is_true g88
              refine H.val 89 (.pointer (some ⟨b_17, 0, none⟩)) (by kernel_rfl) (by kernel_rfl) ?_
              intro a H
              refine H.val 90 (.int .i64 p.item) (by kernel_rfl) (ex_load1 (by kernel_rfl) (by kernel_rfl) (HP.cell 2 rfl 0 rfl)) ?_
              intro a H
              refine H.val 91 (.pointer (some ⟨b_8, 0, none⟩)) (by kernel_rfl) (by kernel_rfl) ?_
              intro a H
              refine H.val 92 (.int .i64 ((stAt k us j).last.item)) (by kernel_rfl) (ex_load1 (by kernel_rfl) (by kernel_rfl) (HP.cell 6 rfl 0 rfl)) ?_
              intro a H
              refine H.val 93 (.bool (p.item != ((stAt k us j).last.item))) (by kernel_rfl) (by kernel_rfl) ?_
              intro a H
              refine H.val 94 (.bool (p.item != ((stAt k us j).last.item))) (by kernel_rfl) (by kernel_rfl) ?_
              intro a H
              refine H.split 94 rfl (fun g94 H => ?_) (fun g94 H => ?_)
              · have g94p := bne_iff_ne.1 g94
                refine H.skip 95 (by kernel_rfl) ?_
                intro a H
                refine H.skip 96 (by kernel_rfl) ?_
                intro a H
                refine H.skip 97 (by kernel_rfl) ?_
                intro a H
                refine H.skip 98 (by kernel_rfl) ?_
                intro a H
                refine H.skip 99 (by kernel_rfl) ?_
                intro a H
                refine H.skip 100 (by kernel_rfl) ?_
                intro a H
                refine H.val 101 (.bool true) (by kernel_rfl) (by kernel_rfl) ?_
                intro a H
                refine H.val 102 (.bool true) (by kernel_rfl) (by kernel_rfl) ?_
                intro a H
                refine wpList_nil ?_
                have H := H.keep (L' := [(102, (.bool true)), (21, (.pointer (some ⟨b_24, 0, none⟩))), (78, (.bool (decide (p.index ≥ ((fa.pics.length : Nat) : Int))))), (20, (.bool F.isSome)), (19, (.pointer (some ⟨b_21, 0, none⟩))), (56, (.bool (p.item != 0))), (55, (.int .i64 p.item)), (54, (.pointer (some ⟨b_17, 0, none⟩))), (18, (.int .i64 0)), (17, (.pointer (some ⟨b_17, 0, none⟩))), (45, (.bool (decide (((j : Nat) : Int) < ((ul.length : Nat) : Int))))), (44, (.int .i64 ((ul.length : Nat) : Int))), (43, (.slice (some ⟨bu, ou, none⟩) ul.length uc)), (42, (.int .i64 ((j : Nat) : Int))), (16, (.int .i64 ((j : Nat) : Int))), (15, (.slice (some ⟨bu, ou, none⟩) ul.length uc)), (14, (.int .i64 ((stAt k us j).full))), (13, (.pointer (some ⟨b_8, 0, none⟩))), (11, (.pointer (some ⟨b, 0, none⟩))), (10, (.slice LA 5 lc)), (9, (.bool true)), (8, (.bool false))]) (by kernel_rfl)
                refine then_normal ?_
                refine w_ift H rfl ?_
                refine wp_seq ?_
                refine w_region ?_
                refine H.val 8 (.bool false) (by kernel_rfl) (by kernel_rfl) ?_
                intro a H
                refine wpList_nil ?_
                refine then_normal ?_
                refine wp_ret ?_
                refine then_ret ?_
                refine then_ret ?_
                refine inb_ret ?_
                refine then_ret ?_
                refine then_ret ?_
                refine inb_ret ?_
                refine then_ret ?_
                refine H.ret1 (fn := Try.f3) Try.results3 (RV.tmp_ (v := (.bool false)) (by kernel_rfl)) ?_
                exfalso
                rcases hq5 with hq5 | hq5
                · rw [hq4] at hq5; rw [hq5] at g88p; cases g88p
                · exact g94p hq5.1
              · have g94p := eq_of_bne_false g94
                refine H.val 95 (.pointer (some ⟨b_17, 1, none⟩)) (by kernel_rfl) (by kernel_rfl) ?_
                intro a H
                refine H.val 96 (.int .i64 p.index) (by kernel_rfl) (ex_load1 (by kernel_rfl) (by kernel_rfl) (HP.cell 2 rfl 1 rfl)) ?_
                intro a H
                refine H.val 97 (.pointer (some ⟨b_8, 1, none⟩)) (by kernel_rfl) (by kernel_rfl) ?_
                intro a H
                refine H.val 98 (.int .i64 ((stAt k us j).last.index)) (by kernel_rfl) (ex_load1 (by kernel_rfl) (by kernel_rfl) (HP.cell 6 rfl 1 rfl)) ?_
                intro a H
                refine H.valE 99 (.int .i64 (IntKind.i64.wrap (((stAt k us j).last.index) + 1))) (.int .i64 (((stAt k us j).last.index) + 1)) (by kernel_rfl) (by kernel_rfl) ((by rw [wrap_ini64 _ (by omega)])) ?_
                intro a H
                refine H.val 100 (.bool (p.index != (((stAt k us j).last.index) + 1))) (by kernel_rfl) (by kernel_rfl) ?_
                intro a H
                refine H.val 101 (.bool (p.index != (((stAt k us j).last.index) + 1))) (by kernel_rfl) (by kernel_rfl) ?_
                intro a H
                refine H.val 102 (.bool (p.index != (((stAt k us j).last.index) + 1))) (by kernel_rfl) (by kernel_rfl) ?_
                intro a H
                refine wpList_nil ?_
                have H := H.keep (L' := [(102, (.bool (p.index != (((stAt k us j).last.index) + 1)))), (21, (.pointer (some ⟨b_24, 0, none⟩))), (78, (.bool (decide (p.index ≥ ((fa.pics.length : Nat) : Int))))), (20, (.bool F.isSome)), (19, (.pointer (some ⟨b_21, 0, none⟩))), (56, (.bool (p.item != 0))), (55, (.int .i64 p.item)), (54, (.pointer (some ⟨b_17, 0, none⟩))), (18, (.int .i64 0)), (17, (.pointer (some ⟨b_17, 0, none⟩))), (45, (.bool (decide (((j : Nat) : Int) < ((ul.length : Nat) : Int))))), (44, (.int .i64 ((ul.length : Nat) : Int))), (43, (.slice (some ⟨bu, ou, none⟩) ul.length uc)), (42, (.int .i64 ((j : Nat) : Int))), (16, (.int .i64 ((j : Nat) : Int))), (15, (.slice (some ⟨bu, ou, none⟩) ul.length uc)), (14, (.int .i64 ((stAt k us j).full))), (13, (.pointer (some ⟨b_8, 0, none⟩))), (11, (.pointer (some ⟨b, 0, none⟩))), (10, (.slice LA 5 lc)), (9, (.bool true)), (8, (.bool false))]) (by kernel_rfl)
                refine then_normal ?_
                refine w_if H rfl (fun g102 => ?_) (fun g102 => ?_)
                · have g102p := bne_iff_ne.1 g102
                  refine wp_seq ?_
                  refine w_region ?_
                  refine H.val 8 (.bool false) (by kernel_rfl) (by kernel_rfl) ?_
                  intro a H
                  refine wpList_nil ?_
                  refine then_normal ?_
                  refine wp_ret ?_
                  refine then_ret ?_
                  refine then_ret ?_
                  refine inb_ret ?_
                  refine then_ret ?_
                  refine then_ret ?_
                  refine inb_ret ?_
                  refine then_ret ?_
                  refine H.ret1 (fn := Try.f3) Try.results3 (RV.tmp_ (v := (.bool false)) (by kernel_rfl)) ?_
                  exfalso
                  rcases hq5 with hq5 | hq5
                  · rw [hq4] at hq5; rw [hq5] at g88p; cases g88p
                  · exact g102p hq5.2
                · have g102p := eq_of_bne_false g102
                  refine wp_skip ?_
                  refine then_normal ?_
                  refine w_region ?_
                  refine H.val 103 (.pointer (some ⟨b_24, 1, none⟩)) (by kernel_rfl) (by kernel_rfl) ?_
                  intro a H
                  refine H.val 104 (.string PX.data) (by kernel_rfl) (ex_load1 (by kernel_rfl) (by kernel_rfl) (HP.cell 0 rfl 1 rfl)) ?_
                  intro a H
                  refine H.val 105 (.int .i64 ((PX.data.size : Nat) : Int)) (by kernel_rfl) (by kernel_rfl) ?_
                  intro a H
                  refine H.val 18 (.int .i64 ((PX.data.size : Nat) : Int)) (by kernel_rfl) (by kernel_rfl) ?_
                  intro a H
                  refine wpList_nil ?_
                  refine then_normal ?_
                  refine wp_seq ?_
                  refine w_region ?_
                  refine H.val 107 (.int .i64 ((stAt k us j).full)) (by kernel_rfl) (by kernel_rfl) ?_
                  intro a H
                  refine H.val 108 (.int .i64 ((PX.data.size : Nat) : Int)) (by kernel_rfl) (by kernel_rfl) ?_
                  intro a H
                  refine H.call 109 (by kernel_rfl) (Eq.trans (by kernel_rfl : _ = (callFunc 16 #[(.int .i64 ((stAt k us j).full)), (.int .i64 ((PX.data.size : Nat) : Int))]).run Try.prog w_26) (Try.call16 _ _)) (refStep_any ((stAt k us j).full) ((PX.data.size : Nat) : Int) w_26) ?_
                  rintro e w_27 ⟨rfl, hw⟩
                  refine ⟨_, rfl, ?_⟩
                  intro a H
                  have HP := hw ▸ HP
                  refine H.val 106 (.tuple #[(.int .i64 ((vstep ((stAt k us j).full) ((PX.data.size : Nat) : Int)).getD 0)), (.bool ((vstep ((stAt k us j).full) ((PX.data.size : Nat) : Int)).isSome))]) (by kernel_rfl) (by kernel_rfl) ?_
                  intro a H
                  refine H.val 110 (.int .i64 ((vstep ((stAt k us j).full) ((PX.data.size : Nat) : Int)).getD 0)) (by kernel_rfl) (by kernel_rfl) ?_
                  intro a H
                  refine H.val 111 (.bool ((vstep ((stAt k us j).full) ((PX.data.size : Nat) : Int)).isSome)) (by kernel_rfl) (by kernel_rfl) ?_
                  intro a H
                  refine H.val 22 (.int .i64 ((vstep ((stAt k us j).full) ((PX.data.size : Nat) : Int)).getD 0)) (by kernel_rfl) (by kernel_rfl) ?_
                  intro a H
                  refine H.val 23 (.bool ((vstep ((stAt k us j).full) ((PX.data.size : Nat) : Int)).isSome)) (by kernel_rfl) (by kernel_rfl) ?_
                  intro a H
                  refine wpList_nil ?_
                  have H := H.keep (L' := [(23, (.bool ((vstep ((stAt k us j).full) ((PX.data.size : Nat) : Int)).isSome))), (22, (.int .i64 ((vstep ((stAt k us j).full) ((PX.data.size : Nat) : Int)).getD 0))), (18, (.int .i64 ((PX.data.size : Nat) : Int))), (105, (.int .i64 ((PX.data.size : Nat) : Int))), (104, (.string PX.data)), (103, (.pointer (some ⟨b_24, 1, none⟩))), (102, (.bool (p.index != (((stAt k us j).last.index) + 1)))), (21, (.pointer (some ⟨b_24, 0, none⟩))), (78, (.bool (decide (p.index ≥ ((fa.pics.length : Nat) : Int))))), (20, (.bool F.isSome)), (19, (.pointer (some ⟨b_21, 0, none⟩))), (56, (.bool (p.item != 0))), (55, (.int .i64 p.item)), (54, (.pointer (some ⟨b_17, 0, none⟩))), (17, (.pointer (some ⟨b_17, 0, none⟩))), (45, (.bool (decide (((j : Nat) : Int) < ((ul.length : Nat) : Int))))), (44, (.int .i64 ((ul.length : Nat) : Int))), (43, (.slice (some ⟨bu, ou, none⟩) ul.length uc)), (42, (.int .i64 ((j : Nat) : Int))), (16, (.int .i64 ((j : Nat) : Int))), (15, (.slice (some ⟨bu, ou, none⟩) ul.length uc)), (14, (.int .i64 ((stAt k us j).full))), (13, (.pointer (some ⟨b_8, 0, none⟩))), (11, (.pointer (some ⟨b, 0, none⟩))), (10, (.slice LA 5 lc)), (9, (.bool true)), (8, (.bool false))]) (by kernel_rfl)
                  refine then_normal ?_
                  refine wp_seq ?_
                  refine wp_seq ?_
                  refine w_region ?_
                  refine H.val 112 (.bool ((vstep ((stAt k us j).full) ((PX.data.size : Nat) : Int)).isSome)) (by kernel_rfl) (by kernel_rfl) ?_
                  intro a H
                  refine H.val 113 (.bool (!((vstep ((stAt k us j).full) ((PX.data.size : Nat) : Int)).isSome))) (by kernel_rfl) (by kernel_rfl) ?_
                  intro a H
                  refine H.val 114 (.bool (!((vstep ((stAt k us j).full) ((PX.data.size : Nat) : Int)).isSome))) (by kernel_rfl) (by kernel_rfl) ?_
                  intro a H
                  refine H.split 114 rfl (fun g114 H => ?_) (fun g114 H => ?_)
                  · have g114p := not_is_true g114
                    refine H.skip 115 (by kernel_rfl) ?_
                    intro a H
                    refine H.skip 116 (by kernel_rfl) ?_
                    intro a H
                    refine H.skip 117 (by kernel_rfl) ?_
                    intro a H
                    refine H.skip 118 (by kernel_rfl) ?_
                    intro a H
                    refine H.val 119 (.bool true) (by kernel_rfl) (by kernel_rfl) ?_
                    intro a H
                    refine wpList_nil ?_
                    have H := H.keep (L' := [(119, (.bool true)), (23, (.bool ((vstep ((stAt k us j).full) ((PX.data.size : Nat) : Int)).isSome))), (22, (.int .i64 ((vstep ((stAt k us j).full) ((PX.data.size : Nat) : Int)).getD 0))), (18, (.int .i64 ((PX.data.size : Nat) : Int))), (105, (.int .i64 ((PX.data.size : Nat) : Int))), (104, (.string PX.data)), (103, (.pointer (some ⟨b_24, 1, none⟩))), (102, (.bool (p.index != (((stAt k us j).last.index) + 1)))), (21, (.pointer (some ⟨b_24, 0, none⟩))), (78, (.bool (decide (p.index ≥ ((fa.pics.length : Nat) : Int))))), (20, (.bool F.isSome)), (19, (.pointer (some ⟨b_21, 0, none⟩))), (56, (.bool (p.item != 0))), (55, (.int .i64 p.item)), (54, (.pointer (some ⟨b_17, 0, none⟩))), (17, (.pointer (some ⟨b_17, 0, none⟩))), (45, (.bool (decide (((j : Nat) : Int) < ((ul.length : Nat) : Int))))), (44, (.int .i64 ((ul.length : Nat) : Int))), (43, (.slice (some ⟨bu, ou, none⟩) ul.length uc)), (42, (.int .i64 ((j : Nat) : Int))), (16, (.int .i64 ((j : Nat) : Int))), (15, (.slice (some ⟨bu, ou, none⟩) ul.length uc)), (14, (.int .i64 ((stAt k us j).full))), (13, (.pointer (some ⟨b_8, 0, none⟩))), (11, (.pointer (some ⟨b, 0, none⟩))), (10, (.slice LA 5 lc)), (9, (.bool true)), (8, (.bool false))]) (by kernel_rfl)
                    refine then_normal ?_
                    refine w_ift H rfl ?_
                    refine wp_seq ?_
                    refine w_region ?_
                    refine H.val 8 (.bool false) (by kernel_rfl) (by kernel_rfl) ?_
                    intro a H
                    refine wpList_nil ?_
                    refine then_normal ?_
                    refine wp_ret ?_
                    refine then_ret ?_
                    refine inb_ret ?_
                    refine then_ret ?_
                    refine then_ret ?_
                    refine inb_ret ?_
                    refine then_ret ?_
                    refine H.ret1 (fn := Try.f3) Try.results3 (RV.tmp_ (v := (.bool false)) (by kernel_rfl)) ?_
                    exfalso
                    have hsz : (vstep (stAt k us j).full p.size).isSome = true := hL3
                    rw [hq3] at hsz hL4
                    rw [show (vstep (stAt k us j).full PX.data.size).isSome = true from hsz] at g114p; cases g114p
                  · have g114p := not_is_false g114
                    refine H.val 115 (.pointer (some ⟨b, 0, none⟩)) (by kernel_rfl) (by kernel_rfl) ?_
                    intro a H
                    refine H.call 116 (by kernel_rfl) (Eq.trans (by kernel_rfl : _ = (callFunc 17 #[(.pointer (some ⟨b, 0, none⟩))]).run Try.prog w_27) (Try.call17 _ _)) (full_any b k (stepS k (stAt k us j) u).2.2 w_27 (HP.held 4 rfl).ok) ?_
                    rintro e w_28 ⟨rfl, hw⟩
                    refine ⟨_, rfl, ?_⟩
                    intro a H
                    have HP := hw ▸ HP
                    refine H.val 117 (.int .i64 ((vstep ((stAt k us j).full) ((PX.data.size : Nat) : Int)).getD 0)) (by kernel_rfl) (by kernel_rfl) ?_
                    intro a H
                    refine H.val 118 (.bool (((stepS k (stAt k us j) u).2.2.full) != ((vstep ((stAt k us j).full) ((PX.data.size : Nat) : Int)).getD 0))) (by kernel_rfl) (by kernel_rfl) ?_
                    intro a H
                    refine H.val 119 (.bool (((stepS k (stAt k us j) u).2.2.full) != ((vstep ((stAt k us j).full) ((PX.data.size : Nat) : Int)).getD 0))) (by kernel_rfl) (by kernel_rfl) ?_
                    intro a H
                    refine wpList_nil ?_
                    have H := H.keep (L' := [(119, (.bool (((stepS k (stAt k us j) u).2.2.full) != ((vstep ((stAt k us j).full) ((PX.data.size : Nat) : Int)).getD 0)))), (23, (.bool ((vstep ((stAt k us j).full) ((PX.data.size : Nat) : Int)).isSome))), (22, (.int .i64 ((vstep ((stAt k us j).full) ((PX.data.size : Nat) : Int)).getD 0))), (18, (.int .i64 ((PX.data.size : Nat) : Int))), (105, (.int .i64 ((PX.data.size : Nat) : Int))), (104, (.string PX.data)), (103, (.pointer (some ⟨b_24, 1, none⟩))), (102, (.bool (p.index != (((stAt k us j).last.index) + 1)))), (21, (.pointer (some ⟨b_24, 0, none⟩))), (78, (.bool (decide (p.index ≥ ((fa.pics.length : Nat) : Int))))), (20, (.bool F.isSome)), (19, (.pointer (some ⟨b_21, 0, none⟩))), (56, (.bool (p.item != 0))), (55, (.int .i64 p.item)), (54, (.pointer (some ⟨b_17, 0, none⟩))), (17, (.pointer (some ⟨b_17, 0, none⟩))), (45, (.bool (decide (((j : Nat) : Int) < ((ul.length : Nat) : Int))))), (44, (.int .i64 ((ul.length : Nat) : Int))), (43, (.slice (some ⟨bu, ou, none⟩) ul.length uc)), (42, (.int .i64 ((j : Nat) : Int))), (16, (.int .i64 ((j : Nat) : Int))), (15, (.slice (some ⟨bu, ou, none⟩) ul.length uc)), (14, (.int .i64 ((stAt k us j).full))), (13, (.pointer (some ⟨b_8, 0, none⟩))), (11, (.pointer (some ⟨b, 0, none⟩))), (10, (.slice LA 5 lc)), (9, (.bool true)), (8, (.bool false))]) (by kernel_rfl)
                    refine then_normal ?_
                    refine w_if H rfl (fun g119 => ?_) (fun g119 => ?_)
                    · have g119p := bne_iff_ne.1 g119
                      refine wp_seq ?_
                      refine w_region ?_
                      refine H.val 8 (.bool false) (by kernel_rfl) (by kernel_rfl) ?_
                      intro a H
                      refine wpList_nil ?_
                      refine then_normal ?_
                      refine wp_ret ?_
                      refine then_ret ?_
                      refine inb_ret ?_
                      refine then_ret ?_
                      refine then_ret ?_
                      refine inb_ret ?_
                      refine then_ret ?_
                      refine H.ret1 (fn := Try.f3) Try.results3 (RV.tmp_ (v := (.bool false)) (by kernel_rfl)) ?_
                      exfalso
                      have hsz : (vstep (stAt k us j).full p.size).isSome = true := hL3
                      rw [hq3] at hsz hL4
                      exact g119p hL4
                    · have g119p := eq_of_bne_false g119
                      refine wp_skip ?_
                      refine then_normal ?_
                      refine wp_seq ?_
                      refine w_region ?_
                      refine H.val 120 (.int .i64 ((vstep ((stAt k us j).full) ((PX.data.size : Nat) : Int)).getD 0)) (by kernel_rfl) (by kernel_rfl) ?_
                      intro a H
                      refine H.val 14 (.int .i64 ((vstep ((stAt k us j).full) ((PX.data.size : Nat) : Int)).getD 0)) (by kernel_rfl) (by kernel_rfl) ?_
                      intro a H
                      refine wpList_nil ?_
                      refine then_normal ?_
                      refine w_region ?_
                      refine H.val 121 (.agg #[(.int .i64 p.item), (.int .i64 p.index), (.int .i64 v)]) (by kernel_rfl) (ex_loadN (vs := [(.int .i64 p.item), (.int .i64 p.index), (.int .i64 v)]) (by kernel_rfl) (by kernel_rfl) (by kernel_rfl) rfl (HP.cells 2 rfl 0 3 (by kernel_rfl))) ?_
                      intro a H
                      refine H.store HP 6 b_8 0 3 36 [(.int .i64 ((stAt k us j).last.item)), (.int .i64 ((stAt k us j).last.index)), (.int .i64 lv)] true (.agg #[(.int .i64 p.item), (.int .i64 p.index), (.int .i64 v)]) [bx b_24 53 [(.bool PX.key), (.string PX.data), (.int .i64 PX.power)] true, bx b_21 49 [(.int .i64 fa.item), (.slice (some ⟨b2, of2, none⟩) fa.pics.length fa.c)] true, bx b_17 36 [(.int .i64 p.item), (.int .i64 p.index), (.int .i64 v)] true, (unitsR (some ⟨bu, ou, none⟩) ul), (splR b k (stepS k (stAt k us j) u).2.2 NB_14 cB_15), (astsR LA 5 lib), bx b_8 36 [(.int .i64 p.item), (.int .i64 p.index), (.int .i64 v)] true] (by kernel_rfl) (by kernel_rfl) (by kernel_rfl) rfl (by kernel_rfl) (by kernel_rfl) (by kernel_rfl) (by kernel_rfl) (by kernel_rfl) ?_
                      intro w_29 a H HP
                      refine wpList_nil ?_
                      refine inb_normal ?_
                      refine then_normal ?_
                      refine w_region ?_
                      refine H.val 46 (.int .i64 ((j : Nat) : Int)) (by kernel_rfl) (by kernel_rfl) ?_
                      intro a H
                      refine H.valE 47 (.int .i64 (IntKind.i64.wrap (((j : Nat) : Int) + 1))) (.int .i64 (((j : Nat) : Int) + 1)) (by kernel_rfl) (by kernel_rfl) ((by rw [wrap_ini64 _ (by omega)])) ?_
                      intro a H
                      refine H.val 16 (.int .i64 (((j : Nat) : Int) + 1)) (by kernel_rfl) (by kernel_rfl) ?_
                      intro a H
                      refine wpList_nil ?_
                      refine then_normal ?_
                      have H := H.as 16 (.int .i64 ((j + 1 : Nat) : Int)) rfl rfl
                      have H := H.as 14 (.int .i64 ((stAt k us (j + 1)).full)) rfl (by rw [hst1, hL4, hq3])
                      refine ⟨_, ?_, j + 1, NB_14, cB_15, v, rfl, H.keep (by kernel_rfl), (by rw [hst1l, hst1]; exact (((HP.tail rfl).tail rfl).tail rfl)), by omega⟩
                      omega
            · have g88p := not_is_false g88
              refine H.skip 89 (by kernel_rfl) ?_
              intro a H
              refine H.skip 90 (by kernel_rfl) ?_
              intro a H
              refine H.skip 91 (by kernel_rfl) ?_
              intro a H
              refine H.skip 92 (by kernel_rfl) ?_
              intro a H
              refine H.skip 93 (by kernel_rfl) ?_
              intro a H
              refine H.skip 94 (by kernel_rfl) ?_
              intro a H
              refine H.skip 95 (by kernel_rfl) ?_
              intro a H
              refine H.skip 96 (by kernel_rfl) ?_
              intro a H
              refine H.skip 97 (by kernel_rfl) ?_
              intro a H
              refine H.skip 98 (by kernel_rfl) ?_
              intro a H
              refine H.skip 99 (by kernel_rfl) ?_
              intro a H
              refine H.skip 100 (by kernel_rfl) ?_
              intro a H
              refine H.skip 101 (by kernel_rfl) ?_
              intro a H
              refine H.val 102 (.bool false) (by kernel_rfl) (by kernel_rfl) ?_
              intro a H
              refine wpList_nil ?_
              have H := H.keep (L' := [(102, (.bool false)), (21, (.pointer (some ⟨b_24, 0, none⟩))), (78, (.bool (decide (p.index ≥ ((fa.pics.length : Nat) : Int))))), (20, (.bool F.isSome)), (19, (.pointer (some ⟨b_21, 0, none⟩))), (56, (.bool (p.item != 0))), (55, (.int .i64 p.item)), (54, (.pointer (some ⟨b_17, 0, none⟩))), (18, (.int .i64 0)), (17, (.pointer (some ⟨b_17, 0, none⟩))), (45, (.bool (decide (((j : Nat) : Int) < ((ul.length : Nat) : Int))))), (44, (.int .i64 ((ul.length : Nat) : Int))), (43, (.slice (some ⟨bu, ou, none⟩) ul.length uc)), (42, (.int .i64 ((j : Nat) : Int))), (16, (.int .i64 ((j : Nat) : Int))), (15, (.slice (some ⟨bu, ou, none⟩) ul.length uc)), (14, (.int .i64 ((stAt k us j).full))), (13, (.pointer (some ⟨b_8, 0, none⟩))), (11, (.pointer (some ⟨b, 0, none⟩))), (10, (.slice LA 5 lc)), (9, (.bool true)), (8, (.bool false))]) (by kernel_rfl)
              refine then_normal ?_
              refine w_iff H rfl ?_
              refine wp_skip ?_
              refine then_normal ?_
              refine w_region ?_
              refine H.val 103 (.pointer (some ⟨b_24, 1, none⟩)) (by kernel_rfl) (by kernel_rfl) ?_
              intro a H
              refine H.val 104 (.string PX.data) (by kernel_rfl) (ex_load1 (by kernel_rfl) (by kernel_rfl) (HP.cell 0 rfl 1 rfl)) ?_
              intro a H
              refine H.val 105 (.int .i64 ((PX.data.size : Nat) : Int)) (by kernel_rfl) (by kernel_rfl) ?_
              intro a H
              refine H.val 18 (.int .i64 ((PX.data.size : Nat) : Int)) (by kernel_rfl) (by kernel_rfl) ?_
              intro a H
              refine wpList_nil ?_
              refine then_normal ?_
              refine wp_seq ?_
              refine w_region ?_
              refine H.val 107 (.int .i64 ((stAt k us j).full)) (by kernel_rfl) (by kernel_rfl) ?_
              intro a H
              refine H.val 108 (.int .i64 ((PX.data.size : Nat) : Int)) (by kernel_rfl) (by kernel_rfl) ?_
              intro a H
              refine H.call 109 (by kernel_rfl) (Eq.trans (by kernel_rfl : _ = (callFunc 16 #[(.int .i64 ((stAt k us j).full)), (.int .i64 ((PX.data.size : Nat) : Int))]).run Try.prog w_26) (Try.call16 _ _)) (refStep_any ((stAt k us j).full) ((PX.data.size : Nat) : Int) w_26) ?_
              rintro e w_30 ⟨rfl, hw⟩
              refine ⟨_, rfl, ?_⟩
              intro a H
              have HP := hw ▸ HP
              refine H.val 106 (.tuple #[(.int .i64 ((vstep ((stAt k us j).full) ((PX.data.size : Nat) : Int)).getD 0)), (.bool ((vstep ((stAt k us j).full) ((PX.data.size : Nat) : Int)).isSome))]) (by kernel_rfl) (by kernel_rfl) ?_
              intro a H
              refine H.val 110 (.int .i64 ((vstep ((stAt k us j).full) ((PX.data.size : Nat) : Int)).getD 0)) (by kernel_rfl) (by kernel_rfl) ?_
              intro a H
              refine H.val 111 (.bool ((vstep ((stAt k us j).full) ((PX.data.size : Nat) : Int)).isSome)) (by kernel_rfl) (by kernel_rfl) ?_
              intro a H
              refine H.val 22 (.int .i64 ((vstep ((stAt k us j).full) ((PX.data.size : Nat) : Int)).getD 0)) (by kernel_rfl) (by kernel_rfl) ?_
              intro a H
              refine H.val 23 (.bool ((vstep ((stAt k us j).full) ((PX.data.size : Nat) : Int)).isSome)) (by kernel_rfl) (by kernel_rfl) ?_
              intro a H
              refine wpList_nil ?_
              have H := H.keep (L' := [(23, (.bool ((vstep ((stAt k us j).full) ((PX.data.size : Nat) : Int)).isSome))), (22, (.int .i64 ((vstep ((stAt k us j).full) ((PX.data.size : Nat) : Int)).getD 0))), (18, (.int .i64 ((PX.data.size : Nat) : Int))), (105, (.int .i64 ((PX.data.size : Nat) : Int))), (104, (.string PX.data)), (103, (.pointer (some ⟨b_24, 1, none⟩))), (102, (.bool false)), (21, (.pointer (some ⟨b_24, 0, none⟩))), (78, (.bool (decide (p.index ≥ ((fa.pics.length : Nat) : Int))))), (20, (.bool F.isSome)), (19, (.pointer (some ⟨b_21, 0, none⟩))), (56, (.bool (p.item != 0))), (55, (.int .i64 p.item)), (54, (.pointer (some ⟨b_17, 0, none⟩))), (17, (.pointer (some ⟨b_17, 0, none⟩))), (45, (.bool (decide (((j : Nat) : Int) < ((ul.length : Nat) : Int))))), (44, (.int .i64 ((ul.length : Nat) : Int))), (43, (.slice (some ⟨bu, ou, none⟩) ul.length uc)), (42, (.int .i64 ((j : Nat) : Int))), (16, (.int .i64 ((j : Nat) : Int))), (15, (.slice (some ⟨bu, ou, none⟩) ul.length uc)), (14, (.int .i64 ((stAt k us j).full))), (13, (.pointer (some ⟨b_8, 0, none⟩))), (11, (.pointer (some ⟨b, 0, none⟩))), (10, (.slice LA 5 lc)), (9, (.bool true)), (8, (.bool false))]) (by kernel_rfl)
              refine then_normal ?_
              refine wp_seq ?_
              refine wp_seq ?_
              refine w_region ?_
              refine H.val 112 (.bool ((vstep ((stAt k us j).full) ((PX.data.size : Nat) : Int)).isSome)) (by kernel_rfl) (by kernel_rfl) ?_
              intro a H
              refine H.val 113 (.bool (!((vstep ((stAt k us j).full) ((PX.data.size : Nat) : Int)).isSome))) (by kernel_rfl) (by kernel_rfl) ?_
              intro a H
              refine H.val 114 (.bool (!((vstep ((stAt k us j).full) ((PX.data.size : Nat) : Int)).isSome))) (by kernel_rfl) (by kernel_rfl) ?_
              intro a H
              refine H.split 114 rfl (fun g114 H => ?_) (fun g114 H => ?_)
              · have g114p := not_is_true g114
                refine H.skip 115 (by kernel_rfl) ?_
                intro a H
                refine H.skip 116 (by kernel_rfl) ?_
                intro a H
                refine H.skip 117 (by kernel_rfl) ?_
                intro a H
                refine H.skip 118 (by kernel_rfl) ?_
                intro a H
                refine H.val 119 (.bool true) (by kernel_rfl) (by kernel_rfl) ?_
                intro a H
                refine wpList_nil ?_
                have H := H.keep (L' := [(119, (.bool true)), (23, (.bool ((vstep ((stAt k us j).full) ((PX.data.size : Nat) : Int)).isSome))), (22, (.int .i64 ((vstep ((stAt k us j).full) ((PX.data.size : Nat) : Int)).getD 0))), (18, (.int .i64 ((PX.data.size : Nat) : Int))), (105, (.int .i64 ((PX.data.size : Nat) : Int))), (104, (.string PX.data)), (103, (.pointer (some ⟨b_24, 1, none⟩))), (102, (.bool false)), (21, (.pointer (some ⟨b_24, 0, none⟩))), (78, (.bool (decide (p.index ≥ ((fa.pics.length : Nat) : Int))))), (20, (.bool F.isSome)), (19, (.pointer (some ⟨b_21, 0, none⟩))), (56, (.bool (p.item != 0))), (55, (.int .i64 p.item)), (54, (.pointer (some ⟨b_17, 0, none⟩))), (17, (.pointer (some ⟨b_17, 0, none⟩))), (45, (.bool (decide (((j : Nat) : Int) < ((ul.length : Nat) : Int))))), (44, (.int .i64 ((ul.length : Nat) : Int))), (43, (.slice (some ⟨bu, ou, none⟩) ul.length uc)), (42, (.int .i64 ((j : Nat) : Int))), (16, (.int .i64 ((j : Nat) : Int))), (15, (.slice (some ⟨bu, ou, none⟩) ul.length uc)), (14, (.int .i64 ((stAt k us j).full))), (13, (.pointer (some ⟨b_8, 0, none⟩))), (11, (.pointer (some ⟨b, 0, none⟩))), (10, (.slice LA 5 lc)), (9, (.bool true)), (8, (.bool false))]) (by kernel_rfl)
                refine then_normal ?_
                refine w_ift H rfl ?_
                refine wp_seq ?_
                refine w_region ?_
                refine H.val 8 (.bool false) (by kernel_rfl) (by kernel_rfl) ?_
                intro a H
                refine wpList_nil ?_
                refine then_normal ?_
                refine wp_ret ?_
                refine then_ret ?_
                refine inb_ret ?_
                refine then_ret ?_
                refine then_ret ?_
                refine inb_ret ?_
                refine then_ret ?_
                refine H.ret1 (fn := Try.f3) Try.results3 (RV.tmp_ (v := (.bool false)) (by kernel_rfl)) ?_
                exfalso
                have hsz : (vstep (stAt k us j).full p.size).isSome = true := hL3
                rw [hq3] at hsz hL4
                rw [show (vstep (stAt k us j).full PX.data.size).isSome = true from hsz] at g114p; cases g114p
              · have g114p := not_is_false g114
                refine H.val 115 (.pointer (some ⟨b, 0, none⟩)) (by kernel_rfl) (by kernel_rfl) ?_
                intro a H
                refine H.call 116 (by kernel_rfl) (Eq.trans (by kernel_rfl : _ = (callFunc 17 #[(.pointer (some ⟨b, 0, none⟩))]).run Try.prog w_30) (Try.call17 _ _)) (full_any b k (stepS k (stAt k us j) u).2.2 w_30 (HP.held 4 rfl).ok) ?_
                rintro e w_31 ⟨rfl, hw⟩
                refine ⟨_, rfl, ?_⟩
                intro a H
                have HP := hw ▸ HP
                refine H.val 117 (.int .i64 ((vstep ((stAt k us j).full) ((PX.data.size : Nat) : Int)).getD 0)) (by kernel_rfl) (by kernel_rfl) ?_
                intro a H
                refine H.val 118 (.bool (((stepS k (stAt k us j) u).2.2.full) != ((vstep ((stAt k us j).full) ((PX.data.size : Nat) : Int)).getD 0))) (by kernel_rfl) (by kernel_rfl) ?_
                intro a H
                refine H.val 119 (.bool (((stepS k (stAt k us j) u).2.2.full) != ((vstep ((stAt k us j).full) ((PX.data.size : Nat) : Int)).getD 0))) (by kernel_rfl) (by kernel_rfl) ?_
                intro a H
                refine wpList_nil ?_
                have H := H.keep (L' := [(119, (.bool (((stepS k (stAt k us j) u).2.2.full) != ((vstep ((stAt k us j).full) ((PX.data.size : Nat) : Int)).getD 0)))), (23, (.bool ((vstep ((stAt k us j).full) ((PX.data.size : Nat) : Int)).isSome))), (22, (.int .i64 ((vstep ((stAt k us j).full) ((PX.data.size : Nat) : Int)).getD 0))), (18, (.int .i64 ((PX.data.size : Nat) : Int))), (105, (.int .i64 ((PX.data.size : Nat) : Int))), (104, (.string PX.data)), (103, (.pointer (some ⟨b_24, 1, none⟩))), (102, (.bool false)), (21, (.pointer (some ⟨b_24, 0, none⟩))), (78, (.bool (decide (p.index ≥ ((fa.pics.length : Nat) : Int))))), (20, (.bool F.isSome)), (19, (.pointer (some ⟨b_21, 0, none⟩))), (56, (.bool (p.item != 0))), (55, (.int .i64 p.item)), (54, (.pointer (some ⟨b_17, 0, none⟩))), (17, (.pointer (some ⟨b_17, 0, none⟩))), (45, (.bool (decide (((j : Nat) : Int) < ((ul.length : Nat) : Int))))), (44, (.int .i64 ((ul.length : Nat) : Int))), (43, (.slice (some ⟨bu, ou, none⟩) ul.length uc)), (42, (.int .i64 ((j : Nat) : Int))), (16, (.int .i64 ((j : Nat) : Int))), (15, (.slice (some ⟨bu, ou, none⟩) ul.length uc)), (14, (.int .i64 ((stAt k us j).full))), (13, (.pointer (some ⟨b_8, 0, none⟩))), (11, (.pointer (some ⟨b, 0, none⟩))), (10, (.slice LA 5 lc)), (9, (.bool true)), (8, (.bool false))]) (by kernel_rfl)
                refine then_normal ?_
                refine w_if H rfl (fun g119 => ?_) (fun g119 => ?_)
                · have g119p := bne_iff_ne.1 g119
                  refine wp_seq ?_
                  refine w_region ?_
                  refine H.val 8 (.bool false) (by kernel_rfl) (by kernel_rfl) ?_
                  intro a H
                  refine wpList_nil ?_
                  refine then_normal ?_
                  refine wp_ret ?_
                  refine then_ret ?_
                  refine inb_ret ?_
                  refine then_ret ?_
                  refine then_ret ?_
                  refine inb_ret ?_
                  refine then_ret ?_
                  refine H.ret1 (fn := Try.f3) Try.results3 (RV.tmp_ (v := (.bool false)) (by kernel_rfl)) ?_
                  exfalso
                  have hsz : (vstep (stAt k us j).full p.size).isSome = true := hL3
                  rw [hq3] at hsz hL4
                  exact g119p hL4
                · have g119p := eq_of_bne_false g119
                  refine wp_skip ?_
                  refine then_normal ?_
                  refine wp_seq ?_
                  refine w_region ?_
                  refine H.val 120 (.int .i64 ((vstep ((stAt k us j).full) ((PX.data.size : Nat) : Int)).getD 0)) (by kernel_rfl) (by kernel_rfl) ?_
                  intro a H
                  refine H.val 14 (.int .i64 ((vstep ((stAt k us j).full) ((PX.data.size : Nat) : Int)).getD 0)) (by kernel_rfl) (by kernel_rfl) ?_
                  intro a H
                  refine wpList_nil ?_
                  refine then_normal ?_
                  refine w_region ?_
                  refine H.val 121 (.agg #[(.int .i64 p.item), (.int .i64 p.index), (.int .i64 v)]) (by kernel_rfl) (ex_loadN (vs := [(.int .i64 p.item), (.int .i64 p.index), (.int .i64 v)]) (by kernel_rfl) (by kernel_rfl) (by kernel_rfl) rfl (HP.cells 2 rfl 0 3 (by kernel_rfl))) ?_
                  intro a H
                  refine H.store HP 6 b_8 0 3 36 [(.int .i64 ((stAt k us j).last.item)), (.int .i64 ((stAt k us j).last.index)), (.int .i64 lv)] true (.agg #[(.int .i64 p.item), (.int .i64 p.index), (.int .i64 v)]) [bx b_24 53 [(.bool PX.key), (.string PX.data), (.int .i64 PX.power)] true, bx b_21 49 [(.int .i64 fa.item), (.slice (some ⟨b2, of2, none⟩) fa.pics.length fa.c)] true, bx b_17 36 [(.int .i64 p.item), (.int .i64 p.index), (.int .i64 v)] true, (unitsR (some ⟨bu, ou, none⟩) ul), (splR b k (stepS k (stAt k us j) u).2.2 NB_14 cB_15), (astsR LA 5 lib), bx b_8 36 [(.int .i64 p.item), (.int .i64 p.index), (.int .i64 v)] true] (by kernel_rfl) (by kernel_rfl) (by kernel_rfl) rfl (by kernel_rfl) (by kernel_rfl) (by kernel_rfl) (by kernel_rfl) (by kernel_rfl) ?_
                  intro w_32 a H HP
                  refine wpList_nil ?_
                  refine inb_normal ?_
                  refine then_normal ?_
                  refine w_region ?_
                  refine H.val 46 (.int .i64 ((j : Nat) : Int)) (by kernel_rfl) (by kernel_rfl) ?_
                  intro a H
                  refine H.valE 47 (.int .i64 (IntKind.i64.wrap (((j : Nat) : Int) + 1))) (.int .i64 (((j : Nat) : Int) + 1)) (by kernel_rfl) (by kernel_rfl) ((by rw [wrap_ini64 _ (by omega)])) ?_
                  intro a H
                  refine H.val 16 (.int .i64 (((j : Nat) : Int) + 1)) (by kernel_rfl) (by kernel_rfl) ?_
                  intro a H
                  refine wpList_nil ?_
                  refine then_normal ?_
                  have H := H.as 16 (.int .i64 ((j + 1 : Nat) : Int)) rfl rfl
                  have H := H.as 14 (.int .i64 ((stAt k us (j + 1)).full)) rfl (by rw [hst1, hL4, hq3])
                  refine ⟨_, ?_, j + 1, NB_14, cB_15, v, rfl, H.keep (by kernel_rfl), (by rw [hst1l, hst1]; exact (((HP.tail rfl).tail rfl).tail rfl)), by omega⟩
                  omega
    · have g56p := eq_of_bne_false g56
      refine wp_skip ?_
      refine then_normal ?_
      refine wp_seq ?_
      refine w_region ?_
      refine H.val 107 (.int .i64 ((stAt k us j).full)) (by kernel_rfl) (by kernel_rfl) ?_
      intro a H
      refine H.val 108 (.int .i64 0) (by kernel_rfl) (by kernel_rfl) ?_
      intro a H
      refine H.call 109 (by kernel_rfl) (Eq.trans (by kernel_rfl : _ = (callFunc 16 #[(.int .i64 ((stAt k us j).full)), (.int .i64 0)]).run Try.prog w_19) (Try.call16 _ _)) (refStep_any ((stAt k us j).full) 0 w_19) ?_
      rintro e w_33 ⟨rfl, hw⟩
      refine ⟨_, rfl, ?_⟩
      intro a H
      have HP := hw ▸ HP
      refine H.val 106 (.tuple #[(.int .i64 ((vstep ((stAt k us j).full) 0).getD 0)), (.bool ((vstep ((stAt k us j).full) 0).isSome))]) (by kernel_rfl) (by kernel_rfl) ?_
      intro a H
      refine H.val 110 (.int .i64 ((vstep ((stAt k us j).full) 0).getD 0)) (by kernel_rfl) (by kernel_rfl) ?_
      intro a H
      refine H.val 111 (.bool ((vstep ((stAt k us j).full) 0).isSome)) (by kernel_rfl) (by kernel_rfl) ?_
      intro a H
      refine H.val 22 (.int .i64 ((vstep ((stAt k us j).full) 0).getD 0)) (by kernel_rfl) (by kernel_rfl) ?_
      intro a H
      refine H.val 23 (.bool ((vstep ((stAt k us j).full) 0).isSome)) (by kernel_rfl) (by kernel_rfl) ?_
      intro a H
      refine wpList_nil ?_
      have H := H.keep (L' := [(23, (.bool ((vstep ((stAt k us j).full) 0).isSome))), (22, (.int .i64 ((vstep ((stAt k us j).full) 0).getD 0))), (56, (.bool (p.item != 0))), (55, (.int .i64 p.item)), (54, (.pointer (some ⟨b_17, 0, none⟩))), (18, (.int .i64 0)), (17, (.pointer (some ⟨b_17, 0, none⟩))), (45, (.bool (decide (((j : Nat) : Int) < ((ul.length : Nat) : Int))))), (44, (.int .i64 ((ul.length : Nat) : Int))), (43, (.slice (some ⟨bu, ou, none⟩) ul.length uc)), (42, (.int .i64 ((j : Nat) : Int))), (16, (.int .i64 ((j : Nat) : Int))), (15, (.slice (some ⟨bu, ou, none⟩) ul.length uc)), (14, (.int .i64 ((stAt k us j).full))), (13, (.pointer (some ⟨b_8, 0, none⟩))), (11, (.pointer (some ⟨b, 0, none⟩))), (10, (.slice LA 5 lc)), (9, (.bool true)), (8, (.bool false))]) (by kernel_rfl)
      refine then_normal ?_
      refine wp_seq ?_
      refine wp_seq ?_
      refine w_region ?_
      refine H.val 112 (.bool ((vstep ((stAt k us j).full) 0).isSome)) (by kernel_rfl) (by kernel_rfl) ?_
      intro a H
      refine H.val 113 (.bool (!((vstep ((stAt k us j).full) 0).isSome))) (by kernel_rfl) (by kernel_rfl) ?_
      intro a H
      refine H.val 114 (.bool (!((vstep ((stAt k us j).full) 0).isSome))) (by kernel_rfl) (by kernel_rfl) ?_
      intro a H
      refine H.split 114 rfl (fun g114 H => ?_) (fun g114 H => ?_)
      · have g114p := not_is_true g114
        refine H.skip 115 (by kernel_rfl) ?_
        intro a H
        refine H.skip 116 (by kernel_rfl) ?_
        intro a H
        refine H.skip 117 (by kernel_rfl) ?_
        intro a H
        refine H.skip 118 (by kernel_rfl) ?_
        intro a H
        refine H.val 119 (.bool true) (by kernel_rfl) (by kernel_rfl) ?_
        intro a H
        refine wpList_nil ?_
        have H := H.keep (L' := [(119, (.bool true)), (23, (.bool ((vstep ((stAt k us j).full) 0).isSome))), (22, (.int .i64 ((vstep ((stAt k us j).full) 0).getD 0))), (56, (.bool (p.item != 0))), (55, (.int .i64 p.item)), (54, (.pointer (some ⟨b_17, 0, none⟩))), (18, (.int .i64 0)), (17, (.pointer (some ⟨b_17, 0, none⟩))), (45, (.bool (decide (((j : Nat) : Int) < ((ul.length : Nat) : Int))))), (44, (.int .i64 ((ul.length : Nat) : Int))), (43, (.slice (some ⟨bu, ou, none⟩) ul.length uc)), (42, (.int .i64 ((j : Nat) : Int))), (16, (.int .i64 ((j : Nat) : Int))), (15, (.slice (some ⟨bu, ou, none⟩) ul.length uc)), (14, (.int .i64 ((stAt k us j).full))), (13, (.pointer (some ⟨b_8, 0, none⟩))), (11, (.pointer (some ⟨b, 0, none⟩))), (10, (.slice LA 5 lc)), (9, (.bool true)), (8, (.bool false))]) (by kernel_rfl)
        refine then_normal ?_
        refine w_ift H rfl ?_
        refine wp_seq ?_
        refine w_region ?_
        refine H.val 8 (.bool false) (by kernel_rfl) (by kernel_rfl) ?_
        intro a H
        refine wpList_nil ?_
        refine then_normal ?_
        refine wp_ret ?_
        refine then_ret ?_
        refine inb_ret ?_
        refine then_ret ?_
        refine then_ret ?_
        refine inb_ret ?_
        refine then_ret ?_
        refine H.ret1 (fn := Try.f3) Try.results3 (RV.tmp_ (v := (.bool false)) (by kernel_rfl)) ?_
        exfalso
        have hsz : (vstep (stAt k us j).full p.size).isSome = true := hL3
        rw [hL2 g56p] at hsz hL4
        rw [show (vstep (stAt k us j).full 0).isSome = true from hsz] at g114p; cases g114p
      · have g114p := not_is_false g114
        refine H.val 115 (.pointer (some ⟨b, 0, none⟩)) (by kernel_rfl) (by kernel_rfl) ?_
        intro a H
        refine H.call 116 (by kernel_rfl) (Eq.trans (by kernel_rfl : _ = (callFunc 17 #[(.pointer (some ⟨b, 0, none⟩))]).run Try.prog w_33) (Try.call17 _ _)) (full_any b k (stepS k (stAt k us j) u).2.2 w_33 (HP.held 2 rfl).ok) ?_
        rintro e w_34 ⟨rfl, hw⟩
        refine ⟨_, rfl, ?_⟩
        intro a H
        have HP := hw ▸ HP
        refine H.val 117 (.int .i64 ((vstep ((stAt k us j).full) 0).getD 0)) (by kernel_rfl) (by kernel_rfl) ?_
        intro a H
        refine H.val 118 (.bool (((stepS k (stAt k us j) u).2.2.full) != ((vstep ((stAt k us j).full) 0).getD 0))) (by kernel_rfl) (by kernel_rfl) ?_
        intro a H
        refine H.val 119 (.bool (((stepS k (stAt k us j) u).2.2.full) != ((vstep ((stAt k us j).full) 0).getD 0))) (by kernel_rfl) (by kernel_rfl) ?_
        intro a H
        refine wpList_nil ?_
        have H := H.keep (L' := [(119, (.bool (((stepS k (stAt k us j) u).2.2.full) != ((vstep ((stAt k us j).full) 0).getD 0)))), (23, (.bool ((vstep ((stAt k us j).full) 0).isSome))), (22, (.int .i64 ((vstep ((stAt k us j).full) 0).getD 0))), (56, (.bool (p.item != 0))), (55, (.int .i64 p.item)), (54, (.pointer (some ⟨b_17, 0, none⟩))), (18, (.int .i64 0)), (17, (.pointer (some ⟨b_17, 0, none⟩))), (45, (.bool (decide (((j : Nat) : Int) < ((ul.length : Nat) : Int))))), (44, (.int .i64 ((ul.length : Nat) : Int))), (43, (.slice (some ⟨bu, ou, none⟩) ul.length uc)), (42, (.int .i64 ((j : Nat) : Int))), (16, (.int .i64 ((j : Nat) : Int))), (15, (.slice (some ⟨bu, ou, none⟩) ul.length uc)), (14, (.int .i64 ((stAt k us j).full))), (13, (.pointer (some ⟨b_8, 0, none⟩))), (11, (.pointer (some ⟨b, 0, none⟩))), (10, (.slice LA 5 lc)), (9, (.bool true)), (8, (.bool false))]) (by kernel_rfl)
        refine then_normal ?_
        refine w_if H rfl (fun g119 => ?_) (fun g119 => ?_)
        · have g119p := bne_iff_ne.1 g119
          refine wp_seq ?_
          refine w_region ?_
          refine H.val 8 (.bool false) (by kernel_rfl) (by kernel_rfl) ?_
          intro a H
          refine wpList_nil ?_
          refine then_normal ?_
          refine wp_ret ?_
          refine then_ret ?_
          refine inb_ret ?_
          refine then_ret ?_
          refine then_ret ?_
          refine inb_ret ?_
          refine then_ret ?_
          refine H.ret1 (fn := Try.f3) Try.results3 (RV.tmp_ (v := (.bool false)) (by kernel_rfl)) ?_
          exfalso
          have hsz : (vstep (stAt k us j).full p.size).isSome = true := hL3
          rw [hL2 g56p] at hsz hL4
          exact g119p hL4
        · have g119p := eq_of_bne_false g119
          refine wp_skip ?_
          refine then_normal ?_
          refine wp_seq ?_
          refine w_region ?_
          refine H.val 120 (.int .i64 ((vstep ((stAt k us j).full) 0).getD 0)) (by kernel_rfl) (by kernel_rfl) ?_
          intro a H
          refine H.val 14 (.int .i64 ((vstep ((stAt k us j).full) 0).getD 0)) (by kernel_rfl) (by kernel_rfl) ?_
          intro a H
          refine wpList_nil ?_
          refine then_normal ?_
          refine w_region ?_
          refine H.val 121 (.agg #[(.int .i64 p.item), (.int .i64 p.index), (.int .i64 v)]) (by kernel_rfl) (ex_loadN (vs := [(.int .i64 p.item), (.int .i64 p.index), (.int .i64 v)]) (by kernel_rfl) (by kernel_rfl) (by kernel_rfl) rfl (HP.cells 0 rfl 0 3 (by kernel_rfl))) ?_
          intro a H
          refine H.store HP 4 b_8 0 3 36 [(.int .i64 ((stAt k us j).last.item)), (.int .i64 ((stAt k us j).last.index)), (.int .i64 lv)] true (.agg #[(.int .i64 p.item), (.int .i64 p.index), (.int .i64 v)]) [bx b_17 36 [(.int .i64 p.item), (.int .i64 p.index), (.int .i64 v)] true, (unitsR (some ⟨bu, ou, none⟩) ul), (splR b k (stepS k (stAt k us j) u).2.2 NB_14 cB_15), (astsR LA 5 lib), bx b_8 36 [(.int .i64 p.item), (.int .i64 p.index), (.int .i64 v)] true] (by kernel_rfl) (by kernel_rfl) (by kernel_rfl) rfl (by kernel_rfl) (by kernel_rfl) (by kernel_rfl) (by kernel_rfl) (by kernel_rfl) ?_
          intro w_35 a H HP
          refine wpList_nil ?_
          refine inb_normal ?_
          refine then_normal ?_
          refine w_region ?_
          refine H.val 46 (.int .i64 ((j : Nat) : Int)) (by kernel_rfl) (by kernel_rfl) ?_
          intro a H
          refine H.valE 47 (.int .i64 (IntKind.i64.wrap (((j : Nat) : Int) + 1))) (.int .i64 (((j : Nat) : Int) + 1)) (by kernel_rfl) (by kernel_rfl) ((by rw [wrap_ini64 _ (by omega)])) ?_
          intro a H
          refine H.val 16 (.int .i64 (((j : Nat) : Int) + 1)) (by kernel_rfl) (by kernel_rfl) ?_
          intro a H
          refine wpList_nil ?_
          refine then_normal ?_
          have H := H.as 16 (.int .i64 ((j + 1 : Nat) : Int)) rfl rfl
          have H := H.as 14 (.int .i64 ((stAt k us (j + 1)).full)) rfl (by rw [hst1, hL4, hL2 g56p]; rfl)
          refine ⟨_, ?_, j + 1, NB_14, cB_15, v, rfl, H.keep (by kernel_rfl), (by rw [hst1l, hst1]; exact (HP.tail rfl)), by omega⟩
          omega
  · have g45p := of_decide_eq_false g45
    refine wp_exit ?_
    refine then_exit ?_
    refine then_exit ?_
    refine w_exit_here ?_
    refine then_normal ?_
    refine wp_seq ?_
    refine w_region ?_
    refine H.val 122 (.bool true) (by kernel_rfl) (by kernel_rfl) ?_
    intro a H
    refine H.val 8 (.bool true) (by kernel_rfl) (by kernel_rfl) ?_
    intro a H
    refine wpList_nil ?_
    refine then_normal ?_
    refine wp_ret ?_
    refine H.ret1 (fn := Try.f3) Try.results3 (RV.tmp_ (v := (.bool true)) (by kernel_rfl)) ?_
    exact ⟨rfl, (HP.below (by kernel_rfl))⟩
end Go.Proofs.Ytpaepefpfaoacaa
