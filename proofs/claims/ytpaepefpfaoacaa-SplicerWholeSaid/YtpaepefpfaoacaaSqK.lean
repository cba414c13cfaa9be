/- SplicerWhole: the walk. -/
import Derived.Test.YtpaepefpfaoacaaSqI
namespace Go.Proofs.Ytpaepefpfaoacaa
open Go.ChangeShapes Go.WideShapes Go.ChangeAt Go.RowKit
set_option linter.unusedVariables false
set_option linter.unusedSimpArgs false

theorem stepS_last (k : SpK) (s : Sp) (u : UnitA) : (stepS k s u).2.2.last = (stepS k s u).1 := by
  unfold stepS
  split
  · rfl
  · split <;> rfl
theorem feed_frame {us : List US} {ul : List UnitA} {j : Nat} {u : UnitA} (h : ul.map UnitA.spec = us) (hj : j < ul.length) (hu : ul.getD j (slateA 0) = u) : u.frame = (us.getD j (slateS 0)).frame := by
  subst h; subst hu
  simp [List.getD, List.getElem?_eq_getElem hj, UnitA.spec]
theorem shown_whole {k : SpK} {s : Sp} {u : UnitA} {lib : List AstA} (hs : sameA k.store lib) (hl : ∀ a ∈ lib, a.pics.length ≤ 2000000) (h0 : (stepS k s u).1.item ≠ 0) (hn : ¬ ((stepS k s u).1.item = u.item ∧ (stepS k s u).1.index = u.index)) :
    (stepS k s u).1.index = u.frame - u.os ∧ (stepS k s u).1.index < u.of ∧ (0 < (stepS k s u).1.index → s.last.item = (stepS k s u).1.item ∧ s.last.index = (stepS k s u).1.index - 1) ∧ 0 ≤ (stepS k s u).1.index ∧ (stepS k s u).1.index ≤ 2000000 := by
  unfold stepS at *
  split at h0
  · exact absurd rfl h0
  · rename_i hch
    split at h0
    · exact absurd rfl h0
    · rename_i hit
      rw [if_neg hch, if_neg hit] at hn ⊢
      simp only at h0 hn ⊢
      rcases pickP_cases k (s.noting k.region u) u with ⟨h, _⟩ | ⟨p, ha, h⟩ | ⟨_, h, _, hm⟩
      · rw [h] at h0; exact absurd rfl h0
      · rw [h] at hn ⊢
        obtain ⟨⟨n, _, hok⟩, ⟨a, hp1, hp2, hp3, _⟩, _, _, hix, hlt⟩ := altP_pic ha
        obtain ⟨b, hb, hbp⟩ := findA_some_same hs hp1
        have hbl := hl b (findA_mem hb).1
        rw [hbp] at hbl
        refine ⟨hix, hlt, fun hpos => ?_, hp2, by omega⟩
        rcases altOk_may hok with hm | ⟨hz, _, _⟩
        · have hc := (mayP_some hm).2
          simp only [List.any_cons, List.any_nil, Bool.or_false, Way.ok, contP, Bool.and_eq_true, beq_iff_eq, decide_eq_true_eq] at hc
          exact ⟨hc.1.symm, hc.2.2.symm⟩
        · omega
      · rw [h] at hn
        exact absurd ⟨rfl, rfl⟩ hn

set_option maxRecDepth 100000 in
set_option maxHeartbeats 16000000 in
theorem whole_walk (r : Int) (X : Nat → Int) (PA : Option Addr) (pn pc : Nat) (PL : List Pc) (ZA : Option Addr) (zn zc : Nat) (zs : List Int) (w : World) (hreg : -9223372036854775808 ≤ r ∧ r ≤ 9223372036854775807) (hX : ∀ i, -9223372036854775808 ≤ X i ∧ X i ≤ 9223372036854775807) (hpcs : IsRow 5 Pc.cells w PA pn PL) (hpn : pn ≤ 9223372036854775807) (hpb : ∀ p ∈ PL, p.bd) (hzs : IsInts w ZA zn zs) (hzn : zn ≤ 9223372036854775807) (hzb : ∀ z ∈ zs, -9223372036854775808 ≤ z ∧ z ≤ 9223372036854775807) :
    Calls Try.prog 4 #[.int .i64 r, .agg #[.int .i64 (X 0), .int .i64 (X 1), .int .i64 (X 2), .int .i64 (X 3), .int .i64 (X 4), .int .i64 (X 5), .int .i64 (X 6), .int .i64 (X 7), .int .i64 (X 8), .int .i64 (X 9), .int .i64 (X 10), .int .i64 (X 11), .int .i64 (X 12), .int .i64 (X 13), .int .i64 (X 14), .int .i64 (X 15), .int .i64 (X 16), .int .i64 (X 17), .int .i64 (X 18), .int .i64 (X 19)], .slice PA pn pc, .slice ZA zn zc] w fun e w' => e = .returned (.bool true) ∧ Below w.heap.size w w' := by
  have HP := Hp.start w
  refine w_enter 108 [(0, (.int .i64 r)), (1, (.agg #[(.int .i64 (X 0)), (.int .i64 (X 1)), (.int .i64 (X 2)), (.int .i64 (X 3)), (.int .i64 (X 4)), (.int .i64 (X 5)), (.int .i64 (X 6)), (.int .i64 (X 7)), (.int .i64 (X 8)), (.int .i64 (X 9)), (.int .i64 (X 10)), (.int .i64 (X 11)), (.int .i64 (X 12)), (.int .i64 (X 13)), (.int .i64 (X 14)), (.int .i64 (X 15)), (.int .i64 (X 16)), (.int .i64 (X 17)), (.int .i64 (X 18)), (.int .i64 (X 19))])), (2, (.slice PA pn pc)), (3, (.slice ZA zn zc))] Try.func4 rfl Try.ntmps4 (by kernel_rfl) (by kernel_rfl) ?_
  intro a H
  refine wp_seq ?_
  refine w_region ?_
  refine H.alloc HP 5 (fun b => (.pointer (some ⟨b, 0, none⟩))) 24 [(.int .i64 (X 0)), (.int .i64 (X 1)), (.int .i64 (X 2)), (.int .i64 (X 3)), (.int .i64 (X 4)), (.int .i64 (X 5)), (.int .i64 (X 6)), (.int .i64 (X 7)), (.int .i64 (X 8)), (.int .i64 (X 9)), (.int .i64 (X 10)), (.int .i64 (X 11)), (.int .i64 (X 12)), (.int .i64 (X 13)), (.int .i64 (X 14)), (.int .i64 (X 15)), (.int .i64 (X 16)), (.int .i64 (X 17)), (.int .i64 (X 18)), (.int .i64 (X 19))] (by kernel_rfl) (fun w => by kernel_rfl) ?_
  intro b_1 w_2 a H HP
  refine H.val 8 (.bool false) (by kernel_rfl) (by kernel_rfl) ?_
  intro a H
  refine wpList_nil ?_
  refine then_normal ?_
  refine wp_seq ?_
  refine w_region ?_
  refine H.call 20 (by kernel_rfl) (Eq.trans (by kernel_rfl : _ = (callFunc 8 #[]).run Try.prog w_2) (Try.call8 _ _)) (sane_any w_2) ?_
  rintro e w_3 ⟨rfl, hb⟩
  refine ⟨_, rfl, ?_⟩
  intro a H
  have HP := HP.next hb
  refine H.val 9 (.bool true) (by kernel_rfl) (by kernel_rfl) ?_
  intro a H
  refine wpList_nil ?_
  refine then_normal ?_
  refine wp_seq ?_
  refine w_region ?_
  refine H.val 21 (.agg #[(.int .i64 (X 0)), (.int .i64 (X 1)), (.int .i64 (X 2)), (.int .i64 (X 3)), (.int .i64 (X 4)), (.int .i64 (X 5)), (.int .i64 (X 6)), (.int .i64 (X 7)), (.int .i64 (X 8)), (.int .i64 (X 9)), (.int .i64 (X 10)), (.int .i64 (X 11)), (.int .i64 (X 12)), (.int .i64 (X 13)), (.int .i64 (X 14)), (.int .i64 (X 15)), (.int .i64 (X 16)), (.int .i64 (X 17)), (.int .i64 (X 18)), (.int .i64 (X 19))]) (by kernel_rfl) (ex_loadN (vs := [(.int .i64 (X 0)), (.int .i64 (X 1)), (.int .i64 (X 2)), (.int .i64 (X 3)), (.int .i64 (X 4)), (.int .i64 (X 5)), (.int .i64 (X 6)), (.int .i64 (X 7)), (.int .i64 (X 8)), (.int .i64 (X 9)), (.int .i64 (X 10)), (.int .i64 (X 11)), (.int .i64 (X 12)), (.int .i64 (X 13)), (.int .i64 (X 14)), (.int .i64 (X 15)), (.int .i64 (X 16)), (.int .i64 (X 17)), (.int .i64 (X 18)), (.int .i64 (X 19))]) (by kernel_rfl) (by kernel_rfl) (by kernel_rfl) rfl (HP.cells 0 rfl 0 20 (by kernel_rfl))) ?_
  intro a H
  refine H.call 22 (by kernel_rfl) (Eq.trans (by kernel_rfl : _ = (callFunc 9 #[(.agg #[(.int .i64 (X 0)), (.int .i64 (X 1)), (.int .i64 (X 2)), (.int .i64 (X 3)), (.int .i64 (X 4)), (.int .i64 (X 5)), (.int .i64 (X 6)), (.int .i64 (X 7)), (.int .i64 (X 8)), (.int .i64 (X 9)), (.int .i64 (X 10)), (.int .i64 (X 11)), (.int .i64 (X 12)), (.int .i64 (X 13)), (.int .i64 (X 14)), (.int .i64 (X 15)), (.int .i64 (X 16)), (.int .i64 (X 17)), (.int .i64 (X 18)), (.int .i64 (X 19))])]).run Try.prog w_3) (Try.call9 _ _)) (library_any X w_3 hX) ?_
  rintro e w_4 ⟨LA, lc, lib, rfl, hlib, hspec, hl5, hlc, hb, hnewl⟩
  refine ⟨_, rfl, ?_⟩
  intro a H
  have HP := HP.gain hb (astsR LA 5 lib) hlib (astsK_ok _ _ _) (fun k hk => asts_lt hlib hk) hnewl
  obtain ⟨hz0, hplen, hvalid⟩ := spec_find hspec
  refine H.val 10 (.slice LA 5 lc) (by kernel_rfl) (by kernel_rfl) ?_
  intro a H
  refine wpList_nil ?_
  refine then_normal ?_
  refine wp_seq ?_
  refine w_region ?_
  refine H.val 24 (.int .i64 r) (by kernel_rfl) (by kernel_rfl) ?_
  intro a H
  refine H.call 25 (by kernel_rfl) (Eq.trans (by kernel_rfl : _ = (callFunc 11 #[(.int .i64 r), (.int .i64 2)]).run Try.prog w_4) (Try.call11 _ _)) (pick_any r 2 w_4 hreg (by omega)) ?_
  rintro e w_6 ⟨rfl, hw⟩
  refine ⟨_, rfl, ?_⟩
  intro a H
  have HP := hw ▸ HP
  have hpk_5 := pickI_lt r 2 (by omega)
  refine H.valE 26 (.int .i64 (IntKind.i64.wrap (1 + (pickI r 2)))) (.int .i64 (1 + (pickI r 2))) (by kernel_rfl) (by kernel_rfl) ((by rw [wrap_ini64 _ (by omega)])) ?_
  intro a H
  refine H.val 27 (.slice LA 5 lc) (by kernel_rfl) (by kernel_rfl) ?_
  intro a H
  refine H.call 28 (by kernel_rfl) (Eq.trans (by kernel_rfl : _ = (callFunc 10 #[(.int .i64 0), (.int .i64 (1 + (pickI r 2))), (.slice LA 5 lc)]).run Try.prog w_6) (Try.call10 _ _)) ((new_ok 0 (1 + (pickI r 2)) LA 5 lc lib w_6 (HP.held 0 rfl) ⟨hplen, by omega⟩ (newOk_lib (by omega) (by omega) hvalid))) ?_
  rintro e w_7 ⟨b, k, rfl, hspn, hkc, hkr, hks, hb, hnews⟩
  refine ⟨_, rfl, ?_⟩
  intro a H
  have HP := HP.gain hb (splR b k spZ none 0) hspn (splR_ok _ _ _ _ _) (splR_lt hspn) hnews
  refine H.val 23 (.tuple #[(.pointer (some ⟨b, 0, none⟩)), (.int .i64 0)]) (by kernel_rfl) (by kernel_rfl) ?_
  intro a H
  refine H.val 29 (.pointer (some ⟨b, 0, none⟩)) (by kernel_rfl) (by kernel_rfl) ?_
  intro a H
  refine H.val 30 (.int .i64 0) (by kernel_rfl) (by kernel_rfl) ?_
  intro a H
  refine H.val 11 (.pointer (some ⟨b, 0, none⟩)) (by kernel_rfl) (by kernel_rfl) ?_
  intro a H
  refine H.val 12 (.int .i64 0) (by kernel_rfl) (by kernel_rfl) ?_
  intro a H
  refine wpList_nil ?_
  have H := H.keep (L' := [(12, (.int .i64 0)), (11, (.pointer (some ⟨b, 0, none⟩))), (10, (.slice LA 5 lc)), (22, (.slice LA 5 lc)), (21, (.agg #[(.int .i64 (X 0)), (.int .i64 (X 1)), (.int .i64 (X 2)), (.int .i64 (X 3)), (.int .i64 (X 4)), (.int .i64 (X 5)), (.int .i64 (X 6)), (.int .i64 (X 7)), (.int .i64 (X 8)), (.int .i64 (X 9)), (.int .i64 (X 10)), (.int .i64 (X 11)), (.int .i64 (X 12)), (.int .i64 (X 13)), (.int .i64 (X 14)), (.int .i64 (X 15)), (.int .i64 (X 16)), (.int .i64 (X 17)), (.int .i64 (X 18)), (.int .i64 (X 19))])), (9, (.bool true)), (20, (.bool true)), (8, (.bool false)), (5, (.pointer (some ⟨b_1, 0, none⟩))), (0, (.int .i64 r)), (1, (.agg #[(.int .i64 (X 0)), (.int .i64 (X 1)), (.int .i64 (X 2)), (.int .i64 (X 3)), (.int .i64 (X 4)), (.int .i64 (X 5)), (.int .i64 (X 6)), (.int .i64 (X 7)), (.int .i64 (X 8)), (.int .i64 (X 9)), (.int .i64 (X 10)), (.int .i64 (X 11)), (.int .i64 (X 12)), (.int .i64 (X 13)), (.int .i64 (X 14)), (.int .i64 (X 15)), (.int .i64 (X 16)), (.int .i64 (X 17)), (.int .i64 (X 18)), (.int .i64 (X 19))])), (2, (.slice PA pn pc)), (3, (.slice ZA zn zc))]) (by kernel_rfl)
  refine then_normal ?_
  refine wp_seq ?_
  refine wp_seq ?_
  refine w_region ?_
  refine H.val 31 (.int .i64 0) (by kernel_rfl) (by kernel_rfl) ?_
  intro a H
  refine H.val 32 (.bool false) (by kernel_rfl) (by kernel_rfl) ?_
  intro a H
  refine wpList_nil ?_
  refine then_normal ?_
  refine w_iff H rfl ?_
  refine wp_skip ?_
  refine then_normal ?_
  refine wp_seq ?_
  refine w_region ?_
  refine H.val 33 (.agg #[(.int .i64 0), (.int .i64 0), (.int .i64 0)]) (by kernel_rfl) (by kernel_rfl) ?_
  intro a H
  refine H.alloc HP 13 (fun b => (.pointer (some ⟨b, 0, none⟩))) 36 [(.int .i64 0), (.int .i64 0), (.int .i64 0)] (by kernel_rfl) (fun w => by kernel_rfl) ?_
  intro b_8 w_9 a H HP
  refine H.store HP 0 b_8 0 3 36 [(.int .i64 0), (.int .i64 0), (.int .i64 0)] true (.agg #[(.int .i64 0), (.int .i64 0), (.int .i64 0)]) [bx b_8 36 [(.int .i64 0), (.int .i64 0), (.int .i64 0)] true, (splR b k spZ none 0), (astsR LA 5 lib), bx b_1 24 [(.int .i64 (X 0)), (.int .i64 (X 1)), (.int .i64 (X 2)), (.int .i64 (X 3)), (.int .i64 (X 4)), (.int .i64 (X 5)), (.int .i64 (X 6)), (.int .i64 (X 7)), (.int .i64 (X 8)), (.int .i64 (X 9)), (.int .i64 (X 10)), (.int .i64 (X 11)), (.int .i64 (X 12)), (.int .i64 (X 13)), (.int .i64 (X 14)), (.int .i64 (X 15)), (.int .i64 (X 16)), (.int .i64 (X 17)), (.int .i64 (X 18)), (.int .i64 (X 19))] true] (by kernel_rfl) (by kernel_rfl) (by kernel_rfl) rfl (by kernel_rfl) (by kernel_rfl) (by kernel_rfl) (by kernel_rfl) (by kernel_rfl) ?_
  intro w_10 a H HP
  refine wpList_nil ?_
  refine then_normal ?_
  refine wp_seq ?_
  refine w_region ?_
  refine H.val 34 (.slice PA pn pc) (by kernel_rfl) (by kernel_rfl) ?_
  intro a H
  refine H.call 35 (by kernel_rfl) (Eq.trans (by kernel_rfl : _ = (callFunc 13 #[(.slice PA pn pc)]).run Try.prog w_10) (Try.call13 _ _)) (events_any PA pn pc PL w_10 (hpcs.below (HP.below (by kernel_rfl))) (by omega) hpb) ?_
  rintro e w_11 ⟨EA, ec, es, rfl, hes, hespec, hel1, hel2, hel3, hb, hnewe⟩
  refine ⟨_, rfl, ?_⟩
  intro a H
  have HP := HP.gain hb (evsR EA (min pn 10) es) hes (evsR_ok _ _ _) (fun k hk => evs_lt hes hk) hnewe
  obtain ⟨hebd, hend⟩ := evs_bd hespec (by omega) (by have := hpcs.1; omega)
  refine H.val 36 (.slice LA 5 lc) (by kernel_rfl) (by kernel_rfl) ?_
  intro a H
  refine H.val 37 (.slice ZA zn zc) (by kernel_rfl) (by kernel_rfl) ?_
  intro a H
  refine H.call 38 (by kernel_rfl) (Eq.trans (by kernel_rfl : _ = (callFunc 12 #[(.slice EA (min pn 10) ec), (.slice LA 5 lc), (.slice ZA zn zc)]).run Try.prog w_11) (Try.call12 _ _)) (feed_any EA (min pn 10) ec es LA 5 lc lib ZA zn zc zs w_11 (HP.held 0 rfl) (by omega) (fun e he => (hebd e he).1) (HP.held 3 rfl) (by omega) hplen (hzs.below (HP.below (by kernel_rfl))) hzn hzb hend) ?_
  rintro e w_12 ⟨UA, uc, ul, rfl, hul, huspec, huc1, huc2, hb, hnewu⟩
  refine ⟨_, rfl, ?_⟩
  intro a H
  have HP := HP.gain hb (unitsR UA ul) hul (unitsR_ok _ _) (fun k hk => units_lt hul hk) hnewu
  refine H.val 14 (.slice UA ul.length uc) (by kernel_rfl) (by kernel_rfl) ?_
  intro a H
  refine wpList_nil ?_
  refine then_normal ?_
  refine wp_seq ?_
  refine wp_seq ?_
  refine w_region ?_
  refine H.val 15 (.int .i64 0) (by kernel_rfl) (by kernel_rfl) ?_
  intro a H
  refine wpList_nil ?_
  refine then_normal ?_
  refine wp_block ?_
  obtain ⟨us, hus⟩ : ∃ us, feedTo es lib (goneP (zs.take (min zn 20))) (endP es).toNat = us := ⟨_, rfl⟩
  rw [hus] at huspec
  have hfo : FeedOk lib us := by rw [← hus]; exact feedTo_ok hplen (fun e he => (hebd e he).1) (by omega)
  have hulen : ul.length = us.length := by rw [← huspec]; simp
  have hulim : us.length ≤ 1000000 := by rw [← hus]; simp [feedTo]; omega
  have HP := HP.sub [0, 3, 2] [(unitsR UA ul), (splR b k spZ none 0), bx b_8 36 [(.int .i64 0), (.int .i64 0), (.int .i64 0)] true] (by kernel_rfl) (by kernel_rfl)
  refine w_loop (fun mm a v => ∃ (j : Nat), ∃ (NA : Option Addr), ∃ (nc : Nat), ∃ (lv : Int), ul.length - j = mm ∧ Sl 108 [(15, (.int .i64 ((j : Nat) : Int))), (14, (.slice UA ul.length uc)), (13, (.pointer (some ⟨b_8, 0, none⟩))), (11, (.pointer (some ⟨b, 0, none⟩))), (9, (.bool true)), (8, (.bool false))] a ∧ Hp w v [(unitsR UA ul), (splR b k (stAt k us j) NA nc), bx b_8 36 [(.int .i64 ((stAt k us j).last.item)), (.int .i64 ((stAt k us j).last.index)), (.int .i64 lv)] true] [] ∧ (j ≤ ul.length)) (ul.length - 0) ?_ ?_
  · exact ⟨0, none, 0, 0, (by omega), H.keep (by kernel_rfl), HP, by omega⟩
  rintro mm a w_13 ⟨j, NA, nc, lv, hmeas, H, HP, hj⟩
  obtain ⟨u, hu⟩ : ∃ u, ul.getD j (slateA 0) = u := ⟨_, rfl⟩
  obtain ⟨hfull, hinv, hli0, hli1⟩ := stAt_ok (k := k) (us := us) hks hfo hz0 hplen j (by omega)
  refine wp_seq ?_
  refine wp_seq ?_
  refine w_region ?_
  refine H.val 39 (.int .i64 ((j : Nat) : Int)) (by kernel_rfl) (by kernel_rfl) ?_
  intro a H
  refine H.val 40 (.slice UA ul.length uc) (by kernel_rfl) (by kernel_rfl) ?_
  intro a H
  refine H.val 41 (.int .i64 ((ul.length : Nat) : Int)) (by kernel_rfl) (by kernel_rfl) ?_
  intro a H
  refine H.val 42 (.bool (decide (((j : Nat) : Int) < ((ul.length : Nat) : Int)))) (by kernel_rfl) (by kernel_rfl) ?_
  intro a H
  refine wpList_nil ?_
  refine then_normal ?_
  refine w_if H rfl (fun g42 => ?_) (fun g42 => ?_)
  · have g42p := of_decide_eq_true g42
    refine wp_skip ?_
    refine then_normal ?_
    refine wp_seq ?_
    refine wp_block ?_
    refine wp_seq ?_
    obtain ⟨bu, ou, hUA, hbl, pcs, huo, hmu⟩ := IsUnits.get (HP.held 0 rfl) (j := j) (by omega)
    subst hUA
    rw [hu] at pcs huo hmu
    have hstep := stS_eq (k := k) (s := (stAt k us j)) huspec (by omega) hu
    have hL5 := stepS_last k (stAt k us j) u
    have hwh := shown_whole (k := k) (s := (stAt k us j)) (u := u) (lib := lib) hks hplen
    have hst1 : stAt k us (j + 1) = (stepS k (stAt k us j) u).2.2 := by rw [hstep]; rfl
    have hst1l : (stAt k us (j + 1)).last = (stepS k (stAt k us j) u).1 := by rw [hst1]; exact hL5
    obtain ⟨p, hp⟩ : ∃ p, (stepS k (stAt k us j) u).1 = p := ⟨_, rfl⟩
    obtain ⟨v, hv⟩ : ∃ v, (stepS k (stAt k us j) u).2.1 = v := ⟨_, rfl⟩
    rw [hp] at hL5 hst1l hwh
    have hfr : 0 ≤ u.frame ∧ u.frame ≤ 1000000 := by rw [feed_frame huspec (by omega) hu]; exact (hfo _ (getD_memU (us := us) (j := j) (by omega))).2.2.1
    refine w_region ?_
    refine H.val 45 (.slice (some ⟨bu, ou, none⟩) ul.length uc) (by kernel_rfl) (by kernel_rfl) ?_
    intro a H
    refine H.val 46 (.int .i64 ((j : Nat) : Int)) (by kernel_rfl) (by kernel_rfl) ?_
    intro a H
    refine H.val 47 (.pointer (some ⟨bu, ou + j * 13, none⟩)) (by kernel_rfl) (ex_index (b := bu) (off := ou) (len := ul.length) (cap := uc) (e := 46) (k := 13) (ik := .i64) (i := ((j : Nat) : Int)) (m := j) (by kernel_rfl) (by kernel_rfl) (by omega) (by omega) (by kernel_rfl) (by kernel_rfl)) ?_
    intro a H
    refine H.val 48 (.agg #[(.int .i64 u.channel), (.int .i64 u.frame), (.int .i64 u.version), (.int .i64 u.item), (.int .i64 u.index), (.bool u.key), (.string u.data), (.int .i64 u.regions), (.int .i64 u.gain), (.string u.caption), (.int .i64 u.os), (.int .i64 u.of), (.slice u.A u.al.length u.c)]) (by kernel_rfl) (ex_loadN (vs := [(.int .i64 u.channel), (.int .i64 u.frame), (.int .i64 u.version), (.int .i64 u.item), (.int .i64 u.index), (.bool u.key), (.string u.data), (.int .i64 u.regions), (.int .i64 u.gain), (.string u.caption), (.int .i64 u.os), (.int .i64 u.of), (.slice u.A u.al.length u.c)]) (by kernel_rfl) (by kernel_rfl) (by kernel_rfl) rfl (cells13 (pcs.1) (pcs.2.1) (pcs.2.2.1) (pcs.2.2.2.1) (pcs.2.2.2.2.1) (pcs.2.2.2.2.2.1) (pcs.2.2.2.2.2.2.1) (pcs.2.2.2.2.2.2.2.1) (pcs.2.2.2.2.2.2.2.2.1) (pcs.2.2.2.2.2.2.2.2.2.1) (pcs.2.2.2.2.2.2.2.2.2.2.1) (pcs.2.2.2.2.2.2.2.2.2.2.2.1) (pcs.2.2.2.2.2.2.2.2.2.2.2.2))) ?_
    intro a H
    refine H.alloc HP 16 (fun b => (.pointer (some ⟨b, 0, none⟩))) 46 [(.int .i64 0), (.int .i64 0), (.int .i64 0), (.int .i64 0), (.int .i64 0), (.bool false), (.string (ByteArray.mk #[])), (.int .i64 0), (.int .i64 0), (.string (ByteArray.mk #[])), (.int .i64 0), (.int .i64 0), (.slice none 0 0)] (by kernel_rfl) (fun w => by kernel_rfl) ?_
    intro b_14 w_15 a H HP
    refine H.store HP 0 b_14 0 13 46 [(.int .i64 0), (.int .i64 0), (.int .i64 0), (.int .i64 0), (.int .i64 0), (.bool false), (.string (ByteArray.mk #[])), (.int .i64 0), (.int .i64 0), (.string (ByteArray.mk #[])), (.int .i64 0), (.int .i64 0), (.slice none 0 0)] true (.agg #[(.int .i64 u.channel), (.int .i64 u.frame), (.int .i64 u.version), (.int .i64 u.item), (.int .i64 u.index), (.bool u.key), (.string u.data), (.int .i64 u.regions), (.int .i64 u.gain), (.string u.caption), (.int .i64 u.os), (.int .i64 u.of), (.slice u.A u.al.length u.c)]) [bx b_14 46 [(.int .i64 u.channel), (.int .i64 u.frame), (.int .i64 u.version), (.int .i64 u.item), (.int .i64 u.index), (.bool u.key), (.string u.data), (.int .i64 u.regions), (.int .i64 u.gain), (.string u.caption), (.int .i64 u.os), (.int .i64 u.of), (.slice u.A u.al.length u.c)] true, (unitsR (some ⟨bu, ou, none⟩) ul), (splR b k (stAt k us j) NA nc), bx b_8 36 [(.int .i64 ((stAt k us j).last.item)), (.int .i64 ((stAt k us j).last.index)), (.int .i64 lv)] true] (by kernel_rfl) (by kernel_rfl) (by kernel_rfl) rfl (by kernel_rfl) (by kernel_rfl) (by kernel_rfl) (by kernel_rfl) (by kernel_rfl) ?_
    intro w_16 a H HP
    refine wpList_nil ?_
    refine then_normal ?_
    refine wp_seq ?_
    refine w_region ?_
    refine H.val 49 (.pointer (some ⟨b, 0, none⟩)) (by kernel_rfl) (by kernel_rfl) ?_
    intro a H
    refine H.val 50 (.agg #[(.int .i64 u.channel), (.int .i64 u.frame), (.int .i64 u.version), (.int .i64 u.item), (.int .i64 u.index), (.bool u.key), (.string u.data), (.int .i64 u.regions), (.int .i64 u.gain), (.string u.caption), (.int .i64 u.os), (.int .i64 u.of), (.slice u.A u.al.length u.c)]) (by kernel_rfl) (ex_loadN (vs := [(.int .i64 u.channel), (.int .i64 u.frame), (.int .i64 u.version), (.int .i64 u.item), (.int .i64 u.index), (.bool u.key), (.string u.data), (.int .i64 u.regions), (.int .i64 u.gain), (.string u.caption), (.int .i64 u.os), (.int .i64 u.of), (.slice u.A u.al.length u.c)]) (by kernel_rfl) (by kernel_rfl) (by kernel_rfl) rfl (HP.cells 0 rfl 0 13 (by kernel_rfl))) ?_
    intro a H
    refine H.call 51 (by kernel_rfl) (Eq.trans (by kernel_rfl : _ = (callFunc 14 #[(.pointer (some ⟨b, 0, none⟩)), (.agg #[(.int .i64 u.channel), (.int .i64 u.frame), (.int .i64 u.version), (.int .i64 u.item), (.int .i64 u.index), (.bool u.key), (.string u.data), (.int .i64 u.regions), (.int .i64 u.gain), (.string u.caption), (.int .i64 u.os), (.int .i64 u.of), (.slice u.A u.al.length u.c)])]).run Try.prog w_16) (Try.call14 _ _)) (step_any b k (stAt k us j) u w_16 NA nc (HP.held 2 rfl) ((HP.held 1 rfl).2 u hmu) (fun jj hj e => pairwise_at HP.apart (i := 1) (j := 2) rfl rfl (by omega) jj (.inr ⟨u, hmu, hj⟩) (.inl e)) (by rw [hkr]; omega) (by rw [hkr]; omega) hinv) ?_
    rintro e w_19 ⟨rfl, NB_17, cB_18, hsp, hq, hg⟩
    rw [hp, hv]; refine ⟨_, rfl, ?_⟩
    intro a H
    have HP := HP.stepped 2 rfl [bx b_14 46 [(.int .i64 u.channel), (.int .i64 u.frame), (.int .i64 u.version), (.int .i64 u.item), (.int .i64 u.index), (.bool u.key), (.string u.data), (.int .i64 u.regions), (.int .i64 u.gain), (.string u.caption), (.int .i64 u.os), (.int .i64 u.of), (.slice u.A u.al.length u.c)] true, (unitsR (some ⟨bu, ou, none⟩) ul), (splR b k (stepS k (stAt k us j) u).2.2 NB_17 cB_18), bx b_8 36 [(.int .i64 ((stAt k us j).last.item)), (.int .i64 ((stAt k us j).last.index)), (.int .i64 lv)] true] (by kernel_rfl) hsp hq hg
    refine H.alloc HP 17 (fun b => (.pointer (some ⟨b, 0, none⟩))) 36 [(.int .i64 0), (.int .i64 0), (.int .i64 0)] (by kernel_rfl) (fun w => by kernel_rfl) ?_
    intro b_20 w_21 a H HP
    refine H.store HP 0 b_20 0 3 36 [(.int .i64 0), (.int .i64 0), (.int .i64 0)] true (.agg #[(.int .i64 p.item), (.int .i64 p.index), (.int .i64 v)]) [bx b_20 36 [(.int .i64 p.item), (.int .i64 p.index), (.int .i64 v)] true, bx b_14 46 [(.int .i64 u.channel), (.int .i64 u.frame), (.int .i64 u.version), (.int .i64 u.item), (.int .i64 u.index), (.bool u.key), (.string u.data), (.int .i64 u.regions), (.int .i64 u.gain), (.string u.caption), (.int .i64 u.os), (.int .i64 u.of), (.slice u.A u.al.length u.c)] true, (unitsR (some ⟨bu, ou, none⟩) ul), (splR b k (stepS k (stAt k us j) u).2.2 NB_17 cB_18), bx b_8 36 [(.int .i64 ((stAt k us j).last.item)), (.int .i64 ((stAt k us j).last.index)), (.int .i64 lv)] true] (by kernel_rfl) (by kernel_rfl) (by kernel_rfl) rfl (by kernel_rfl) (by kernel_rfl) (by kernel_rfl) (by kernel_rfl) (by kernel_rfl) ?_
    intro w_22 a H HP
    refine wpList_nil ?_
    refine then_normal ?_
    refine wp_seq ?_
    refine w_region ?_
    refine H.val 52 (.pointer (some ⟨b_20, 0, none⟩)) (by kernel_rfl) (by kernel_rfl) ?_
    intro a H
    refine H.val 53 (.int .i64 p.item) (by kernel_rfl) (ex_load1 (by kernel_rfl) (by kernel_rfl) (HP.cell 0 rfl 0 rfl)) ?_
    intro a H
    refine H.val 54 (.pointer (some ⟨b_14, 3, none⟩)) (by kernel_rfl) (by kernel_rfl) ?_
    intro a H
    refine H.val 55 (.int .i64 u.item) (by kernel_rfl) (ex_load1 (by kernel_rfl) (by kernel_rfl) (HP.cell 1 rfl 3 rfl)) ?_
    intro a H
    refine H.val 56 (.bool (p.item == u.item)) (by kernel_rfl) (by kernel_rfl) ?_
    intro a H
    refine H.val 57 (.bool (p.item == u.item)) (by kernel_rfl) (by kernel_rfl) ?_
    intro a H
    refine H.split 57 rfl (fun g57 H => ?_) (fun g57 H => ?_)
    · have g57p := eq_of_beq g57
      refine H.val 58 (.pointer (some ⟨b_20, 1, none⟩)) (by kernel_rfl) (by kernel_rfl) ?_
      intro a H
      refine H.val 59 (.int .i64 p.index) (by kernel_rfl) (ex_load1 (by kernel_rfl) (by kernel_rfl) (HP.cell 0 rfl 1 rfl)) ?_
      intro a H
      refine H.val 60 (.pointer (some ⟨b_14, 4, none⟩)) (by kernel_rfl) (by kernel_rfl) ?_
      intro a H
      refine H.val 61 (.int .i64 u.index) (by kernel_rfl) (ex_load1 (by kernel_rfl) (by kernel_rfl) (HP.cell 1 rfl 4 rfl)) ?_
      intro a H
      refine H.val 62 (.bool (p.index == u.index)) (by kernel_rfl) (by kernel_rfl) ?_
      intro a H
      refine H.val 63 (.bool (p.index == u.index)) (by kernel_rfl) (by kernel_rfl) ?_
      intro a H
      refine H.val 18 (.bool (p.index == u.index)) (by kernel_rfl) (by kernel_rfl) ?_
      intro a H
      refine wpList_nil ?_
      have H := H.keep (L' := [(18, (.bool (p.index == u.index))), (17, (.pointer (some ⟨b_20, 0, none⟩))), (51, (.agg #[(.int .i64 p.item), (.int .i64 p.index), (.int .i64 v)])), (50, (.agg #[(.int .i64 u.channel), (.int .i64 u.frame), (.int .i64 u.version), (.int .i64 u.item), (.int .i64 u.index), (.bool u.key), (.string u.data), (.int .i64 u.regions), (.int .i64 u.gain), (.string u.caption), (.int .i64 u.os), (.int .i64 u.of), (.slice u.A u.al.length u.c)])), (49, (.pointer (some ⟨b, 0, none⟩))), (16, (.pointer (some ⟨b_14, 0, none⟩))), (48, (.agg #[(.int .i64 u.channel), (.int .i64 u.frame), (.int .i64 u.version), (.int .i64 u.item), (.int .i64 u.index), (.bool u.key), (.string u.data), (.int .i64 u.regions), (.int .i64 u.gain), (.string u.caption), (.int .i64 u.os), (.int .i64 u.of), (.slice u.A u.al.length u.c)])), (47, (.pointer (some ⟨bu, ou + j * 13, none⟩))), (46, (.int .i64 ((j : Nat) : Int))), (45, (.slice (some ⟨bu, ou, none⟩) ul.length uc)), (42, (.bool (decide (((j : Nat) : Int) < ((ul.length : Nat) : Int))))), (41, (.int .i64 ((ul.length : Nat) : Int))), (40, (.slice (some ⟨bu, ou, none⟩) ul.length uc)), (39, (.int .i64 ((j : Nat) : Int))), (15, (.int .i64 ((j : Nat) : Int))), (14, (.slice (some ⟨bu, ou, none⟩) ul.length uc)), (13, (.pointer (some ⟨b_8, 0, none⟩))), (11, (.pointer (some ⟨b, 0, none⟩))), (9, (.bool true)), (8, (.bool false))]) (by kernel_rfl)
      refine then_normal ?_
      refine wp_seq ?_
      refine wp_seq ?_
      refine w_region ?_
      refine H.val 64 (.bool (p.index == u.index)) (by kernel_rfl) (by kernel_rfl) ?_
      intro a H
      refine H.val 65 (.bool (!(p.index == u.index))) (by kernel_rfl) (by kernel_rfl) ?_
      intro a H
      refine H.val 66 (.bool (!(p.index == u.index))) (by kernel_rfl) (by kernel_rfl) ?_
      intro a H
      refine H.split 66 rfl (fun g66 H => ?_) (fun g66 H => ?_)
      · have g66p := not_is_true g66
        refine H.val 67 (.pointer (some ⟨b_20, 0, none⟩)) (by kernel_rfl) (by kernel_rfl) ?_
        intro a H
        refine H.val 68 (.int .i64 p.item) (by kernel_rfl) (ex_load1 (by kernel_rfl) (by kernel_rfl) (HP.cell 0 rfl 0 rfl)) ?_
        intro a H
        refine H.val 69 (.bool (p.item != 0)) (by kernel_rfl) (by kernel_rfl) ?_
        intro a H
        refine H.val 70 (.bool (p.item != 0)) (by kernel_rfl) (by kernel_rfl) ?_
        intro a H
        refine wpList_nil ?_
        have H := H.keep (L' := [(70, (.bool (p.item != 0))), (18, (.bool (p.index == u.index))), (17, (.pointer (some ⟨b_20, 0, none⟩))), (51, (.agg #[(.int .i64 p.item), (.int .i64 p.index), (.int .i64 v)])), (50, (.agg #[(.int .i64 u.channel), (.int .i64 u.frame), (.int .i64 u.version), (.int .i64 u.item), (.int .i64 u.index), (.bool u.key), (.string u.data), (.int .i64 u.regions), (.int .i64 u.gain), (.string u.caption), (.int .i64 u.os), (.int .i64 u.of), (.slice u.A u.al.length u.c)])), (49, (.pointer (some ⟨b, 0, none⟩))), (16, (.pointer (some ⟨b_14, 0, none⟩))), (48, (.agg #[(.int .i64 u.channel), (.int .i64 u.frame), (.int .i64 u.version), (.int .i64 u.item), (.int .i64 u.index), (.bool u.key), (.string u.data), (.int .i64 u.regions), (.int .i64 u.gain), (.string u.caption), (.int .i64 u.os), (.int .i64 u.of), (.slice u.A u.al.length u.c)])), (47, (.pointer (some ⟨bu, ou + j * 13, none⟩))), (46, (.int .i64 ((j : Nat) : Int))), (45, (.slice (some ⟨bu, ou, none⟩) ul.length uc)), (42, (.bool (decide (((j : Nat) : Int) < ((ul.length : Nat) : Int))))), (41, (.int .i64 ((ul.length : Nat) : Int))), (40, (.slice (some ⟨bu, ou, none⟩) ul.length uc)), (39, (.int .i64 ((j : Nat) : Int))), (15, (.int .i64 ((j : Nat) : Int))), (14, (.slice (some ⟨bu, ou, none⟩) ul.length uc)), (13, (.pointer (some ⟨b_8, 0, none⟩))), (11, (.pointer (some ⟨b, 0, none⟩))), (9, (.bool true)), (8, (.bool false))]) (by kernel_rfl)
        refine then_normal ?_
        refine w_if H rfl (fun g70 => ?_) (fun g70 => ?_)
        · have g70p := bne_iff_ne.1 g70
          refine wp_seq ?_
          have hnn : ¬ (p.item = u.item ∧ p.index = u.index) := by
            intro hh; have h2 := g66p; rw [hh.2] at h2; simp at h2
          obtain ⟨hw1, hw2, hw3, hw4, hw5⟩ := hwh g70p hnn
          refine w_region ?_
          refine H.val 71 (.pointer (some ⟨b_14, 1, none⟩)) (by kernel_rfl) (by kernel_rfl) ?_
          intro a H
          refine H.val 72 (.int .i64 u.frame) (by kernel_rfl) (ex_load1 (by kernel_rfl) (by kernel_rfl) (HP.cell 1 rfl 1 rfl)) ?_
          intro a H
          refine H.val 73 (.pointer (some ⟨b_14, 10, none⟩)) (by kernel_rfl) (by kernel_rfl) ?_
          intro a H
          refine H.val 74 (.pointer (some ⟨b_14, 10, none⟩)) (by kernel_rfl) (by kernel_rfl) ?_
          intro a H
          refine H.val 75 (.int .i64 u.os) (by kernel_rfl) (ex_load1 (by kernel_rfl) (by kernel_rfl) (HP.cell 1 rfl 10 rfl)) ?_
          intro a H
          refine H.valE 76 (.int .i64 (IntKind.i64.wrap (u.frame - u.os))) (.int .i64 (u.frame - u.os)) (by kernel_rfl) (by kernel_rfl) ((by rw [wrap_ini64 _ (by omega)])) ?_
          intro a H
          refine H.val 19 (.int .i64 (u.frame - u.os)) (by kernel_rfl) (by kernel_rfl) ?_
          intro a H
          refine wpList_nil ?_
          have H := H.keep (L' := [(19, (.int .i64 (u.frame - u.os))), (70, (.bool (p.item != 0))), (18, (.bool (p.index == u.index))), (17, (.pointer (some ⟨b_20, 0, none⟩))), (51, (.agg #[(.int .i64 p.item), (.int .i64 p.index), (.int .i64 v)])), (50, (.agg #[(.int .i64 u.channel), (.int .i64 u.frame), (.int .i64 u.version), (.int .i64 u.item), (.int .i64 u.index), (.bool u.key), (.string u.data), (.int .i64 u.regions), (.int .i64 u.gain), (.string u.caption), (.int .i64 u.os), (.int .i64 u.of), (.slice u.A u.al.length u.c)])), (49, (.pointer (some ⟨b, 0, none⟩))), (16, (.pointer (some ⟨b_14, 0, none⟩))), (48, (.agg #[(.int .i64 u.channel), (.int .i64 u.frame), (.int .i64 u.version), (.int .i64 u.item), (.int .i64 u.index), (.bool u.key), (.string u.data), (.int .i64 u.regions), (.int .i64 u.gain), (.string u.caption), (.int .i64 u.os), (.int .i64 u.of), (.slice u.A u.al.length u.c)])), (47, (.pointer (some ⟨bu, ou + j * 13, none⟩))), (46, (.int .i64 ((j : Nat) : Int))), (45, (.slice (some ⟨bu, ou, none⟩) ul.length uc)), (42, (.bool (decide (((j : Nat) : Int) < ((ul.length : Nat) : Int))))), (41, (.int .i64 ((ul.length : Nat) : Int))), (40, (.slice (some ⟨bu, ou, none⟩) ul.length uc)), (39, (.int .i64 ((j : Nat) : Int))), (15, (.int .i64 ((j : Nat) : Int))), (14, (.slice (some ⟨bu, ou, none⟩) ul.length uc)), (13, (.pointer (some ⟨b_8, 0, none⟩))), (11, (.pointer (some ⟨b, 0, none⟩))), (9, (.bool true)), (8, (.bool false))]) (by kernel_rfl)
          refine then_normal ?_
          refine wp_seq ?_
          refine w_region ?_
          refine H.val 77 (.pointer (some ⟨b_20, 1, none⟩)) (by kernel_rfl) (by kernel_rfl) ?_
          intro a H
          refine H.val 78 (.int .i64 p.index) (by kernel_rfl) (ex_load1 (by kernel_rfl) (by kernel_rfl) (HP.cell 0 rfl 1 rfl)) ?_
          intro a H
          refine H.val 79 (.int .i64 (u.frame - u.os)) (by kernel_rfl) (by kernel_rfl) ?_
          intro a H
          refine H.val 80 (.bool (p.index != (u.frame - u.os))) (by kernel_rfl) (by kernel_rfl) ?_
          intro a H
          refine H.val 81 (.bool (p.index != (u.frame - u.os))) (by kernel_rfl) (by kernel_rfl) ?_
          intro a H
          refine H.split 81 rfl (fun g81 H => ?_) (fun g81 H => ?_)
          · have g81p := bne_iff_ne.1 g81
            refine H.skip 82 (by kernel_rfl) ?_
            intro a H
            refine H.skip 83 (by kernel_rfl) ?_
            intro a H
            refine H.skip 84 (by kernel_rfl) ?_
            intro a H
            refine H.skip 85 (by kernel_rfl) ?_
            intro a H
            refine H.skip 86 (by kernel_rfl) ?_
            intro a H
            refine H.skip 87 (by kernel_rfl) ?_
            intro a H
            refine H.skip 88 (by kernel_rfl) ?_
            intro a H
            refine H.skip 89 (by kernel_rfl) ?_
            intro a H
            refine H.skip 90 (by kernel_rfl) ?_
            intro a H
            refine H.skip 91 (by kernel_rfl) ?_
            intro a H
            refine H.skip 92 (by kernel_rfl) ?_
            intro a H
            refine H.skip 93 (by kernel_rfl) ?_
            intro a H
            refine H.skip 94 (by kernel_rfl) ?_
            intro a H
            refine H.skip 95 (by kernel_rfl) ?_
            intro a H
            refine H.skip 96 (by kernel_rfl) ?_
            intro a H
            refine H.skip 97 (by kernel_rfl) ?_
            intro a H
            refine H.val 98 (.bool true) (by kernel_rfl) (by kernel_rfl) ?_
            intro a H
            refine H.val 99 (.bool true) (by kernel_rfl) (by kernel_rfl) ?_
            intro a H
            refine H.skip 100 (by kernel_rfl) ?_
            intro a H
            refine H.skip 101 (by kernel_rfl) ?_
            intro a H
            refine H.skip 102 (by kernel_rfl) ?_
            intro a H
            refine H.skip 103 (by kernel_rfl) ?_
            intro a H
            refine H.skip 104 (by kernel_rfl) ?_
            intro a H
            refine H.val 105 (.bool true) (by kernel_rfl) (by kernel_rfl) ?_
            intro a H
            refine wpList_nil ?_
            have H := H.keep (L' := [(105, (.bool true)), (19, (.int .i64 (u.frame - u.os))), (70, (.bool (p.item != 0))), (18, (.bool (p.index == u.index))), (17, (.pointer (some ⟨b_20, 0, none⟩))), (51, (.agg #[(.int .i64 p.item), (.int .i64 p.index), (.int .i64 v)])), (50, (.agg #[(.int .i64 u.channel), (.int .i64 u.frame), (.int .i64 u.version), (.int .i64 u.item), (.int .i64 u.index), (.bool u.key), (.string u.data), (.int .i64 u.regions), (.int .i64 u.gain), (.string u.caption), (.int .i64 u.os), (.int .i64 u.of), (.slice u.A u.al.length u.c)])), (49, (.pointer (some ⟨b, 0, none⟩))), (16, (.pointer (some ⟨b_14, 0, none⟩))), (48, (.agg #[(.int .i64 u.channel), (.int .i64 u.frame), (.int .i64 u.version), (.int .i64 u.item), (.int .i64 u.index), (.bool u.key), (.string u.data), (.int .i64 u.regions), (.int .i64 u.gain), (.string u.caption), (.int .i64 u.os), (.int .i64 u.of), (.slice u.A u.al.length u.c)])), (47, (.pointer (some ⟨bu, ou + j * 13, none⟩))), (46, (.int .i64 ((j : Nat) : Int))), (45, (.slice (some ⟨bu, ou, none⟩) ul.length uc)), (42, (.bool (decide (((j : Nat) : Int) < ((ul.length : Nat) : Int))))), (41, (.int .i64 ((ul.length : Nat) : Int))), (40, (.slice (some ⟨bu, ou, none⟩) ul.length uc)), (39, (.int .i64 ((j : Nat) : Int))), (15, (.int .i64 ((j : Nat) : Int))), (14, (.slice (some ⟨bu, ou, none⟩) ul.length uc)), (13, (.pointer (some ⟨b_8, 0, none⟩))), (11, (.pointer (some ⟨b, 0, none⟩))), (9, (.bool true)), (8, (.bool false))]) (by kernel_rfl)
            refine then_normal ?_
            refine w_ift H rfl ?_
            refine wp_seq ?_
            refine w_region ?_
            refine H.val 8 (.bool false) (by kernel_rfl) (by kernel_rfl) ?_
            intro a H
            refine wpList_nil ?_
            refine then_normal ?_
            refine wp_ret ?_
            refine then_ret ?_
            refine inb_ret ?_
            refine then_ret ?_
            refine then_ret ?_
            refine inb_ret ?_
            refine then_ret ?_
            refine H.ret1 (fn := Try.f4) Try.results4 (RV.tmp_ (v := (.bool false)) (by kernel_rfl)) ?_
            exfalso
            by_cases hk0 : 0 < p.index
            · have hw6 := hw3 hk0
              omega
            · omega
          · have g81p := eq_of_bne_false g81
            refine H.val 82 (.int .i64 (u.frame - u.os)) (by kernel_rfl) (by kernel_rfl) ?_
            intro a H
            refine H.val 83 (.bool (decide ((u.frame - u.os) > 0))) (by kernel_rfl) (by kernel_rfl) ?_
            intro a H
            refine H.val 84 (.bool (decide ((u.frame - u.os) > 0))) (by kernel_rfl) (by kernel_rfl) ?_
            intro a H
            refine H.split 84 rfl (fun g84 H => ?_) (fun g84 H => ?_)
            · have g84p := of_decide_eq_true g84
              refine H.val 85 (.pointer (some ⟨b_8, 0, none⟩)) (by kernel_rfl) (by kernel_rfl) ?_
              intro a H
              refine H.val 86 (.int .i64 ((stAt k us j).last.item)) (by kernel_rfl) (ex_load1 (by kernel_rfl) (by kernel_rfl) (HP.cell 4 rfl 0 rfl)) ?_
              intro a H
              refine H.val 87 (.pointer (some ⟨b_20, 0, none⟩)) (by kernel_rfl) (by kernel_rfl) ?_
              intro a H
              refine H.val 88 (.int .i64 p.item) (by kernel_rfl) (ex_load1 (by kernel_rfl) (by kernel_rfl) (HP.cell 0 rfl 0 rfl)) ?_
              intro a H
              refine H.val 89 (.bool (((stAt k us j).last.item) != p.item)) (by kernel_rfl) (by kernel_rfl) ?_
              intro a H
              refine H.val 90 (.bool (((stAt k us j).last.item) != p.item)) (by kernel_rfl) (by kernel_rfl) ?_
              intro a H
              refine H.split 90 rfl (fun g90 H => ?_) (fun g90 H => ?_)
              · have g90p := bne_iff_ne.1 g90
                refine H.skip 91 (by kernel_rfl) ?_
                intro a H
                refine H.skip 92 (by kernel_rfl) ?_
                intro a H
                refine H.skip 93 (by kernel_rfl) ?_
                intro a H
                refine H.skip 94 (by kernel_rfl) ?_
                intro a H
                refine H.skip 95 (by kernel_rfl) ?_
                intro a H
                refine H.val 96 (.bool true) (by kernel_rfl) (by kernel_rfl) ?_
                intro a H
                refine H.val 97 (.bool true) (by kernel_rfl) (by kernel_rfl) ?_
                intro a H
                refine H.val 98 (.bool true) (by kernel_rfl) (by kernel_rfl) ?_
                intro a H
                refine H.val 99 (.bool true) (by kernel_rfl) (by kernel_rfl) ?_
                intro a H
                refine H.skip 100 (by kernel_rfl) ?_
                intro a H
                refine H.skip 101 (by kernel_rfl) ?_
                intro a H
                refine H.skip 102 (by kernel_rfl) ?_
                intro a H
                refine H.skip 103 (by kernel_rfl) ?_
                intro a H
                refine H.skip 104 (by kernel_rfl) ?_
                intro a H
                refine H.val 105 (.bool true) (by kernel_rfl) (by kernel_rfl) ?_
                intro a H
                refine wpList_nil ?_
                have H := H.keep (L' := [(105, (.bool true)), (19, (.int .i64 (u.frame - u.os))), (70, (.bool (p.item != 0))), (18, (.bool (p.index == u.index))), (17, (.pointer (some ⟨b_20, 0, none⟩))), (51, (.agg #[(.int .i64 p.item), (.int .i64 p.index), (.int .i64 v)])), (50, (.agg #[(.int .i64 u.channel), (.int .i64 u.frame), (.int .i64 u.version), (.int .i64 u.item), (.int .i64 u.index), (.bool u.key), (.string u.data), (.int .i64 u.regions), (.int .i64 u.gain), (.string u.caption), (.int .i64 u.os), (.int .i64 u.of), (.slice u.A u.al.length u.c)])), (49, (.pointer (some ⟨b, 0, none⟩))), (16, (.pointer (some ⟨b_14, 0, none⟩))), (48, (.agg #[(.int .i64 u.channel), (.int .i64 u.frame), (.int .i64 u.version), (.int .i64 u.item), (.int .i64 u.index), (.bool u.key), (.string u.data), (.int .i64 u.regions), (.int .i64 u.gain), (.string u.caption), (.int .i64 u.os), (.int .i64 u.of), (.slice u.A u.al.length u.c)])), (47, (.pointer (some ⟨bu, ou + j * 13, none⟩))), (46, (.int .i64 ((j : Nat) : Int))), (45, (.slice (some ⟨bu, ou, none⟩) ul.length uc)), (42, (.bool (decide (((j : Nat) : Int) < ((ul.length : Nat) : Int))))), (41, (.int .i64 ((ul.length : Nat) : Int))), (40, (.slice (some ⟨bu, ou, none⟩) ul.length uc)), (39, (.int .i64 ((j : Nat) : Int))), (15, (.int .i64 ((j : Nat) : Int))), (14, (.slice (some ⟨bu, ou, none⟩) ul.length uc)), (13, (.pointer (some ⟨b_8, 0, none⟩))), (11, (.pointer (some ⟨b, 0, none⟩))), (9, (.bool true)), (8, (.bool false))]) (by kernel_rfl)
                refine then_normal ?_
                refine w_ift H rfl ?_
                refine wp_seq ?_
                refine w_region ?_
                refine H.val 8 (.bool false) (by kernel_rfl) (by kernel_rfl) ?_
                intro a H
                refine wpList_nil ?_
                refine then_normal ?_
                refine wp_ret ?_
                refine then_ret ?_
                refine inb_ret ?_
                refine then_ret ?_
                refine then_ret ?_
                refine inb_ret ?_
                refine then_ret ?_
                refine H.ret1 (fn := Try.f4) Try.results4 (RV.tmp_ (v := (.bool false)) (by kernel_rfl)) ?_
                exfalso
                by_cases hk0 : 0 < p.index
                · have hw6 := hw3 hk0
                  omega
                · omega
              · have g90p := eq_of_bne_false g90
                refine H.val 91 (.pointer (some ⟨b_8, 1, none⟩)) (by kernel_rfl) (by kernel_rfl) ?_
                intro a H
                refine H.val 92 (.int .i64 ((stAt k us j).last.index)) (by kernel_rfl) (ex_load1 (by kernel_rfl) (by kernel_rfl) (HP.cell 4 rfl 1 rfl)) ?_
                intro a H
                refine H.val 93 (.int .i64 (u.frame - u.os)) (by kernel_rfl) (by kernel_rfl) ?_
                intro a H
                refine H.valE 94 (.int .i64 (IntKind.i64.wrap ((u.frame - u.os) - 1))) (.int .i64 ((u.frame - u.os) - 1)) (by kernel_rfl) (by kernel_rfl) ((by rw [wrap_ini64 _ (by omega)])) ?_
                intro a H
                refine H.val 95 (.bool (((stAt k us j).last.index) != ((u.frame - u.os) - 1))) (by kernel_rfl) (by kernel_rfl) ?_
                intro a H
                refine H.val 96 (.bool (((stAt k us j).last.index) != ((u.frame - u.os) - 1))) (by kernel_rfl) (by kernel_rfl) ?_
                intro a H
                refine H.val 97 (.bool (((stAt k us j).last.index) != ((u.frame - u.os) - 1))) (by kernel_rfl) (by kernel_rfl) ?_
                intro a H
                refine H.val 98 (.bool (((stAt k us j).last.index) != ((u.frame - u.os) - 1))) (by kernel_rfl) (by kernel_rfl) ?_
                intro a H
                refine H.val 99 (.bool (((stAt k us j).last.index) != ((u.frame - u.os) - 1))) (by kernel_rfl) (by kernel_rfl) ?_
                intro a H
                refine H.split 99 rfl (fun g99 H => ?_) (fun g99 H => ?_)
                · have g99p := bne_iff_ne.1 g99
                  refine H.skip 100 (by kernel_rfl) ?_
                  intro a H
                  refine H.skip 101 (by kernel_rfl) ?_
                  intro a H
                  refine H.skip 102 (by kernel_rfl) ?_
                  intro a H
                  refine H.skip 103 (by kernel_rfl) ?_
                  intro a H
                  refine H.skip 104 (by kernel_rfl) ?_
                  intro a H
                  refine H.val 105 (.bool true) (by kernel_rfl) (by kernel_rfl) ?_
                  intro a H
                  refine wpList_nil ?_
                  have H := H.keep (L' := [(105, (.bool true)), (19, (.int .i64 (u.frame - u.os))), (70, (.bool (p.item != 0))), (18, (.bool (p.index == u.index))), (17, (.pointer (some ⟨b_20, 0, none⟩))), (51, (.agg #[(.int .i64 p.item), (.int .i64 p.index), (.int .i64 v)])), (50, (.agg #[(.int .i64 u.channel), (.int .i64 u.frame), (.int .i64 u.version), (.int .i64 u.item), (.int .i64 u.index), (.bool u.key), (.string u.data), (.int .i64 u.regions), (.int .i64 u.gain), (.string u.caption), (.int .i64 u.os), (.int .i64 u.of), (.slice u.A u.al.length u.c)])), (49, (.pointer (some ⟨b, 0, none⟩))), (16, (.pointer (some ⟨b_14, 0, none⟩))), (48, (.agg #[(.int .i64 u.channel), (.int .i64 u.frame), (.int .i64 u.version), (.int .i64 u.item), (.int .i64 u.index), (.bool u.key), (.string u.data), (.int .i64 u.regions), (.int .i64 u.gain), (.string u.caption), (.int .i64 u.os), (.int .i64 u.of), (.slice u.A u.al.length u.c)])), (47, (.pointer (some ⟨bu, ou + j * 13, none⟩))), (46, (.int .i64 ((j : Nat) : Int))), (45, (.slice (some ⟨bu, ou, none⟩) ul.length uc)), (42, (.bool (decide (((j : Nat) : Int) < ((ul.length : Nat) : Int))))), (41, (.int .i64 ((ul.length : Nat) : Int))), (40, (.slice (some ⟨bu, ou, none⟩) ul.length uc)), (39, (.int .i64 ((j : Nat) : Int))), (15, (.int .i64 ((j : Nat) : Int))), (14, (.slice (some ⟨bu, ou, none⟩) ul.length uc)), (13, (.pointer (some ⟨b_8, 0, none⟩))), (11, (.pointer (some ⟨b, 0, none⟩))), (9, (.bool true)), (8, (.bool false))]) (by kernel_rfl)
                  refine then_normal ?_
                  refine w_ift H rfl ?_
                  refine wp_seq ?_
                  refine w_region ?_
                  refine H.val 8 (.bool false) (by kernel_rfl) (by kernel_rfl) ?_
                  intro a H
                  refine wpList_nil ?_
                  refine then_normal ?_
                  refine wp_ret ?_
                  refine then_ret ?_
                  refine inb_ret ?_
                  refine then_ret ?_
                  refine then_ret ?_
                  refine inb_ret ?_
                  refine then_ret ?_
                  refine H.ret1 (fn := Try.f4) Try.results4 (RV.tmp_ (v := (.bool false)) (by kernel_rfl)) ?_
                  exfalso
                  by_cases hk0 : 0 < p.index
                  · have hw6 := hw3 hk0
                    omega
                  · omega
                · have g99p := eq_of_bne_false g99
                  refine H.val 100 (.pointer (some ⟨b_14, 10, none⟩)) (by kernel_rfl) (by kernel_rfl) ?_
                  intro a H
                  refine H.val 101 (.pointer (some ⟨b_14, 11, none⟩)) (by kernel_rfl) (by kernel_rfl) ?_
                  intro a H
                  refine H.val 102 (.int .i64 u.of) (by kernel_rfl) (ex_load1 (by kernel_rfl) (by kernel_rfl) (HP.cell 1 rfl 11 rfl)) ?_
                  intro a H
                  refine H.val 103 (.int .i64 (u.frame - u.os)) (by kernel_rfl) (by kernel_rfl) ?_
                  intro a H
                  refine H.val 104 (.bool (decide (u.of ≤ (u.frame - u.os)))) (by kernel_rfl) (by kernel_rfl) ?_
                  intro a H
                  refine H.val 105 (.bool (decide (u.of ≤ (u.frame - u.os)))) (by kernel_rfl) (by kernel_rfl) ?_
                  intro a H
                  refine wpList_nil ?_
                  have H := H.keep (L' := [(105, (.bool (decide (u.of ≤ (u.frame - u.os))))), (19, (.int .i64 (u.frame - u.os))), (70, (.bool (p.item != 0))), (18, (.bool (p.index == u.index))), (17, (.pointer (some ⟨b_20, 0, none⟩))), (51, (.agg #[(.int .i64 p.item), (.int .i64 p.index), (.int .i64 v)])), (50, (.agg #[(.int .i64 u.channel), (.int .i64 u.frame), (.int .i64 u.version), (.int .i64 u.item), (.int .i64 u.index), (.bool u.key), (.string u.data), (.int .i64 u.regions), (.int .i64 u.gain), (.string u.caption), (.int .i64 u.os), (.int .i64 u.of), (.slice u.A u.al.length u.c)])), (49, (.pointer (some ⟨b, 0, none⟩))), (16, (.pointer (some ⟨b_14, 0, none⟩))), (48, (.agg #[(.int .i64 u.channel), (.int .i64 u.frame), (.int .i64 u.version), (.int .i64 u.item), (.int .i64 u.index), (.bool u.key), (.string u.data), (.int .i64 u.regions), (.int .i64 u.gain), (.string u.caption), (.int .i64 u.os), (.int .i64 u.of), (.slice u.A u.al.length u.c)])), (47, (.pointer (some ⟨bu, ou + j * 13, none⟩))), (46, (.int .i64 ((j : Nat) : Int))), (45, (.slice (some ⟨bu, ou, none⟩) ul.length uc)), (42, (.bool (decide (((j : Nat) : Int) < ((ul.length : Nat) : Int))))), (41, (.int .i64 ((ul.length : Nat) : Int))), (40, (.slice (some ⟨bu, ou, none⟩) ul.length uc)), (39, (.int .i64 ((j : Nat) : Int))), (15, (.int .i64 ((j : Nat) : Int))), (14, (.slice (some ⟨bu, ou, none⟩) ul.length uc)), (13, (.pointer (some ⟨b_8, 0, none⟩))), (11, (.pointer (some ⟨b, 0, none⟩))), (9, (.bool true)), (8, (.bool false))]) (by kernel_rfl)
                  refine then_normal ?_
                  refine w_if H rfl (fun g105 => ?_) (fun g105 => ?_)
                  · have g105p := of_decide_eq_true g105
                    refine wp_seq ?_
                    refine w_region ?_
                    refine H.val 8 (.bool false) (by kernel_rfl) (by kernel_rfl) ?_
                    intro a H
                    refine wpList_nil ?_
                    refine then_normal ?_
                    refine wp_ret ?_
                    refine then_ret ?_
                    refine inb_ret ?_
                    refine then_ret ?_
                    refine then_ret ?_
                    refine inb_ret ?_
                    refine then_ret ?_
                    refine H.ret1 (fn := Try.f4) Try.results4 (RV.tmp_ (v := (.bool false)) (by kernel_rfl)) ?_
                    exfalso
                    by_cases hk0 : 0 < p.index
                    · have hw6 := hw3 hk0
                      omega
                    · omega
                  · have g105p := of_decide_eq_false g105
                    refine wp_skip ?_
                    refine then_normal ?_
                    refine w_region ?_
                    refine H.val 106 (.agg #[(.int .i64 p.item), (.int .i64 p.index), (.int .i64 v)]) (by kernel_rfl) (ex_loadN (vs := [(.int .i64 p.item), (.int .i64 p.index), (.int .i64 v)]) (by kernel_rfl) (by kernel_rfl) (by kernel_rfl) rfl (HP.cells 0 rfl 0 3 (by kernel_rfl))) ?_
                    intro a H
                    refine H.store HP 4 b_8 0 3 36 [(.int .i64 ((stAt k us j).last.item)), (.int .i64 ((stAt k us j).last.index)), (.int .i64 lv)] true (.agg #[(.int .i64 p.item), (.int .i64 p.index), (.int .i64 v)]) [bx b_20 36 [(.int .i64 p.item), (.int .i64 p.index), (.int .i64 v)] true, bx b_14 46 [(.int .i64 u.channel), (.int .i64 u.frame), (.int .i64 u.version), (.int .i64 u.item), (.int .i64 u.index), (.bool u.key), (.string u.data), (.int .i64 u.regions), (.int .i64 u.gain), (.string u.caption), (.int .i64 u.os), (.int .i64 u.of), (.slice u.A u.al.length u.c)] true, (unitsR (some ⟨bu, ou, none⟩) ul), (splR b k (stepS k (stAt k us j) u).2.2 NB_17 cB_18), bx b_8 36 [(.int .i64 p.item), (.int .i64 p.index), (.int .i64 v)] true] (by kernel_rfl) (by kernel_rfl) (by kernel_rfl) rfl (by kernel_rfl) (by kernel_rfl) (by kernel_rfl) (by kernel_rfl) (by kernel_rfl) ?_
                    intro w_23 a H HP
                    refine wpList_nil ?_
                    refine inb_normal ?_
                    refine then_normal ?_
                    refine w_region ?_
                    refine H.val 43 (.int .i64 ((j : Nat) : Int)) (by kernel_rfl) (by kernel_rfl) ?_
                    intro a H
                    refine H.valE 44 (.int .i64 (IntKind.i64.wrap (((j : Nat) : Int) + 1))) (.int .i64 (((j : Nat) : Int) + 1)) (by kernel_rfl) (by kernel_rfl) ((by rw [wrap_ini64 _ (by omega)])) ?_
                    intro a H
                    refine H.val 15 (.int .i64 (((j : Nat) : Int) + 1)) (by kernel_rfl) (by kernel_rfl) ?_
                    intro a H
                    refine wpList_nil ?_
                    refine then_normal ?_
                    have H := H.as 15 (.int .i64 ((j + 1 : Nat) : Int)) rfl rfl
                    refine ⟨_, ?_, j + 1, NB_17, cB_18, v, rfl, H.keep (by kernel_rfl), (by rw [hst1l, hst1]; exact ((HP.tail rfl).tail rfl)), by omega⟩
                    omega
            · have g84p := of_decide_eq_false g84
              refine H.skip 85 (by kernel_rfl) ?_
              intro a H
              refine H.skip 86 (by kernel_rfl) ?_
              intro a H
              refine H.skip 87 (by kernel_rfl) ?_
              intro a H
              refine H.skip 88 (by kernel_rfl) ?_
              intro a H
              refine H.skip 89 (by kernel_rfl) ?_
              intro a H
              refine H.skip 90 (by kernel_rfl) ?_
              intro a H
              refine H.skip 91 (by kernel_rfl) ?_
              intro a H
              refine H.skip 92 (by kernel_rfl) ?_
              intro a H
              refine H.skip 93 (by kernel_rfl) ?_
              intro a H
              refine H.skip 94 (by kernel_rfl) ?_
              intro a H
              refine H.skip 95 (by kernel_rfl) ?_
              intro a H
              refine H.skip 96 (by kernel_rfl) ?_
              intro a H
              refine H.val 97 (.bool false) (by kernel_rfl) (by kernel_rfl) ?_
              intro a H
              refine H.val 98 (.bool false) (by kernel_rfl) (by kernel_rfl) ?_
              intro a H
              refine H.val 99 (.bool false) (by kernel_rfl) (by kernel_rfl) ?_
              intro a H
              refine H.val 100 (.pointer (some ⟨b_14, 10, none⟩)) (by kernel_rfl) (by kernel_rfl) ?_
              intro a H
              refine H.val 101 (.pointer (some ⟨b_14, 11, none⟩)) (by kernel_rfl) (by kernel_rfl) ?_
              intro a H
              refine H.val 102 (.int .i64 u.of) (by kernel_rfl) (ex_load1 (by kernel_rfl) (by kernel_rfl) (HP.cell 1 rfl 11 rfl)) ?_
              intro a H
              refine H.val 103 (.int .i64 (u.frame - u.os)) (by kernel_rfl) (by kernel_rfl) ?_
              intro a H
              refine H.val 104 (.bool (decide (u.of ≤ (u.frame - u.os)))) (by kernel_rfl) (by kernel_rfl) ?_
              intro a H
              refine H.val 105 (.bool (decide (u.of ≤ (u.frame - u.os)))) (by kernel_rfl) (by kernel_rfl) ?_
              intro a H
              refine wpList_nil ?_
              have H := H.keep (L' := [(105, (.bool (decide (u.of ≤ (u.frame - u.os))))), (19, (.int .i64 (u.frame - u.os))), (70, (.bool (p.item != 0))), (18, (.bool (p.index == u.index))), (17, (.pointer (some ⟨b_20, 0, none⟩))), (51, (.agg #[(.int .i64 p.item), (.int .i64 p.index), (.int .i64 v)])), (50, (.agg #[(.int .i64 u.channel), (.int .i64 u.frame), (.int .i64 u.version), (.int .i64 u.item), (.int .i64 u.index), (.bool u.key), (.string u.data), (.int .i64 u.regions), (.int .i64 u.gain), (.string u.caption), (.int .i64 u.os), (.int .i64 u.of), (.slice u.A u.al.length u.c)])), (49, (.pointer (some ⟨b, 0, none⟩))), (16, (.pointer (some ⟨b_14, 0, none⟩))), (48, (.agg #[(.int .i64 u.channel), (.int .i64 u.frame), (.int .i64 u.version), (.int .i64 u.item), (.int .i64 u.index), (.bool u.key), (.string u.data), (.int .i64 u.regions), (.int .i64 u.gain), (.string u.caption), (.int .i64 u.os), (.int .i64 u.of), (.slice u.A u.al.length u.c)])), (47, (.pointer (some ⟨bu, ou + j * 13, none⟩))), (46, (.int .i64 ((j : Nat) : Int))), (45, (.slice (some ⟨bu, ou, none⟩) ul.length uc)), (42, (.bool (decide (((j : Nat) : Int) < ((ul.length : Nat) : Int))))), (41, (.int .i64 ((ul.length : Nat) : Int))), (40, (.slice (some ⟨bu, ou, none⟩) ul.length uc)), (39, (.int .i64 ((j : Nat) : Int))), (15, (.int .i64 ((j : Nat) : Int))), (14, (.slice (some ⟨bu, ou, none⟩) ul.length uc)), (13, (.pointer (some ⟨b_8, 0, none⟩))), (11, (.pointer (some ⟨b, 0, none⟩))), (9, (.bool true)), (8, (.bool false))]) (by kernel_rfl)
              refine then_normal ?_
              refine w_if H rfl (fun g105 => ?_) (fun g105 => ?_)
              · have g105p := of_decide_eq_true g105
                refine wp_seq ?_
                refine w_region ?_
                refine H.val 8 (.bool false) (by kernel_rfl) (by kernel_rfl) ?_
                intro a H
                refine wpList_nil ?_
                refine then_normal ?_
                refine wp_ret ?_
                refine then_ret ?_
                refine inb_ret ?_
                refine then_ret ?_
                refine then_ret ?_
                refine inb_ret ?_
                refine then_ret ?_
                refine H.ret1 (fn := Try.f4) Try.results4 (RV.tmp_ (v := (.bool false)) (by kernel_rfl)) ?_
                exfalso
                by_cases hk0 : 0 < p.index
                · have hw6 := hw3 hk0
                  omega
                · omega
              · have g105p := of_decide_eq_false g105
                refine wp_skip ?_
                refine then_normal ?_
                refine w_region ?_
                refine H.val 106 (.agg #[(.int .i64 p.item), (.int .i64 p.index), (.int .i64 v)]) (by kernel_rfl) (ex_loadN (vs := [(.int .i64 p.item), (.int .i64 p.index), (.int .i64 v)]) (by kernel_rfl) (by kernel_rfl) (by kernel_rfl) rfl (HP.cells 0 rfl 0 3 (by kernel_rfl))) ?_
                intro a H
                refine H.store HP 4 b_8 0 3 36 [(.int .i64 ((stAt k us j).last.item)), (.int .i64 ((stAt k us j).last.index)), (.int .i64 lv)] true (.agg #[(.int .i64 p.item), (.int .i64 p.index), (.int .i64 v)]) [bx b_20 36 [(.int .i64 p.item), (.int .i64 p.index), (.int .i64 v)] true, bx b_14 46 [(.int .i64 u.channel), (.int .i64 u.frame), (.int .i64 u.version), (.int .i64 u.item), (.int .i64 u.index), (.bool u.key), (.string u.data), (.int .i64 u.regions), (.int .i64 u.gain), (.string u.caption), (.int .i64 u.os), (.int .i64 u.of), (.slice u.A u.al.length u.c)] true, (unitsR (some ⟨bu, ou, none⟩) ul), (splR b k (stepS k (stAt k us j) u).2.2 NB_17 cB_18), bx b_8 36 [(.int .i64 p.item), (.int .i64 p.index), (.int .i64 v)] true] (by kernel_rfl) (by kernel_rfl) (by kernel_rfl) rfl (by kernel_rfl) (by kernel_rfl) (by kernel_rfl) (by kernel_rfl) (by kernel_rfl) ?_
                intro w_24 a H HP
                refine wpList_nil ?_
                refine inb_normal ?_
                refine then_normal ?_
                refine w_region ?_
                refine H.val 43 (.int .i64 ((j : Nat) : Int)) (by kernel_rfl) (by kernel_rfl) ?_
                intro a H
                refine H.valE 44 (.int .i64 (IntKind.i64.wrap (((j : Nat) : Int) + 1))) (.int .i64 (((j : Nat) : Int) + 1)) (by kernel_rfl) (by kernel_rfl) ((by rw [wrap_ini64 _ (by omega)])) ?_
                intro a H
                refine H.val 15 (.int .i64 (((j : Nat) : Int) + 1)) (by kernel_rfl) (by kernel_rfl) ?_
                intro a H
                refine wpList_nil ?_
                refine then_normal ?_
                have H := H.as 15 (.int .i64 ((j + 1 : Nat) : Int)) rfl rfl
                refine ⟨_, ?_, j + 1, NB_17, cB_18, v, rfl, H.keep (by kernel_rfl), (by rw [hst1l, hst1]; exact ((HP.tail rfl).tail rfl)), by omega⟩
                omega
        · have g70p := eq_of_bne_false g70
          refine wp_skip ?_
          refine then_normal ?_
          refine w_region ?_
          refine H.val 106 (.agg #[(.int .i64 p.item), (.int .i64 p.index), (.int .i64 v)]) (by kernel_rfl) (ex_loadN (vs := [(.int .i64 p.item), (.int .i64 p.index), (.int .i64 v)]) (by kernel_rfl) (by kernel_rfl) (by kernel_rfl) rfl (HP.cells 0 rfl 0 3 (by kernel_rfl))) ?_
          intro a H
          refine H.store HP 4 b_8 0 3 36 [(.int .i64 ((stAt k us j).last.item)), (.int .i64 ((stAt k us j).last.index)), (.int .i64 lv)] true (.agg #[(.int .i64 p.item), (.int .i64 p.index), (.int .i64 v)]) [bx b_20 36 [(.int .i64 p.item), (.int .i64 p.index), (.int .i64 v)] true, bx b_14 46 [(.int .i64 u.channel), (.int .i64 u.frame), (.int .i64 u.version), (.int .i64 u.item), (.int .i64 u.index), (.bool u.key), (.string u.data), (.int .i64 u.regions), (.int .i64 u.gain), (.string u.caption), (.int .i64 u.os), (.int .i64 u.of), (.slice u.A u.al.length u.c)] true, (unitsR (some ⟨bu, ou, none⟩) ul), (splR b k (stepS k (stAt k us j) u).2.2 NB_17 cB_18), bx b_8 36 [(.int .i64 p.item), (.int .i64 p.index), (.int .i64 v)] true] (by kernel_rfl) (by kernel_rfl) (by kernel_rfl) rfl (by kernel_rfl) (by kernel_rfl) (by kernel_rfl) (by kernel_rfl) (by kernel_rfl) ?_
          intro w_25 a H HP
          refine wpList_nil ?_
          refine inb_normal ?_
          refine then_normal ?_
          refine w_region ?_
          refine H.val 43 (.int .i64 ((j : Nat) : Int)) (by kernel_rfl) (by kernel_rfl) ?_
          intro a H
          refine H.valE 44 (.int .i64 (IntKind.i64.wrap (((j : Nat) : Int) + 1))) (.int .i64 (((j : Nat) : Int) + 1)) (by kernel_rfl) (by kernel_rfl) ((by rw [wrap_ini64 _ (by omega)])) ?_
          intro a H
          refine H.val 15 (.int .i64 (((j : Nat) : Int) + 1)) (by kernel_rfl) (by kernel_rfl) ?_
          intro a H
          refine wpList_nil ?_
          refine then_normal ?_
          have H := H.as 15 (.int .i64 ((j + 1 : Nat) : Int)) rfl rfl
          refine ⟨_, ?_, j + 1, NB_17, cB_18, v, rfl, H.keep (by kernel_rfl), (by rw [hst1l, hst1]; exact ((HP.tail rfl).tail rfl)), by omega⟩
          omega
      · have g66p := not_is_false g66
        refine H.skip 67 (by kernel_rfl) ?_
        intro a H
        refine H.skip 68 (by kernel_rfl) ?_
        intro a H
        refine H.skip 69 (by kernel_rfl) ?_
        intro a H
        refine H.val 70 (.bool false) (by kernel_rfl) (by kernel_rfl) ?_
        intro a H
        refine wpList_nil ?_
        have H := H.keep (L' := [(70, (.bool false)), (18, (.bool (p.index == u.index))), (17, (.pointer (some ⟨b_20, 0, none⟩))), (51, (.agg #[(.int .i64 p.item), (.int .i64 p.index), (.int .i64 v)])), (50, (.agg #[(.int .i64 u.channel), (.int .i64 u.frame), (.int .i64 u.version), (.int .i64 u.item), (.int .i64 u.index), (.bool u.key), (.string u.data), (.int .i64 u.regions), (.int .i64 u.gain), (.string u.caption), (.int .i64 u.os), (.int .i64 u.of), (.slice u.A u.al.length u.c)])), (49, (.pointer (some ⟨b, 0, none⟩))), (16, (.pointer (some ⟨b_14, 0, none⟩))), (48, (.agg #[(.int .i64 u.channel), (.int .i64 u.frame), (.int .i64 u.version), (.int .i64 u.item), (.int .i64 u.index), (.bool u.key), (.string u.data), (.int .i64 u.regions), (.int .i64 u.gain), (.string u.caption), (.int .i64 u.os), (.int .i64 u.of), (.slice u.A u.al.length u.c)])), (47, (.pointer (some ⟨bu, ou + j * 13, none⟩))), (46, (.int .i64 ((j : Nat) : Int))), (45, (.slice (some ⟨bu, ou, none⟩) ul.length uc)), (42, (.bool (decide (((j : Nat) : Int) < ((ul.length : Nat) : Int))))), (41, (.int .i64 ((ul.length : Nat) : Int))), (40, (.slice (some ⟨bu, ou, none⟩) ul.length uc)), (39, (.int .i64 ((j : Nat) : Int))), (15, (.int .i64 ((j : Nat) : Int))), (14, (.slice (some ⟨bu, ou, none⟩) ul.length uc)), (13, (.pointer (some ⟨b_8, 0, none⟩))), (11, (.pointer (some ⟨b, 0, none⟩))), (9, (.bool true)), (8, (.bool false))]) (by kernel_rfl)
        refine then_normal ?_
        refine w_iff H rfl ?_
        refine wp_skip ?_
        refine then_normal ?_
        refine w_region ?_
        refine H.val 106 (.agg #[(.int .i64 p.item), (.int .i64 p.index), (.int .i64 v)]) (by kernel_rfl) (ex_loadN (vs := [(.int .i64 p.item), (.int .i64 p.index), (.int .i64 v)]) (by kernel_rfl) (by kernel_rfl) (by kernel_rfl) rfl (HP.cells 0 rfl 0 3 (by kernel_rfl))) ?_
        intro a H
        refine H.store HP 4 b_8 0 3 36 [(.int .i64 ((stAt k us j).last.item)), (.int .i64 ((stAt k us j).last.index)), (.int .i64 lv)] true (.agg #[(.int .i64 p.item), (.int .i64 p.index), (.int .i64 v)]) [bx b_20 36 [(.int .i64 p.item), (.int .i64 p.index), (.int .i64 v)] true, bx b_14 46 [(.int .i64 u.channel), (.int .i64 u.frame), (.int .i64 u.version), (.int .i64 u.item), (.int .i64 u.index), (.bool u.key), (.string u.data), (.int .i64 u.regions), (.int .i64 u.gain), (.string u.caption), (.int .i64 u.os), (.int .i64 u.of), (.slice u.A u.al.length u.c)] true, (unitsR (some ⟨bu, ou, none⟩) ul), (splR b k (stepS k (stAt k us j) u).2.2 NB_17 cB_18), bx b_8 36 [(.int .i64 p.item), (.int .i64 p.index), (.int .i64 v)] true] (by kernel_rfl) (by kernel_rfl) (by kernel_rfl) rfl (by kernel_rfl) (by kernel_rfl) (by kernel_rfl) (by kernel_rfl) (by kernel_rfl) ?_
        intro w_26 a H HP
        refine wpList_nil ?_
        refine inb_normal ?_
        refine then_normal ?_
        refine w_region ?_
        refine H.val 43 (.int .i64 ((j : Nat) : Int)) (by kernel_rfl) (by kernel_rfl) ?_
        intro a H
        refine H.valE 44 (.int .i64 (IntKind.i64.wrap (((j : Nat) : Int) + 1))) (.int .i64 (((j : Nat) : Int) + 1)) (by kernel_rfl) (by kernel_rfl) ((by rw [wrap_ini64 _ (by omega)])) ?_
        intro a H
        refine H.val 15 (.int .i64 (((j : Nat) : Int) + 1)) (by kernel_rfl) (by kernel_rfl) ?_
        intro a H
        refine wpList_nil ?_
        refine then_normal ?_
        have H := H.as 15 (.int .i64 ((j + 1 : Nat) : Int)) rfl rfl
        refine ⟨_, ?_, j + 1, NB_17, cB_18, v, rfl, H.keep (by kernel_rfl), (by rw [hst1l, hst1]; exact ((HP.tail rfl).tail rfl)), by omega⟩
        omega
    · have g57p := ne_of_beq_false g57
      refine H.skip 58 (by kernel_rfl) ?_
      intro a H
      refine H.skip 59 (by kernel_rfl) ?_
      intro a H
      refine H.skip 60 (by kernel_rfl) ?_
      intro a H
      refine H.skip 61 (by kernel_rfl) ?_
      intro a H
      refine H.skip 62 (by kernel_rfl) ?_
      intro a H
      refine H.val 63 (.bool false) (by kernel_rfl) (by kernel_rfl) ?_
      intro a H
      refine H.val 18 (.bool false) (by kernel_rfl) (by kernel_rfl) ?_
      intro a H
      refine wpList_nil ?_
      have H := H.keep (L' := [(18, (.bool false)), (17, (.pointer (some ⟨b_20, 0, none⟩))), (51, (.agg #[(.int .i64 p.item), (.int .i64 p.index), (.int .i64 v)])), (50, (.agg #[(.int .i64 u.channel), (.int .i64 u.frame), (.int .i64 u.version), (.int .i64 u.item), (.int .i64 u.index), (.bool u.key), (.string u.data), (.int .i64 u.regions), (.int .i64 u.gain), (.string u.caption), (.int .i64 u.os), (.int .i64 u.of), (.slice u.A u.al.length u.c)])), (49, (.pointer (some ⟨b, 0, none⟩))), (16, (.pointer (some ⟨b_14, 0, none⟩))), (48, (.agg #[(.int .i64 u.channel), (.int .i64 u.frame), (.int .i64 u.version), (.int .i64 u.item), (.int .i64 u.index), (.bool u.key), (.string u.data), (.int .i64 u.regions), (.int .i64 u.gain), (.string u.caption), (.int .i64 u.os), (.int .i64 u.of), (.slice u.A u.al.length u.c)])), (47, (.pointer (some ⟨bu, ou + j * 13, none⟩))), (46, (.int .i64 ((j : Nat) : Int))), (45, (.slice (some ⟨bu, ou, none⟩) ul.length uc)), (42, (.bool (decide (((j : Nat) : Int) < ((ul.length : Nat) : Int))))), (41, (.int .i64 ((ul.length : Nat) : Int))), (40, (.slice (some ⟨bu, ou, none⟩) ul.length uc)), (39, (.int .i64 ((j : Nat) : Int))), (15, (.int .i64 ((j : Nat) : Int))), (14, (.slice (some ⟨bu, ou, none⟩) ul.length uc)), (13, (.pointer (some ⟨b_8, 0, none⟩))), (11, (.pointer (some ⟨b, 0, none⟩))), (9, (.bool true)), (8, (.bool false))]) (by kernel_rfl)
      refine then_normal ?_
      refine wp_seq ?_
      refine wp_seq ?_
      refine w_region ?_
      refine H.val 64 (.bool false) (by kernel_rfl) (by kernel_rfl) ?_
      intro a H
      refine H.val 65 (.bool true) (by kernel_rfl) (by kernel_rfl) ?_
      intro a H
      refine H.val 66 (.bool true) (by kernel_rfl) (by kernel_rfl) ?_
      intro a H
      refine H.val 67 (.pointer (some ⟨b_20, 0, none⟩)) (by kernel_rfl) (by kernel_rfl) ?_
      intro a H
      refine H.val 68 (.int .i64 p.item) (by kernel_rfl) (ex_load1 (by kernel_rfl) (by kernel_rfl) (HP.cell 0 rfl 0 rfl)) ?_
      intro a H
      refine H.val 69 (.bool (p.item != 0)) (by kernel_rfl) (by kernel_rfl) ?_
      intro a H
      refine H.val 70 (.bool (p.item != 0)) (by kernel_rfl) (by kernel_rfl) ?_
      intro a H
      refine wpList_nil ?_
      have H := H.keep (L' := [(70, (.bool (p.item != 0))), (18, (.bool false)), (17, (.pointer (some ⟨b_20, 0, none⟩))), (51, (.agg #[(.int .i64 p.item), (.int .i64 p.index), (.int .i64 v)])), (50, (.agg #[(.int .i64 u.channel), (.int .i64 u.frame), (.int .i64 u.version), (.int .i64 u.item), (.int .i64 u.index), (.bool u.key), (.string u.data), (.int .i64 u.regions), (.int .i64 u.gain), (.string u.caption), (.int .i64 u.os), (.int .i64 u.of), (.slice u.A u.al.length u.c)])), (49, (.pointer (some ⟨b, 0, none⟩))), (16, (.pointer (some ⟨b_14, 0, none⟩))), (48, (.agg #[(.int .i64 u.channel), (.int .i64 u.frame), (.int .i64 u.version), (.int .i64 u.item), (.int .i64 u.index), (.bool u.key), (.string u.data), (.int .i64 u.regions), (.int .i64 u.gain), (.string u.caption), (.int .i64 u.os), (.int .i64 u.of), (.slice u.A u.al.length u.c)])), (47, (.pointer (some ⟨bu, ou + j * 13, none⟩))), (46, (.int .i64 ((j : Nat) : Int))), (45, (.slice (some ⟨bu, ou, none⟩) ul.length uc)), (42, (.bool (decide (((j : Nat) : Int) < ((ul.length : Nat) : Int))))), (41, (.int .i64 ((ul.length : Nat) : Int))), (40, (.slice (some ⟨bu, ou, none⟩) ul.length uc)), (39, (.int .i64 ((j : Nat) : Int))), (15, (.int .i64 ((j : Nat) : Int))), (14, (.slice (some ⟨bu, ou, none⟩) ul.length uc)), (13, (.pointer (some ⟨b_8, 0, none⟩))), (11, (.pointer (some ⟨b, 0, none⟩))), (9, (.bool true)), (8, (.bool false))]) (by kernel_rfl)
      refine then_normal ?_
      refine w_if H rfl (fun g70 => ?_) (fun g70 => ?_)
      · have g70p := bne_iff_ne.1 g70
        refine wp_seq ?_
        have hnn : ¬ (p.item = u.item ∧ p.index = u.index) := by
          intro hh; exact g57p hh.1
        obtain ⟨hw1, hw2, hw3, hw4, hw5⟩ := hwh g70p hnn
        refine w_region ?_
        refine H.val 71 (.pointer (some ⟨b_14, 1, none⟩)) (by kernel_rfl) (by kernel_rfl) ?_
        intro a H
        refine H.val 72 (.int .i64 u.frame) (by kernel_rfl) (ex_load1 (by kernel_rfl) (by kernel_rfl) (HP.cell 1 rfl 1 rfl)) ?_
        intro a H
        refine H.val 73 (.pointer (some ⟨b_14, 10, none⟩)) (by kernel_rfl) (by kernel_rfl) ?_
        intro a H
        refine H.val 74 (.pointer (some ⟨b_14, 10, none⟩)) (by kernel_rfl) (by kernel_rfl) ?_
        intro a H
        refine H.val 75 (.int .i64 u.os) (by kernel_rfl) (ex_load1 (by kernel_rfl) (by kernel_rfl) (HP.cell 1 rfl 10 rfl)) ?_
        intro a H
        refine H.valE 76 (.int .i64 (IntKind.i64.wrap (u.frame - u.os))) (.int .i64 (u.frame - u.os)) (by kernel_rfl) (by kernel_rfl) ((by rw [wrap_ini64 _ (by omega)])) ?_
        intro a H
        refine H.val 19 (.int .i64 (u.frame - u.os)) (by kernel_rfl) (by kernel_rfl) ?_
        intro a H
        refine wpList_nil ?_
        have H := H.keep (L' := [(19, (.int .i64 (u.frame - u.os))), (70, (.bool (p.item != 0))), (18, (.bool false)), (17, (.pointer (some ⟨b_20, 0, none⟩))), (51, (.agg #[(.int .i64 p.item), (.int .i64 p.index), (.int .i64 v)])), (50, (.agg #[(.int .i64 u.channel), (.int .i64 u.frame), (.int .i64 u.version), (.int .i64 u.item), (.int .i64 u.index), (.bool u.key), (.string u.data), (.int .i64 u.regions), (.int .i64 u.gain), (.string u.caption), (.int .i64 u.os), (.int .i64 u.of), (.slice u.A u.al.length u.c)])), (49, (.pointer (some ⟨b, 0, none⟩))), (16, (.pointer (some ⟨b_14, 0, none⟩))), (48, (.agg #[(.int .i64 u.channel), (.int .i64 u.frame), (.int .i64 u.version), (.int .i64 u.item), (.int .i64 u.index), (.bool u.key), (.string u.data), (.int .i64 u.regions), (.int .i64 u.gain), (.string u.caption), (.int .i64 u.os), (.int .i64 u.of), (.slice u.A u.al.length u.c)])), (47, (.pointer (some ⟨bu, ou + j * 13, none⟩))), (46, (.int .i64 ((j : Nat) : Int))), (45, (.slice (some ⟨bu, ou, none⟩) ul.length uc)), (42, (.bool (decide (((j : Nat) : Int) < ((ul.length : Nat) : Int))))), (41, (.int .i64 ((ul.length : Nat) : Int))), (40, (.slice (some ⟨bu, ou, none⟩) ul.length uc)), (39, (.int .i64 ((j : Nat) : Int))), (15, (.int .i64 ((j : Nat) : Int))), (14, (.slice (some ⟨bu, ou, none⟩) ul.length uc)), (13, (.pointer (some ⟨b_8, 0, none⟩))), (11, (.pointer (some ⟨b, 0, none⟩))), (9, (.bool true)), (8, (.bool false))]) (by kernel_rfl)
        refine then_normal ?_
        refine wp_seq ?_
        refine w_region ?_
        refine H.val 77 (.pointer (some ⟨b_20, 1, none⟩)) (by kernel_rfl) (by kernel_rfl) ?_
        intro a H
        refine H.val 78 (.int .i64 p.index) (by kernel_rfl) (ex_load1 (by kernel_rfl) (by kernel_rfl) (HP.cell 0 rfl 1 rfl)) ?_
        intro a H
        refine H.val 79 (.int .i64 (u.frame - u.os)) (by kernel_rfl) (by kernel_rfl) ?_
        intro a H
        refine H.val 80 (.bool (p.index != (u.frame - u.os))) (by kernel_rfl) (by kernel_rfl) ?_
        intro a H
        refine H.val 81 (.bool (p.index != (u.frame - u.os))) (by kernel_rfl) (by kernel_rfl) ?_
        intro a H
        refine H.split 81 rfl (fun g81 H => ?_) (fun g81 H => ?_)
        · have g81p := bne_iff_ne.1 g81
          refine H.skip 82 (by kernel_rfl) ?_
          intro a H
          refine H.skip 83 (by kernel_rfl) ?_
          intro a H
          refine H.skip 84 (by kernel_rfl) ?_
          intro a H
          refine H.skip 85 (by kernel_rfl) ?_
          intro a H
          refine H.skip 86 (by kernel_rfl) ?_
          intro a H
          refine H.skip 87 (by kernel_rfl) ?_
          intro a H
          refine H.skip 88 (by kernel_rfl) ?_
          intro a H
          refine H.skip 89 (by kernel_rfl) ?_
          intro a H
          refine H.skip 90 (by kernel_rfl) ?_
          intro a H
          refine H.skip 91 (by kernel_rfl) ?_
          intro a H
          refine H.skip 92 (by kernel_rfl) ?_
          intro a H
          refine H.skip 93 (by kernel_rfl) ?_
          intro a H
          refine H.skip 94 (by kernel_rfl) ?_
          intro a H
          refine H.skip 95 (by kernel_rfl) ?_
          intro a H
          refine H.skip 96 (by kernel_rfl) ?_
          intro a H
          refine H.skip 97 (by kernel_rfl) ?_
          intro a H
          refine H.val 98 (.bool true) (by kernel_rfl) (by kernel_rfl) ?_
          intro a H
          refine H.val 99 (.bool true) (by kernel_rfl) (by kernel_rfl) ?_
          intro a H
          refine H.skip 100 (by kernel_rfl) ?_
          intro a H
          refine H.skip 101 (by kernel_rfl) ?_
          intro a H
          refine H.skip 102 (by kernel_rfl) ?_
          intro a H
          refine H.skip 103 (by kernel_rfl) ?_
          intro a H
          refine H.skip 104 (by kernel_rfl) ?_
          intro a H
          refine H.val 105 (.bool true) (by kernel_rfl) (by kernel_rfl) ?_
          intro a H
          refine wpList_nil ?_
          have H := H.keep (L' := [(105, (.bool true)), (19, (.int .i64 (u.frame - u.os))), (70, (.bool (p.item != 0))), (18, (.bool false)), (17, (.pointer (some ⟨b_20, 0, none⟩))), (51, (.agg #[(.int .i64 p.item), (.int .i64 p.index), (.int .i64 v)])), (50, (.agg #[(.int .i64 u.channel), (.int .i64 u.frame), (.int .i64 u.version), (.int .i64 u.item), (.int .i64 u.index), (.bool u.key), (.string u.data), (.int .i64 u.regions), (.int .i64 u.gain), (.string u.caption), (.int .i64 u.os), (.int .i64 u.of), (.slice u.A u.al.length u.c)])), (49, (.pointer (some ⟨b, 0, none⟩))), (16, (.pointer (some ⟨b_14, 0, none⟩))), (48, (.agg #[(.int .i64 u.channel), (.int .i64 u.frame), (.int .i64 u.version), (.int .i64 u.item), (.int .i64 u.index), (.bool u.key), (.string u.data), (.int .i64 u.regions), (.int .i64 u.gain), (.string u.caption), (.int .i64 u.os), (.int .i64 u.of), (.slice u.A u.al.length u.c)])), (47, (.pointer (some ⟨bu, ou + j * 13, none⟩))), (46, (.int .i64 ((j : Nat) : Int))), (45, (.slice (some ⟨bu, ou, none⟩) ul.length uc)), (42, (.bool (decide (((j : Nat) : Int) < ((ul.length : Nat) : Int))))), (41, (.int .i64 ((ul.length : Nat) : Int))), (40, (.slice (some ⟨bu, ou, none⟩) ul.length uc)), (39, (.int .i64 ((j : Nat) : Int))), (15, (.int .i64 ((j : Nat) : Int))), (14, (.slice (some ⟨bu, ou, none⟩) ul.length uc)), (13, (.pointer (some ⟨b_8, 0, none⟩))), (11, (.pointer (some ⟨b, 0, none⟩))), (9, (.bool true)), (8, (.bool false))]) (by kernel_rfl)
          refine then_normal ?_
          refine w_ift H rfl ?_
          refine wp_seq ?_
          refine w_region ?_
          refine H.val 8 (.bool false) (by kernel_rfl) (by kernel_rfl) ?_
          intro a H
          refine wpList_nil ?_
          refine then_normal ?_
          refine wp_ret ?_
          refine then_ret ?_
          refine inb_ret ?_
          refine then_ret ?_
          refine then_ret ?_
          refine inb_ret ?_
          refine then_ret ?_
          refine H.ret1 (fn := Try.f4) Try.results4 (RV.tmp_ (v := (.bool false)) (by kernel_rfl)) ?_
          exfalso
          by_cases hk0 : 0 < p.index
          · have hw6 := hw3 hk0
            omega
          · omega
        · have g81p := eq_of_bne_false g81
          refine H.val 82 (.int .i64 (u.frame - u.os)) (by kernel_rfl) (by kernel_rfl) ?_
          intro a H
          refine H.val 83 (.bool (decide ((u.frame - u.os) > 0))) (by kernel_rfl) (by kernel_rfl) ?_
          intro a H
          refine H.val 84 (.bool (decide ((u.frame - u.os) > 0))) (by kernel_rfl) (by kernel_rfl) ?_
          intro a H
          refine H.split 84 rfl (fun g84 H => ?_) (fun g84 H => ?_)
          · have g84p := of_decide_eq_true g84
            refine H.val 85 (.pointer (some ⟨b_8, 0, none⟩)) (by kernel_rfl) (by kernel_rfl) ?_
            intro a H
            refine H.val 86 (.int .i64 ((stAt k us j).last.item)) (by kernel_rfl) (ex_load1 (by kernel_rfl) (by kernel_rfl) (HP.cell 4 rfl 0 rfl)) ?_
            intro a H
            refine H.val 87 (.pointer (some ⟨b_20, 0, none⟩)) (by kernel_rfl) (by kernel_rfl) ?_
            intro a H
            refine H.val 88 (.int .i64 p.item) (by kernel_rfl) (ex_load1 (by kernel_rfl) (by kernel_rfl) (HP.cell 0 rfl 0 rfl)) ?_
            intro a H
            refine H.val 89 (.bool (((stAt k us j).last.item) != p.item)) (by kernel_rfl) (by kernel_rfl) ?_
            intro a H
            refine H.val 90 (.bool (((stAt k us j).last.item) != p.item)) (by kernel_rfl) (by kernel_rfl) ?_
            intro a H
            refine H.split 90 rfl (fun g90 H => ?_) (fun g90 H => ?_)
            · have g90p := bne_iff_ne.1 g90
              refine H.skip 91 (by kernel_rfl) ?_
              intro a H
              refine H.skip 92 (by kernel_rfl) ?_
              intro a H
              refine H.skip 93 (by kernel_rfl) ?_
              intro a H
              refine H.skip 94 (by kernel_rfl) ?_
              intro a H
              refine H.skip 95 (by kernel_rfl) ?_
              intro a H
              refine H.val 96 (.bool true) (by kernel_rfl) (by kernel_rfl) ?_
              intro a H
              refine H.val 97 (.bool true) (by kernel_rfl) (by kernel_rfl) ?_
              intro a H
              refine H.val 98 (.bool true) (by kernel_rfl) (by kernel_rfl) ?_
              intro a H
              refine H.val 99 (.bool true) (by kernel_rfl) (by kernel_rfl) ?_
              intro a H
              refine H.skip 100 (by kernel_rfl) ?_
              intro a H
              refine H.skip 101 (by kernel_rfl) ?_
              intro a H
              refine H.skip 102 (by kernel_rfl) ?_
              intro a H
              refine H.skip 103 (by kernel_rfl) ?_
              intro a H
              refine H.skip 104 (by kernel_rfl) ?_
              intro a H
              refine H.val 105 (.bool true) (by kernel_rfl) (by kernel_rfl) ?_
              intro a H
              refine wpList_nil ?_
              have H := H.keep (L' := [(105, (.bool true)), (19, (.int .i64 (u.frame - u.os))), (70, (.bool (p.item != 0))), (18, (.bool false)), (17, (.pointer (some ⟨b_20, 0, none⟩))), (51, (.agg #[(.int .i64 p.item), (.int .i64 p.index), (.int .i64 v)])), (50, (.agg #[(.int .i64 u.channel), (.int .i64 u.frame), (.int .i64 u.version), (.int .i64 u.item), (.int .i64 u.index), (.bool u.key), (.string u.data), (.int .i64 u.regions), (.int .i64 u.gain), (.string u.caption), (.int .i64 u.os), (.int .i64 u.of), (.slice u.A u.al.length u.c)])), (49, (.pointer (some ⟨b, 0, none⟩))), (16, (.pointer (some ⟨b_14, 0, none⟩))), (48, (.agg #[(.int .i64 u.channel), (.int .i64 u.frame), (.int .i64 u.version), (.int .i64 u.item), (.int .i64 u.index), (.bool u.key), (.string u.data), (.int .i64 u.regions), (.int .i64 u.gain), (.string u.caption), (.int .i64 u.os), (.int .i64 u.of), (.slice u.A u.al.length u.c)])), (47, (.pointer (some ⟨bu, ou + j * 13, none⟩))), (46, (.int .i64 ((j : Nat) : Int))), (45, (.slice (some ⟨bu, ou, none⟩) ul.length uc)), (42, (.bool (decide (((j : Nat) : Int) < ((ul.length : Nat) : Int))))), (41, (.int .i64 ((ul.length : Nat) : Int))), (40, (.slice (some ⟨bu, ou, none⟩) ul.length uc)), (39, (.int .i64 ((j : Nat) : Int))), (15, (.int .i64 ((j : Nat) : Int))), (14, (.slice (some ⟨bu, ou, none⟩) ul.length uc)), (13, (.pointer (some ⟨b_8, 0, none⟩))), (11, (.pointer (some ⟨b, 0, none⟩))), (9, (.bool true)), (8, (.bool false))]) (by kernel_rfl)
              refine then_normal ?_
              refine w_ift H rfl ?_
              refine wp_seq ?_
              refine w_region ?_
              refine H.val 8 (.bool false) (by kernel_rfl) (by kernel_rfl) ?_
              intro a H
              refine wpList_nil ?_
              refine then_normal ?_
              refine wp_ret ?_
              refine then_ret ?_
              refine inb_ret ?_
              refine then_ret ?_
              refine then_ret ?_
              refine inb_ret ?_
              refine then_ret ?_
              refine H.ret1 (fn := Try.f4) Try.results4 (RV.tmp_ (v := (.bool false)) (by kernel_rfl)) ?_
              exfalso
              by_cases hk0 : 0 < p.index
              · have hw6 := hw3 hk0
                omega
              · omega
            · have g90p := eq_of_bne_false g90
              refine H.val 91 (.pointer (some ⟨b_8, 1, none⟩)) (by kernel_rfl) (by kernel_rfl) ?_
              intro a H
              refine H.val 92 (.int .i64 ((stAt k us j).last.index)) (by kernel_rfl) (ex_load1 (by kernel_rfl) (by kernel_rfl) (HP.cell 4 rfl 1 rfl)) ?_
              intro a H
              refine H.val 93 (.int .i64 (u.frame - u.os)) (by kernel_rfl) (by kernel_rfl) ?_
              intro a H
              refine H.valE 94 (.int .i64 (IntKind.i64.wrap ((u.frame - u.os) - 1))) (.int .i64 ((u.frame - u.os) - 1)) (by kernel_rfl) (by kernel_rfl) ((by rw [wrap_ini64 _ (by omega)])) ?_
              intro a H
              refine H.val 95 (.bool (((stAt k us j).last.index) != ((u.frame - u.os) - 1))) (by kernel_rfl) (by kernel_rfl) ?_
              intro a H
              refine H.val 96 (.bool (((stAt k us j).last.index) != ((u.frame - u.os) - 1))) (by kernel_rfl) (by kernel_rfl) ?_
              intro a H
              refine H.val 97 (.bool (((stAt k us j).last.index) != ((u.frame - u.os) - 1))) (by kernel_rfl) (by kernel_rfl) ?_
              intro a H
              refine H.val 98 (.bool (((stAt k us j).last.index) != ((u.frame - u.os) - 1))) (by kernel_rfl) (by kernel_rfl) ?_
              intro a H
              refine H.val 99 (.bool (((stAt k us j).last.index) != ((u.frame - u.os) - 1))) (by kernel_rfl) (by kernel_rfl) ?_
              intro a H
              refine H.split 99 rfl (fun g99 H => ?_) (fun g99 H => ?_)
              · have g99p := bne_iff_ne.1 g99
                refine H.skip 100 (by kernel_rfl) ?_
                intro a H
                refine H.skip 101 (by kernel_rfl) ?_
                intro a H
                refine H.skip 102 (by kernel_rfl) ?_
                intro a H
                refine H.skip 103 (by kernel_rfl) ?_
                intro a H
                refine H.skip 104 (by kernel_rfl) ?_
                intro a H
                refine H.val 105 (.bool true) (by kernel_rfl) (by kernel_rfl) ?_
                intro a H
                refine wpList_nil ?_
                have H := H.keep (L' := [(105, (.bool true)), (19, (.int .i64 (u.frame - u.os))), (70, (.bool (p.item != 0))), (18, (.bool false)), (17, (.pointer (some ⟨b_20, 0, none⟩))), (51, (.agg #[(.int .i64 p.item), (.int .i64 p.index), (.int .i64 v)])), (50, (.agg #[(.int .i64 u.channel), (.int .i64 u.frame), (.int .i64 u.version), (.int .i64 u.item), (.int .i64 u.index), (.bool u.key), (.string u.data), (.int .i64 u.regions), (.int .i64 u.gain), (.string u.caption), (.int .i64 u.os), (.int .i64 u.of), (.slice u.A u.al.length u.c)])), (49, (.pointer (some ⟨b, 0, none⟩))), (16, (.pointer (some ⟨b_14, 0, none⟩))), (48, (.agg #[(.int .i64 u.channel), (.int .i64 u.frame), (.int .i64 u.version), (.int .i64 u.item), (.int .i64 u.index), (.bool u.key), (.string u.data), (.int .i64 u.regions), (.int .i64 u.gain), (.string u.caption), (.int .i64 u.os), (.int .i64 u.of), (.slice u.A u.al.length u.c)])), (47, (.pointer (some ⟨bu, ou + j * 13, none⟩))), (46, (.int .i64 ((j : Nat) : Int))), (45, (.slice (some ⟨bu, ou, none⟩) ul.length uc)), (42, (.bool (decide (((j : Nat) : Int) < ((ul.length : Nat) : Int))))), (41, (.int .i64 ((ul.length : Nat) : Int))), (40, (.slice (some ⟨bu, ou, none⟩) ul.length uc)), (39, (.int .i64 ((j : Nat) : Int))), (15, (.int .i64 ((j : Nat) : Int))), (14, (.slice (some ⟨bu, ou, none⟩) ul.length uc)), (13, (.pointer (some ⟨b_8, 0, none⟩))), (11, (.pointer (some ⟨b, 0, none⟩))), (9, (.bool true)), (8, (.bool false))]) (by kernel_rfl)
                refine then_normal ?_
                refine w_ift H rfl ?_
                refine wp_seq ?_
                refine w_region ?_
                refine H.val 8 (.bool false) (by kernel_rfl) (by kernel_rfl) ?_
                intro a H
                refine wpList_nil ?_
                refine then_normal ?_
                refine wp_ret ?_
                refine then_ret ?_
                refine inb_ret ?_
                refine then_ret ?_
                refine then_ret ?_
                refine inb_ret ?_
                refine then_ret ?_
                refine H.ret1 (fn := Try.f4) Try.results4 (RV.tmp_ (v := (.bool false)) (by kernel_rfl)) ?_
                exfalso
                by_cases hk0 : 0 < p.index
                · have hw6 := hw3 hk0
                  omega
                · omega
              · have g99p := eq_of_bne_false g99
                refine H.val 100 (.pointer (some ⟨b_14, 10, none⟩)) (by kernel_rfl) (by kernel_rfl) ?_
                intro a H
                refine H.val 101 (.pointer (some ⟨b_14, 11, none⟩)) (by kernel_rfl) (by kernel_rfl) ?_
                intro a H
                refine H.val 102 (.int .i64 u.of) (by kernel_rfl) (ex_load1 (by kernel_rfl) (by kernel_rfl) (HP.cell 1 rfl 11 rfl)) ?_
                intro a H
                refine H.val 103 (.int .i64 (u.frame - u.os)) (by kernel_rfl) (by kernel_rfl) ?_
                intro a H
                refine H.val 104 (.bool (decide (u.of ≤ (u.frame - u.os)))) (by kernel_rfl) (by kernel_rfl) ?_
                intro a H
                refine H.val 105 (.bool (decide (u.of ≤ (u.frame - u.os)))) (by kernel_rfl) (by kernel_rfl) ?_
                intro a H
                refine wpList_nil ?_
                have H := H.keep (L' := [(105, (.bool (decide (u.of ≤ (u.frame - u.os))))), (19, (.int .i64 (u.frame - u.os))), (70, (.bool (p.item != 0))), (18, (.bool false)), (17, (.pointer (some ⟨b_20, 0, none⟩))), (51, (.agg #[(.int .i64 p.item), (.int .i64 p.index), (.int .i64 v)])), (50, (.agg #[(.int .i64 u.channel), (.int .i64 u.frame), (.int .i64 u.version), (.int .i64 u.item), (.int .i64 u.index), (.bool u.key), (.string u.data), (.int .i64 u.regions), (.int .i64 u.gain), (.string u.caption), (.int .i64 u.os), (.int .i64 u.of), (.slice u.A u.al.length u.c)])), (49, (.pointer (some ⟨b, 0, none⟩))), (16, (.pointer (some ⟨b_14, 0, none⟩))), (48, (.agg #[(.int .i64 u.channel), (.int .i64 u.frame), (.int .i64 u.version), (.int .i64 u.item), (.int .i64 u.index), (.bool u.key), (.string u.data), (.int .i64 u.regions), (.int .i64 u.gain), (.string u.caption), (.int .i64 u.os), (.int .i64 u.of), (.slice u.A u.al.length u.c)])), (47, (.pointer (some ⟨bu, ou + j * 13, none⟩))), (46, (.int .i64 ((j : Nat) : Int))), (45, (.slice (some ⟨bu, ou, none⟩) ul.length uc)), (42, (.bool (decide (((j : Nat) : Int) < ((ul.length : Nat) : Int))))), (41, (.int .i64 ((ul.length : Nat) : Int))), (40, (.slice (some ⟨bu, ou, none⟩) ul.length uc)), (39, (.int .i64 ((j : Nat) : Int))), (15, (.int .i64 ((j : Nat) : Int))), (14, (.slice (some ⟨bu, ou, none⟩) ul.length uc)), (13, (.pointer (some ⟨b_8, 0, none⟩))), (11, (.pointer (some ⟨b, 0, none⟩))), (9, (.bool true)), (8, (.bool false))]) (by kernel_rfl)
                refine then_normal ?_
                refine w_if H rfl (fun g105 => ?_) (fun g105 => ?_)
                · have g105p := of_decide_eq_true g105
                  refine wp_seq ?_
                  refine w_region ?_
                  refine H.val 8 (.bool false) (by kernel_rfl) (by kernel_rfl) ?_
                  intro a H
                  refine wpList_nil ?_
                  refine then_normal ?_
                  refine wp_ret ?_
                  refine then_ret ?_
                  refine inb_ret ?_
                  refine then_ret ?_
                  refine then_ret ?_
                  refine inb_ret ?_
                  refine then_ret ?_
                  refine H.ret1 (fn := Try.f4) Try.results4 (RV.tmp_ (v := (.bool false)) (by kernel_rfl)) ?_
                  exfalso
                  by_cases hk0 : 0 < p.index
                  · have hw6 := hw3 hk0
                    omega
                  · omega
                · have g105p := of_decide_eq_false g105
                  refine wp_skip ?_
                  refine then_normal ?_
                  refine w_region ?_
                  refine H.val 106 (.agg #[(.int .i64 p.item), (.int .i64 p.index), (.int .i64 v)]) (by kernel_rfl) (ex_loadN (vs := [(.int .i64 p.item), (.int .i64 p.index), (.int .i64 v)]) (by kernel_rfl) (by kernel_rfl) (by kernel_rfl) rfl (HP.cells 0 rfl 0 3 (by kernel_rfl))) ?_
                  intro a H
                  refine H.store HP 4 b_8 0 3 36 [(.int .i64 ((stAt k us j).last.item)), (.int .i64 ((stAt k us j).last.index)), (.int .i64 lv)] true (.agg #[(.int .i64 p.item), (.int .i64 p.index), (.int .i64 v)]) [bx b_20 36 [(.int .i64 p.item), (.int .i64 p.index), (.int .i64 v)] true, bx b_14 46 [(.int .i64 u.channel), (.int .i64 u.frame), (.int .i64 u.version), (.int .i64 u.item), (.int .i64 u.index), (.bool u.key), (.string u.data), (.int .i64 u.regions), (.int .i64 u.gain), (.string u.caption), (.int .i64 u.os), (.int .i64 u.of), (.slice u.A u.al.length u.c)] true, (unitsR (some ⟨bu, ou, none⟩) ul), (splR b k (stepS k (stAt k us j) u).2.2 NB_17 cB_18), bx b_8 36 [(.int .i64 p.item), (.int .i64 p.index), (.int .i64 v)] true] (by kernel_rfl) (by kernel_rfl) (by kernel_rfl) rfl (by kernel_rfl) (by kernel_rfl) (by kernel_rfl) (by kernel_rfl) (by kernel_rfl) ?_
                  intro w_27 a H HP
                  refine wpList_nil ?_
                  refine inb_normal ?_
                  refine then_normal ?_
                  refine w_region ?_
                  refine H.val 43 (.int .i64 ((j : Nat) : Int)) (by kernel_rfl) (by kernel_rfl) ?_
                  intro a H
                  refine H.valE 44 (.int .i64 (IntKind.i64.wrap (((j : Nat) : Int) + 1))) (.int .i64 (((j : Nat) : Int) + 1)) (by kernel_rfl) (by kernel_rfl) ((by rw [wrap_ini64 _ (by omega)])) ?_
                  intro a H
                  refine H.val 15 (.int .i64 (((j : Nat) : Int) + 1)) (by kernel_rfl) (by kernel_rfl) ?_
                  intro a H
                  refine wpList_nil ?_
                  refine then_normal ?_
                  have H := H.as 15 (.int .i64 ((j + 1 : Nat) : Int)) rfl rfl
                  refine ⟨_, ?_, j + 1, NB_17, cB_18, v, rfl, H.keep (by kernel_rfl), (by rw [hst1l, hst1]; exact ((HP.tail rfl).tail rfl)), by omega⟩
                  omega
          · have g84p := of_decide_eq_false g84
            refine H.skip 85 (by kernel_rfl) ?_
            intro a H
            refine H.skip 86 (by kernel_rfl) ?_
            intro a H
            refine H.skip 87 (by kernel_rfl) ?_
            intro a H
            refine H.skip 88 (by kernel_rfl) ?_
            intro a H
            refine H.skip 89 (by kernel_rfl) ?_
            intro a H
            refine H.skip 90 (by kernel_rfl) ?_
            intro a H
            refine H.skip 91 (by kernel_rfl) ?_
            intro a H
            refine H.skip 92 (by kernel_rfl) ?_
            intro a H
            refine H.skip 93 (by kernel_rfl) ?_
            intro a H
            refine H.skip 94 (by kernel_rfl) ?_
            intro a H
            refine H.skip 95 (by kernel_rfl) ?_
            intro a H
            refine H.skip 96 (by kernel_rfl) ?_
            intro a H
            refine H.val 97 (.bool false) (by kernel_rfl) (by kernel_rfl) ?_
            intro a H
            refine H.val 98 (.bool false) (by kernel_rfl) (by kernel_rfl) ?_
            intro a H
            refine H.val 99 (.bool false) (by kernel_rfl) (by kernel_rfl) ?_
            intro a H
            refine H.val 100 (.pointer (some ⟨b_14, 10, none⟩)) (by kernel_rfl) (by kernel_rfl) ?_
            intro a H
            refine H.val 101 (.pointer (some ⟨b_14, 11, none⟩)) (by kernel_rfl) (by kernel_rfl) ?_
            intro a H
            refine H.val 102 (.int .i64 u.of) (by kernel_rfl) (ex_load1 (by kernel_rfl) (by kernel_rfl) (HP.cell 1 rfl 11 rfl)) ?_
            intro a H
            refine H.val 103 (.int .i64 (u.frame - u.os)) (by kernel_rfl) (by kernel_rfl) ?_
            intro a H
            refine H.val 104 (.bool (decide (u.of ≤ (u.frame - u.os)))) (by kernel_rfl) (by kernel_rfl) ?_
            intro a H
            refine H.val 105 (.bool (decide (u.of ≤ (u.frame - u.os)))) (by kernel_rfl) (by kernel_rfl) ?_
            intro a H
            refine wpList_nil ?_
            have H := H.keep (L' := [(105, (.bool (decide (u.of ≤ (u.frame - u.os))))), (19, (.int .i64 (u.frame - u.os))), (70, (.bool (p.item != 0))), (18, (.bool false)), (17, (.pointer (some ⟨b_20, 0, none⟩))), (51, (.agg #[(.int .i64 p.item), (.int .i64 p.index), (.int .i64 v)])), (50, (.agg #[(.int .i64 u.channel), (.int .i64 u.frame), (.int .i64 u.version), (.int .i64 u.item), (.int .i64 u.index), (.bool u.key), (.string u.data), (.int .i64 u.regions), (.int .i64 u.gain), (.string u.caption), (.int .i64 u.os), (.int .i64 u.of), (.slice u.A u.al.length u.c)])), (49, (.pointer (some ⟨b, 0, none⟩))), (16, (.pointer (some ⟨b_14, 0, none⟩))), (48, (.agg #[(.int .i64 u.channel), (.int .i64 u.frame), (.int .i64 u.version), (.int .i64 u.item), (.int .i64 u.index), (.bool u.key), (.string u.data), (.int .i64 u.regions), (.int .i64 u.gain), (.string u.caption), (.int .i64 u.os), (.int .i64 u.of), (.slice u.A u.al.length u.c)])), (47, (.pointer (some ⟨bu, ou + j * 13, none⟩))), (46, (.int .i64 ((j : Nat) : Int))), (45, (.slice (some ⟨bu, ou, none⟩) ul.length uc)), (42, (.bool (decide (((j : Nat) : Int) < ((ul.length : Nat) : Int))))), (41, (.int .i64 ((ul.length : Nat) : Int))), (40, (.slice (some ⟨bu, ou, none⟩) ul.length uc)), (39, (.int .i64 ((j : Nat) : Int))), (15, (.int .i64 ((j : Nat) : Int))), (14, (.slice (some ⟨bu, ou, none⟩) ul.length uc)), (13, (.pointer (some ⟨b_8, 0, none⟩))), (11, (.pointer (some ⟨b, 0, none⟩))), (9, (.bool true)), (8, (.bool false))]) (by kernel_rfl)
            refine then_normal ?_
            refine w_if H rfl (fun g105 => ?_) (fun g105 => ?_)
            · have g105p := of_decide_eq_true g105
              refine wp_seq ?_
              refine w_region ?_
              refine H.val 8 (.bool false) (by kernel_rfl) (by kernel_rfl) ?_
              intro a H
              refine wpList_nil ?_
              refine then_normal ?_
              refine wp_ret ?_
              refine then_ret ?_
              refine inb_ret ?_
              refine then_ret ?_
              refine then_ret ?_
              refine inb_ret ?_
              refine then_ret ?_
              refine H.ret1 (fn := Try.f4) Try.results4 (RV.tmp_ (v := (.bool false)) (by kernel_rfl)) ?_
              exfalso
              by_cases hk0 : 0 < p.index
              · have hw6 := hw3 hk0
                omega
              · omega
            · have g105p := of_decide_eq_false g105
              refine wp_skip ?_
              refine then_normal ?_
              refine w_region ?_
              refine H.val 106 (.agg #[(.int .i64 p.item), (.int .i64 p.index), (.int .i64 v)]) (by kernel_rfl) (ex_loadN (vs := [(.int .i64 p.item), (.int .i64 p.index), (.int .i64 v)]) (by kernel_rfl) (by kernel_rfl) (by kernel_rfl) rfl (HP.cells 0 rfl 0 3 (by kernel_rfl))) ?_
              intro a H
              refine H.store HP 4 b_8 0 3 36 [(.int .i64 ((stAt k us j).last.item)), (.int .i64 ((stAt k us j).last.index)), (.int .i64 lv)] true (.agg #[(.int .i64 p.item), (.int .i64 p.index), (.int .i64 v)]) [bx b_20 36 [(.int .i64 p.item), (.int .i64 p.index), (.int .i64 v)] true, bx b_14 46 [(.int .i64 u.channel), (.int .i64 u.frame), (.int .i64 u.version), (.int .i64 u.item), (.int .i64 u.index), (.bool u.key), (.string u.data), (.int .i64 u.regions), (.int .i64 u.gain), (.string u.caption), (.int .i64 u.os), (.int .i64 u.of), (.slice u.A u.al.length u.c)] true, (unitsR (some ⟨bu, ou, none⟩) ul), (splR b k (stepS k (stAt k us j) u).2.2 NB_17 cB_18), bx b_8 36 [(.int .i64 p.item), (.int .i64 p.index), (.int .i64 v)] true] (by kernel_rfl) (by kernel_rfl) (by kernel_rfl) rfl (by kernel_rfl) (by kernel_rfl) (by kernel_rfl) (by kernel_rfl) (by kernel_rfl) ?_
              intro w_28 a H HP
              refine wpList_nil ?_
              refine inb_normal ?_
              refine then_normal ?_
              refine w_region ?_
              refine H.val 43 (.int .i64 ((j : Nat) : Int)) (by kernel_rfl) (by kernel_rfl) ?_
              intro a H
              refine H.valE 44 (.int .i64 (IntKind.i64.wrap (((j : Nat) : Int) + 1))) (.int .i64 (((j : Nat) : Int) + 1)) (by kernel_rfl) (by kernel_rfl) ((by rw [wrap_ini64 _ (by omega)])) ?_
              intro a H
              refine H.val 15 (.int .i64 (((j : Nat) : Int) + 1)) (by kernel_rfl) (by kernel_rfl) ?_
              intro a H
              refine wpList_nil ?_
              refine then_normal ?_
              have H := H.as 15 (.int .i64 ((j + 1 : Nat) : Int)) rfl rfl
              refine ⟨_, ?_, j + 1, NB_17, cB_18, v, rfl, H.keep (by kernel_rfl), (by rw [hst1l, hst1]; exact ((HP.tail rfl).tail rfl)), by omega⟩
              omega
      · have g70p := eq_of_bne_false g70
        refine wp_skip ?_
        refine then_normal ?_
        refine w_region ?_
        refine H.val 106 (.agg #[(.int .i64 p.item), (.int .i64 p.index), (.int .i64 v)]) (by kernel_rfl) (ex_loadN (vs := [(.int .i64 p.item), (.int .i64 p.index), (.int .i64 v)]) (by kernel_rfl) (by kernel_rfl) (by kernel_rfl) rfl (HP.cells 0 rfl 0 3 (by kernel_rfl))) ?_
        intro a H
        refine H.store HP 4 b_8 0 3 36 [(.int .i64 ((stAt k us j).last.item)), (.int .i64 ((stAt k us j).last.index)), (.int .i64 lv)] true (.agg #[(.int .i64 p.item), (.int .i64 p.index), (.int .i64 v)]) [bx b_20 36 [(.int .i64 p.item), (.int .i64 p.index), (.int .i64 v)] true, bx b_14 46 [(.int .i64 u.channel), (.int .i64 u.frame), (.int .i64 u.version), (.int .i64 u.item), (.int .i64 u.index), (.bool u.key), (.string u.data), (.int .i64 u.regions), (.int .i64 u.gain), (.string u.caption), (.int .i64 u.os), (.int .i64 u.of), (.slice u.A u.al.length u.c)] true, (unitsR (some ⟨bu, ou, none⟩) ul), (splR b k (stepS k (stAt k us j) u).2.2 NB_17 cB_18), bx b_8 36 [(.int .i64 p.item), (.int .i64 p.index), (.int .i64 v)] true] (by kernel_rfl) (by kernel_rfl) (by kernel_rfl) rfl (by kernel_rfl) (by kernel_rfl) (by kernel_rfl) (by kernel_rfl) (by kernel_rfl) ?_
        intro w_29 a H HP
        refine wpList_nil ?_
        refine inb_normal ?_
        refine then_normal ?_
        refine w_region ?_
        refine H.val 43 (.int .i64 ((j : Nat) : Int)) (by kernel_rfl) (by kernel_rfl) ?_
        intro a H
        refine H.valE 44 (.int .i64 (IntKind.i64.wrap (((j : Nat) : Int) + 1))) (.int .i64 (((j : Nat) : Int) + 1)) (by kernel_rfl) (by kernel_rfl) ((by rw [wrap_ini64 _ (by omega)])) ?_
        intro a H
        refine H.val 15 (.int .i64 (((j : Nat) : Int) + 1)) (by kernel_rfl) (by kernel_rfl) ?_
        intro a H
        refine wpList_nil ?_
        refine then_normal ?_
        have H := H.as 15 (.int .i64 ((j + 1 : Nat) : Int)) rfl rfl
        refine ⟨_, ?_, j + 1, NB_17, cB_18, v, rfl, H.keep (by kernel_rfl), (by rw [hst1l, hst1]; exact ((HP.tail rfl).tail rfl)), by omega⟩
        omega
  · have g42p := of_decide_eq_false g42
    refine wp_exit ?_
    refine then_exit ?_
    refine then_exit ?_
    refine w_exit_here ?_
    refine then_normal ?_
    refine wp_seq ?_
    refine w_region ?_
    refine H.val 107 (.bool true) (by kernel_rfl) (by kernel_rfl) ?_
    intro a H
    refine H.val 8 (.bool true) (by kernel_rfl) (by kernel_rfl) ?_
    intro a H
    refine wpList_nil ?_
    refine then_normal ?_
    refine wp_ret ?_
    refine H.ret1 (fn := Try.f4) Try.results4 (RV.tmp_ (v := (.bool true)) (by kernel_rfl)) ?_
    exact ⟨rfl, (HP.below (by kernel_rfl))⟩
end Go.Proofs.Ytpaepefpfaoacaa
