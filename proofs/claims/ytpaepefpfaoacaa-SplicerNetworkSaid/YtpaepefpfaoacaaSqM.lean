/- SplicerTakes: the walk. -/
import Derived.Test.YtpaepefpfaoacaaSqL
import Derived.Test.YtpaepefpfaoacaaSqI
namespace Go.Proofs.Ytpaepefpfaoacaa
open Go.ChangeShapes Go.WideShapes Go.ChangeAt Go.RowKit
set_option linter.unusedVariables false
set_option linter.unusedSimpArgs false

theorem ex_neSh {ρ : Operand → Value} {w : World} {x y : Operand} {dst : Option Tmp} {ty : TypeId} {pos : String} {af : Array Edge} {g : Option (Nat × Bool)} {a0 a1 a2 b0 b1 b2 : Int}
    (hx : ρ x = .agg #[.int .i64 a0, .int .i64 a1, .int .i64 a2]) (hy : ρ y = .agg #[.int .i64 b0, .int .i64 b1, .int .i64 b2]) : (execOp ρ ⟨dst, .binOp .neq 36 x y 36, ty, pos, af, g⟩).run Try.prog w = .ok (.value (.bool (!((a0 == b0) && ((a1 == b1) && (a2 == b2)))))) w := by
  by_cases h0 : a0 = b0 <;> by_cases h1 : a1 = b1 <;> by_cases h2 : a2 = b2 <;> simp [execOp, hx, hy, go_sem, h0, h1, h2]
theorem feed_spec {us : List US} {ul : List UnitA} {j : Nat} {u : UnitA} (h : ul.map UnitA.spec = us) (hj : j < ul.length) (hu : ul.getD j (slateA 0) = u) : u.spec = us.getD j (slateS 0) := by
  subst h; subst hu
  simp [List.getD, List.getElem?_eq_getElem hj]
def tkIn (ul : List UnitA) (T : Tk) : Prop := T = tkZ ∨ ∃ u ∈ ul, T = ⟨u.os, u.of, u.A, u.c, u.al⟩
theorem tk_alts {w : World} {A : Option Addr} {n : Nat} {ul : List UnitA} {T : Tk} (h : tkIn ul T) (hU : IsUnits w A n ul) : IsAlts w T.A T.al.length T.al ∧ T.al.length ≤ maxLen := by
  rcases h with rfl | ⟨u, hu, rfl⟩
  · exact ⟨IsAlts.nil _ _, by simp [tkZ, maxLen]⟩
  · exact ⟨(hU.2 u hu).1, (hU.2 u hu).2.1⟩
theorem fa_pics {w : World} {A : Option Addr} {n : Nat} {l : List AstA} {i : Int} {F : Option AstA} {fa : AstA} (h : IsAsts w A n l) (hF : findA i l = F) (hfa : F.getD astZ = fa) : IsPics w fa.A fa.pics.length fa.pics := by
  cases F with
  | none => simp only [Option.getD_none] at hfa; subst hfa; exact IsRow.nil _ _
  | some x => simp only [Option.getD_some] at hfa; subst hfa; exact (h.2 x (findA_mem hF).1).1
theorem getD_some {α : Type} {F : Option α} {d fa : α} (h : F.getD d = fa) (hs : F.isSome = true) : F = some fa := by
  cases F with
  | none => cases hs
  | some x => exact congrArg some h
theorem sameP_spec {s f t g : Int} {al bl : Alts} (h : sameP s f al t g bl = true) : s = t ∧ f = g ∧ al = bl := by
  simpa [sameP] using h

set_option maxRecDepth 100000 in
set_option maxHeartbeats 2000000 in
theorem takes_walk (r : Int) (X : Nat → Int) (PA : Option Addr) (pn pc : Nat) (PL : List Pc) (ZA : Option Addr) (zn zc : Nat) (zs : List Int) (w : World) (hreg : -9223372036854775808 ≤ r ∧ r ≤ 9223372036854775807) (hX : ∀ i, -9223372036854775808 ≤ X i ∧ X i ≤ 9223372036854775807) (hpcs : IsRow 5 Pc.cells w PA pn PL) (hpn : pn ≤ 9223372036854775807) (hpb : ∀ p ∈ PL, p.bd) (hzs : IsInts w ZA zn zs) (hzn : zn ≤ 9223372036854775807) (hzb : ∀ z ∈ zs, -9223372036854775808 ≤ z ∧ z ≤ 9223372036854775807) :
    Calls Try.prog 5 #[.int .i64 r, .agg #[.int .i64 (X 0), .int .i64 (X 1), .int .i64 (X 2), .int .i64 (X 3), .int .i64 (X 4), .int .i64 (X 5), .int .i64 (X 6), .int .i64 (X 7), .int .i64 (X 8), .int .i64 (X 9), .int .i64 (X 10), .int .i64 (X 11), .int .i64 (X 12), .int .i64 (X 13), .int .i64 (X 14), .int .i64 (X 15), .int .i64 (X 16), .int .i64 (X 17), .int .i64 (X 18), .int .i64 (X 19)], .slice PA pn pc, .slice ZA zn zc] w fun e w' => e = .returned (.bool true) ∧ Below w.heap.size w w' := by
  have HP := Hp.start w
  refine w_enter 209 [(0, (.int .i64 r)), (1, (.agg #[(.int .i64 (X 0)), (.int .i64 (X 1)), (.int .i64 (X 2)), (.int .i64 (X 3)), (.int .i64 (X 4)), (.int .i64 (X 5)), (.int .i64 (X 6)), (.int .i64 (X 7)), (.int .i64 (X 8)), (.int .i64 (X 9)), (.int .i64 (X 10)), (.int .i64 (X 11)), (.int .i64 (X 12)), (.int .i64 (X 13)), (.int .i64 (X 14)), (.int .i64 (X 15)), (.int .i64 (X 16)), (.int .i64 (X 17)), (.int .i64 (X 18)), (.int .i64 (X 19))])), (2, (.slice PA pn pc)), (3, (.slice ZA zn zc))] Try.func5 rfl Try.ntmps5 (by kernel_rfl) (by kernel_rfl) ?_
  intro a H
  refine wp_seq ?_
  refine w_region ?_
  refine H.alloc HP 5 (fun b => (.pointer (some ⟨b, 0, none⟩))) 24 [(.int .i64 (X 0)), (.int .i64 (X 1)), (.int .i64 (X 2)), (.int .i64 (X 3)), (.int .i64 (X 4)), (.int .i64 (X 5)), (.int .i64 (X 6)), (.int .i64 (X 7)), (.int .i64 (X 8)), (.int .i64 (X 9)), (.int .i64 (X 10)), (.int .i64 (X 11)), (.int .i64 (X 12)), (.int .i64 (X 13)), (.int .i64 (X 14)), (.int .i64 (X 15)), (.int .i64 (X 16)), (.int .i64 (X 17)), (.int .i64 (X 18)), (.int .i64 (X 19))] (by kernel_rfl) (fun w => by kernel_rfl) ?_
  intro b_1 w_2 a H HP
  refine H.val 8 (.bool false) (by kernel_rfl) (by kernel_rfl) ?_
  intro a H
  refine wpList_nil ?_
  refine then_normal ?_
  refine wp_seq ?_
  refine w_region ?_
  refine H.call 31 (by kernel_rfl) (Eq.trans (by kernel_rfl : _ = (callFunc 8 #[]).run Try.prog w_2) (Try.call8 _ _)) (sane_any w_2) ?_
  rintro e w_3 ⟨rfl, hb⟩
  refine ⟨_, rfl, ?_⟩
  intro a H
  have HP := HP.next hb
  refine H.val 9 (.bool true) (by kernel_rfl) (by kernel_rfl) ?_
  intro a H
  refine wpList_nil ?_
  refine then_normal ?_
  refine wp_seq ?_
  refine w_region ?_
  refine H.val 32 (.int .i64 r) (by kernel_rfl) (by kernel_rfl) ?_
  intro a H
  refine H.call 33 (by kernel_rfl) (Eq.trans (by kernel_rfl : _ = (callFunc 11 #[(.int .i64 r), (.int .i64 2)]).run Try.prog w_3) (Try.call11 _ _)) (pick_any r 2 w_3 hreg (by omega)) ?_
  rintro e w_5 ⟨rfl, hw⟩
  refine ⟨_, rfl, ?_⟩
  intro a H
  have HP := hw ▸ HP
  have hpk_4 := pickI_lt r 2 (by omega)
  refine H.valE 34 (.int .i64 (IntKind.i64.wrap (1 + (pickI r 2)))) (.int .i64 (1 + (pickI r 2))) (by kernel_rfl) (by kernel_rfl) ((by rw [wrap_ini64 _ (by omega)])) ?_
  intro a H
  refine H.val 0 (.int .i64 (1 + (pickI r 2))) (by kernel_rfl) (by kernel_rfl) ?_
  intro a H
  refine wpList_nil ?_
  refine then_normal ?_
  refine wp_seq ?_
  refine w_region ?_
  refine H.val 35 (.agg #[(.int .i64 (X 0)), (.int .i64 (X 1)), (.int .i64 (X 2)), (.int .i64 (X 3)), (.int .i64 (X 4)), (.int .i64 (X 5)), (.int .i64 (X 6)), (.int .i64 (X 7)), (.int .i64 (X 8)), (.int .i64 (X 9)), (.int .i64 (X 10)), (.int .i64 (X 11)), (.int .i64 (X 12)), (.int .i64 (X 13)), (.int .i64 (X 14)), (.int .i64 (X 15)), (.int .i64 (X 16)), (.int .i64 (X 17)), (.int .i64 (X 18)), (.int .i64 (X 19))]) (by kernel_rfl) (ex_loadN (vs := [(.int .i64 (X 0)), (.int .i64 (X 1)), (.int .i64 (X 2)), (.int .i64 (X 3)), (.int .i64 (X 4)), (.int .i64 (X 5)), (.int .i64 (X 6)), (.int .i64 (X 7)), (.int .i64 (X 8)), (.int .i64 (X 9)), (.int .i64 (X 10)), (.int .i64 (X 11)), (.int .i64 (X 12)), (.int .i64 (X 13)), (.int .i64 (X 14)), (.int .i64 (X 15)), (.int .i64 (X 16)), (.int .i64 (X 17)), (.int .i64 (X 18)), (.int .i64 (X 19))]) (by kernel_rfl) (by kernel_rfl) (by kernel_rfl) rfl (HP.cells 0 rfl 0 20 (by kernel_rfl))) ?_
  intro a H
  refine H.call 36 (by kernel_rfl) (Eq.trans (by kernel_rfl : _ = (callFunc 9 #[(.agg #[(.int .i64 (X 0)), (.int .i64 (X 1)), (.int .i64 (X 2)), (.int .i64 (X 3)), (.int .i64 (X 4)), (.int .i64 (X 5)), (.int .i64 (X 6)), (.int .i64 (X 7)), (.int .i64 (X 8)), (.int .i64 (X 9)), (.int .i64 (X 10)), (.int .i64 (X 11)), (.int .i64 (X 12)), (.int .i64 (X 13)), (.int .i64 (X 14)), (.int .i64 (X 15)), (.int .i64 (X 16)), (.int .i64 (X 17)), (.int .i64 (X 18)), (.int .i64 (X 19))])]).run Try.prog w_5) (Try.call9 _ _)) (library_any X w_5 hX) ?_
  rintro e w_6 ⟨LA, lc, lib, rfl, hlib, hspec, hl5, hlc, hb, hnewl⟩
  refine ⟨_, rfl, ?_⟩
  intro a H
  have HP := HP.gain hb (astsR LA 5 lib) hlib (astsK_ok _ _ _) (fun k hk => asts_lt hlib hk) hnewl
  obtain ⟨hz0, hplen, hvalid⟩ := spec_find hspec
  refine H.val 10 (.slice LA 5 lc) (by kernel_rfl) (by kernel_rfl) ?_
  intro a H
  refine wpList_nil ?_
  refine then_normal ?_
  refine wp_seq ?_
  refine w_region ?_
  refine H.val 38 (.int .i64 (1 + (pickI r 2))) (by kernel_rfl) (by kernel_rfl) ?_
  intro a H
  refine H.val 39 (.slice LA 5 lc) (by kernel_rfl) (by kernel_rfl) ?_
  intro a H
  refine H.call 40 (by kernel_rfl) (Eq.trans (by kernel_rfl : _ = (callFunc 10 #[(.int .i64 0), (.int .i64 (1 + (pickI r 2))), (.slice LA 5 lc)]).run Try.prog w_6) (Try.call10 _ _)) ((new_ok 0 (1 + (pickI r 2)) LA 5 lc lib w_6 (HP.held 0 rfl) ⟨hplen, by omega⟩ (newOk_lib (by omega) (by omega) hvalid))) ?_
  rintro e w_7 ⟨b, k, rfl, hspn, hkc, hkr, hks, hb, hnews⟩
  refine ⟨_, rfl, ?_⟩
  intro a H
  have HP := HP.gain hb (splR b k spZ none 0) hspn (splR_ok _ _ _ _ _) (splR_lt hspn) hnews
  refine H.val 37 (.tuple #[(.pointer (some ⟨b, 0, none⟩)), (.int .i64 0)]) (by kernel_rfl) (by kernel_rfl) ?_
  intro a H
  refine H.val 41 (.pointer (some ⟨b, 0, none⟩)) (by kernel_rfl) (by kernel_rfl) ?_
  intro a H
  refine H.val 42 (.int .i64 0) (by kernel_rfl) (by kernel_rfl) ?_
  intro a H
  refine H.val 11 (.pointer (some ⟨b, 0, none⟩)) (by kernel_rfl) (by kernel_rfl) ?_
  intro a H
  refine H.val 12 (.int .i64 0) (by kernel_rfl) (by kernel_rfl) ?_
  intro a H
  refine wpList_nil ?_
  have H := H.keep (L' := [(12, (.int .i64 0)), (11, (.pointer (some ⟨b, 0, none⟩))), (10, (.slice LA 5 lc)), (36, (.slice LA 5 lc)), (35, (.agg #[(.int .i64 (X 0)), (.int .i64 (X 1)), (.int .i64 (X 2)), (.int .i64 (X 3)), (.int .i64 (X 4)), (.int .i64 (X 5)), (.int .i64 (X 6)), (.int .i64 (X 7)), (.int .i64 (X 8)), (.int .i64 (X 9)), (.int .i64 (X 10)), (.int .i64 (X 11)), (.int .i64 (X 12)), (.int .i64 (X 13)), (.int .i64 (X 14)), (.int .i64 (X 15)), (.int .i64 (X 16)), (.int .i64 (X 17)), (.int .i64 (X 18)), (.int .i64 (X 19))])), (0, (.int .i64 (1 + (pickI r 2)))), (34, (.int .i64 (1 + (pickI r 2)))), (33, (.int .i64 (pickI r 2))), (32, (.int .i64 r)), (9, (.bool true)), (31, (.bool true)), (8, (.bool false)), (5, (.pointer (some ⟨b_1, 0, none⟩))), (1, (.agg #[(.int .i64 (X 0)), (.int .i64 (X 1)), (.int .i64 (X 2)), (.int .i64 (X 3)), (.int .i64 (X 4)), (.int .i64 (X 5)), (.int .i64 (X 6)), (.int .i64 (X 7)), (.int .i64 (X 8)), (.int .i64 (X 9)), (.int .i64 (X 10)), (.int .i64 (X 11)), (.int .i64 (X 12)), (.int .i64 (X 13)), (.int .i64 (X 14)), (.int .i64 (X 15)), (.int .i64 (X 16)), (.int .i64 (X 17)), (.int .i64 (X 18)), (.int .i64 (X 19))])), (2, (.slice PA pn pc)), (3, (.slice ZA zn zc))]) (by kernel_rfl)
  refine then_normal ?_
  refine wp_seq ?_
  refine wp_seq ?_
  refine w_region ?_
  refine H.val 43 (.int .i64 0) (by kernel_rfl) (by kernel_rfl) ?_
  intro a H
  refine H.val 44 (.bool false) (by kernel_rfl) (by kernel_rfl) ?_
  intro a H
  refine wpList_nil ?_
  refine then_normal ?_
  refine w_iff H rfl ?_
  refine wp_skip ?_
  refine then_normal ?_
  refine wp_seq ?_
  refine w_region ?_
  refine H.val 45 (.slice PA pn pc) (by kernel_rfl) (by kernel_rfl) ?_
  intro a H
  refine H.call 46 (by kernel_rfl) (Eq.trans (by kernel_rfl : _ = (callFunc 13 #[(.slice PA pn pc)]).run Try.prog w_7) (Try.call13 _ _)) (events_any PA pn pc PL w_7 (hpcs.below (HP.below (by kernel_rfl))) (by omega) hpb) ?_
  rintro e w_8 ⟨EA, ec, es, rfl, hes, hespec, hel1, hel2, hel3, hb, hnewe⟩
  refine ⟨_, rfl, ?_⟩
  intro a H
  have HP := HP.gain hb (evsR EA (min pn 10) es) hes (evsR_ok _ _ _) (fun k hk => evs_lt hes hk) hnewe
  obtain ⟨hebd, hend⟩ := evs_bd hespec (by omega) (by have := hpcs.1; omega)
  refine H.val 47 (.slice LA 5 lc) (by kernel_rfl) (by kernel_rfl) ?_
  intro a H
  refine H.val 48 (.slice ZA zn zc) (by kernel_rfl) (by kernel_rfl) ?_
  intro a H
  refine H.call 49 (by kernel_rfl) (Eq.trans (by kernel_rfl : _ = (callFunc 12 #[(.slice EA (min pn 10) ec), (.slice LA 5 lc), (.slice ZA zn zc)]).run Try.prog w_8) (Try.call12 _ _)) (feed_any EA (min pn 10) ec es LA 5 lc lib ZA zn zc zs w_8 (HP.held 0 rfl) (by omega) (fun e he => (hebd e he).1) (HP.held 2 rfl) (by omega) hplen (hzs.below (HP.below (by kernel_rfl))) hzn hzb hend) ?_
  rintro e w_9 ⟨UA, uc, ul, rfl, hul, huspec, huc1, huc2, hb, hnewu⟩
  refine ⟨_, rfl, ?_⟩
  intro a H
  have HP := HP.gain hb (unitsR UA ul) hul (unitsR_ok _ _) (fun k hk => units_lt hul hk) hnewu
  refine H.val 13 (.slice UA ul.length uc) (by kernel_rfl) (by kernel_rfl) ?_
  intro a H
  refine wpList_nil ?_
  refine then_normal ?_
  refine wp_seq ?_
  refine w_region ?_
  refine H.val 50 (.agg #[(.int .i64 0), (.int .i64 0), (.slice none 0 0)]) (by kernel_rfl) (by kernel_rfl) ?_
  intro a H
  refine H.alloc HP 14 (fun b => (.pointer (some ⟨b, 0, none⟩))) 44 [(.int .i64 0), (.int .i64 0), (.slice none 0 0)] (by kernel_rfl) (fun w => by kernel_rfl) ?_
  intro b_10 w_11 a H HP
  refine H.store HP 0 b_10 0 3 44 [(.int .i64 0), (.int .i64 0), (.slice none 0 0)] true (.agg #[(.int .i64 0), (.int .i64 0), (.slice none 0 0)]) [bx b_10 44 [(.int .i64 0), (.int .i64 0), (.slice none 0 0)] true, (unitsR UA ul), (evsR EA (min pn 10) es), (splR b k spZ none 0), (astsR LA 5 lib), bx b_1 24 [(.int .i64 (X 0)), (.int .i64 (X 1)), (.int .i64 (X 2)), (.int .i64 (X 3)), (.int .i64 (X 4)), (.int .i64 (X 5)), (.int .i64 (X 6)), (.int .i64 (X 7)), (.int .i64 (X 8)), (.int .i64 (X 9)), (.int .i64 (X 10)), (.int .i64 (X 11)), (.int .i64 (X 12)), (.int .i64 (X 13)), (.int .i64 (X 14)), (.int .i64 (X 15)), (.int .i64 (X 16)), (.int .i64 (X 17)), (.int .i64 (X 18)), (.int .i64 (X 19))] true] (by kernel_rfl) (by kernel_rfl) (by kernel_rfl) rfl (by kernel_rfl) (by kernel_rfl) (by kernel_rfl) (by kernel_rfl) (by kernel_rfl) ?_
  intro w_12 a H HP
  refine wpList_nil ?_
  refine then_normal ?_
  refine wp_seq ?_
  refine wp_seq ?_
  refine w_region ?_
  refine H.val 15 (.int .i64 0) (by kernel_rfl) (by kernel_rfl) ?_
  intro a H
  refine wpList_nil ?_
  refine then_normal ?_
  refine wp_block ?_
  obtain ⟨us, hus⟩ : ∃ us, feedTo es lib (goneP (zs.take (min zn 20))) (endP es).toNat = us := ⟨_, rfl⟩
  rw [hus] at huspec
  have hfo : FeedOk lib us := by rw [← hus]; exact feedTo_ok hplen (fun e he => (hebd e he).1) (by omega)
  have hulen : ul.length = us.length := by rw [← huspec]; simp
  have hulim : us.length ≤ 1000000 := by rw [← hus]; simp [feedTo]; omega
  have hfrs : ∀ i, i < us.length → (us.getD i (slateS 0)).frame = i := by intro i hi; rw [← hus] at hi ⊢; exact feed_fr (by simpa [feedTo] using hi)
  have hofs : ofOk us := by rw [← hus]; exact feed_of (fun e he => (hebd e he).1)
  have hobds : ∀ u ∈ us, (0 ≤ u.os ∧ u.os ≤ 1000000) ∧ 0 ≤ u.of ∧ u.of ≤ 1000000 := by rw [← hus]; exact feed_obd (fun e he => (hebd e he).1)
  have hchs : ∀ u ∈ us, u.channel = k.channel := fun u hu => (hfo u hu).2.2.2.trans hkc.symm
  have HP := HP.sub [1, 3, 4, 0] [(unitsR UA ul), (splR b k spZ none 0), (astsR LA 5 lib), bx b_10 44 [(.int .i64 0), (.int .i64 0), (.slice none 0 0)] true] (by kernel_rfl) (by kernel_rfl)
  have H := H.as 0 (.int .i64 k.region) rfl (by rw [hkr])
  refine w_loop (fun mm a wv => ∃ (j : Nat), ∃ (NA : Option Addr), ∃ (nc : Nat), ∃ (T1 : Tk), ul.length - j = mm ∧ Sl 209 [(15, (.int .i64 ((j : Nat) : Int))), (14, (.pointer (some ⟨b_10, 0, none⟩))), (13, (.slice UA ul.length uc)), (11, (.pointer (some ⟨b, 0, none⟩))), (10, (.slice LA 5 lc)), (9, (.bool true)), (8, (.bool false)), (0, (.int .i64 k.region))] a ∧ Hp w wv [(unitsR UA ul), (splR b k (stAt k us j) NA nc), (astsR LA 5 lib), bx b_10 44 [(.int .i64 T1.s), (.int .i64 T1.f), (.slice T1.A T1.al.length T1.c)] true] [] ∧ (j ≤ ul.length) ∧ (TkOk k us j T1) ∧ (tkIn ul T1)) (ul.length - 0) ?_ ?_
  · exact ⟨0, none, 0, tkZ, (by omega), H.keep (by kernel_rfl), HP, by omega, tk_zero, .inl rfl⟩
  rintro mm a w_13 ⟨j, NA, nc, T1, hmeas, H, HP, hj, hTk, hTm⟩
  obtain ⟨u, hu⟩ : ∃ u, ul.getD j (slateA 0) = u := ⟨_, rfl⟩
  obtain ⟨hfull, hinv, hli0, hli1⟩ := stAt_ok (k := k) (us := us) hks hfo hz0 hplen j (by omega)
  refine wp_seq ?_
  refine wp_seq ?_
  refine w_region ?_
  refine H.val 51 (.int .i64 ((j : Nat) : Int)) (by kernel_rfl) (by kernel_rfl) ?_
  intro a H
  refine H.val 52 (.slice UA ul.length uc) (by kernel_rfl) (by kernel_rfl) ?_
  intro a H
  refine H.val 53 (.int .i64 ((ul.length : Nat) : Int)) (by kernel_rfl) (by kernel_rfl) ?_
  intro a H
  refine H.val 54 (.bool (decide (((j : Nat) : Int) < ((ul.length : Nat) : Int)))) (by kernel_rfl) (by kernel_rfl) ?_
  intro a H
  refine wpList_nil ?_
  refine then_normal ?_
  refine w_if H rfl (fun g54 => ?_) (fun g54 => ?_)
  · have g54p := of_decide_eq_true g54
    refine wp_skip ?_
    refine then_normal ?_
    refine wp_seq ?_
    refine wp_block ?_
    refine wp_seq ?_
    obtain ⟨bu, ou, hUA, hbl, pcs, huo, hmu⟩ := IsUnits.get (HP.held 0 rfl) (j := j) (by omega)
    subst hUA
    rw [hu] at pcs huo hmu
    have hstep := stS_eq (k := k) (s := (stAt k us j)) huspec (by omega) hu
    have hsp := feed_spec huspec (by omega) hu
    have hmj := getD_memU (us := us) (j := j) (by omega)
    have hch : u.channel = k.channel := (congrArg US.channel hsp : u.channel = _).trans (hchs _ hmj)
    have hfr : u.frame = j := (congrArg US.frame hsp : u.frame = _).trans (hfrs j (by omega))
    have hobd : (0 ≤ u.os ∧ u.os ≤ 1000000) ∧ 0 ≤ u.of ∧ u.of ≤ 1000000 := by have h1 := hobds _ hmj; rw [← hsp] at h1; exact h1
    have hst1 : stAt k us (j + 1) = (stepS k (stAt k us j) u).2.2 := by rw [hstep]; rfl
    obtain ⟨p, hp⟩ : ∃ p, (stepS k (stAt k us j) u).1 = p := ⟨_, rfl⟩
    obtain ⟨v, hv⟩ : ∃ v, (stepS k (stAt k us j) u).2.1 = v := ⟨_, rfl⟩
    refine w_region ?_
    refine H.val 57 (.slice (some ⟨bu, ou, none⟩) ul.length uc) (by kernel_rfl) (by kernel_rfl) ?_
    intro a H
    refine H.val 58 (.int .i64 ((j : Nat) : Int)) (by kernel_rfl) (by kernel_rfl) ?_
    intro a H
    refine H.val 59 (.pointer (some ⟨bu, ou + j * 13, none⟩)) (by kernel_rfl) (ex_index (b := bu) (off := ou) (len := ul.length) (cap := uc) (e := 46) (k := 13) (ik := .i64) (i := ((j : Nat) : Int)) (m := j) (by kernel_rfl) (by kernel_rfl) (by omega) (by omega) (by kernel_rfl) (by kernel_rfl)) ?_
    intro a H
    refine H.val 60 (.agg #[(.int .i64 u.channel), (.int .i64 u.frame), (.int .i64 u.version), (.int .i64 u.item), (.int .i64 u.index), (.bool u.key), (.string u.data), (.int .i64 u.regions), (.int .i64 u.gain), (.string u.caption), (.int .i64 u.os), (.int .i64 u.of), (.slice u.A u.al.length u.c)]) (by kernel_rfl) (ex_loadN (vs := [(.int .i64 u.channel), (.int .i64 u.frame), (.int .i64 u.version), (.int .i64 u.item), (.int .i64 u.index), (.bool u.key), (.string u.data), (.int .i64 u.regions), (.int .i64 u.gain), (.string u.caption), (.int .i64 u.os), (.int .i64 u.of), (.slice u.A u.al.length u.c)]) (by kernel_rfl) (by kernel_rfl) (by kernel_rfl) rfl (cells13 (pcs.1) (pcs.2.1) (pcs.2.2.1) (pcs.2.2.2.1) (pcs.2.2.2.2.1) (pcs.2.2.2.2.2.1) (pcs.2.2.2.2.2.2.1) (pcs.2.2.2.2.2.2.2.1) (pcs.2.2.2.2.2.2.2.2.1) (pcs.2.2.2.2.2.2.2.2.2.1) (pcs.2.2.2.2.2.2.2.2.2.2.1) (pcs.2.2.2.2.2.2.2.2.2.2.2.1) (pcs.2.2.2.2.2.2.2.2.2.2.2.2))) ?_
    intro a H
    refine H.alloc HP 16 (fun b => (.pointer (some ⟨b, 0, none⟩))) 46 [(.int .i64 0), (.int .i64 0), (.int .i64 0), (.int .i64 0), (.int .i64 0), (.bool false), (.string (ByteArray.mk #[])), (.int .i64 0), (.int .i64 0), (.string (ByteArray.mk #[])), (.int .i64 0), (.int .i64 0), (.slice none 0 0)] (by kernel_rfl) (fun w => by kernel_rfl) ?_
    intro b_14 w_15 a H HP
    refine H.store HP 0 b_14 0 13 46 [(.int .i64 0), (.int .i64 0), (.int .i64 0), (.int .i64 0), (.int .i64 0), (.bool false), (.string (ByteArray.mk #[])), (.int .i64 0), (.int .i64 0), (.string (ByteArray.mk #[])), (.int .i64 0), (.int .i64 0), (.slice none 0 0)] true (.agg #[(.int .i64 u.channel), (.int .i64 u.frame), (.int .i64 u.version), (.int .i64 u.item), (.int .i64 u.index), (.bool u.key), (.string u.data), (.int .i64 u.regions), (.int .i64 u.gain), (.string u.caption), (.int .i64 u.os), (.int .i64 u.of), (.slice u.A u.al.length u.c)]) [bx b_14 46 [(.int .i64 u.channel), (.int .i64 u.frame), (.int .i64 u.version), (.int .i64 u.item), (.int .i64 u.index), (.bool u.key), (.string u.data), (.int .i64 u.regions), (.int .i64 u.gain), (.string u.caption), (.int .i64 u.os), (.int .i64 u.of), (.slice u.A u.al.length u.c)] true, (unitsR (some ⟨bu, ou, none⟩) ul), (splR b k (stAt k us j) NA nc), (astsR LA 5 lib), bx b_10 44 [(.int .i64 T1.s), (.int .i64 T1.f), (.slice T1.A T1.al.length T1.c)] true] (by kernel_rfl) (by kernel_rfl) (by kernel_rfl) rfl (by kernel_rfl) (by kernel_rfl) (by kernel_rfl) (by kernel_rfl) (by kernel_rfl) ?_
    intro w_16 a H HP
    refine wpList_nil ?_
    refine then_normal ?_
    refine wp_seq ?_
    refine w_region ?_
    refine H.val 61 (.pointer (some ⟨b_14, 10, none⟩)) (by kernel_rfl) (by kernel_rfl) ?_
    intro a H
    refine H.val 62 (.agg #[(.int .i64 u.os), (.int .i64 u.of), (.slice u.A u.al.length u.c)]) (by kernel_rfl) (ex_loadN (vs := [(.int .i64 u.os), (.int .i64 u.of), (.slice u.A u.al.length u.c)]) (by kernel_rfl) (by kernel_rfl) (by kernel_rfl) rfl (HP.cells 0 rfl 10 3 (by kernel_rfl))) ?_
    intro a H
    refine H.alloc HP 17 (fun b => (.pointer (some ⟨b, 0, none⟩))) 44 [(.int .i64 0), (.int .i64 0), (.slice none 0 0)] (by kernel_rfl) (fun w => by kernel_rfl) ?_
    intro b_17 w_18 a H HP
    refine H.store HP 0 b_17 0 3 44 [(.int .i64 0), (.int .i64 0), (.slice none 0 0)] true (.agg #[(.int .i64 u.os), (.int .i64 u.of), (.slice u.A u.al.length u.c)]) [bx b_17 44 [(.int .i64 u.os), (.int .i64 u.of), (.slice u.A u.al.length u.c)] true, bx b_14 46 [(.int .i64 u.channel), (.int .i64 u.frame), (.int .i64 u.version), (.int .i64 u.item), (.int .i64 u.index), (.bool u.key), (.string u.data), (.int .i64 u.regions), (.int .i64 u.gain), (.string u.caption), (.int .i64 u.os), (.int .i64 u.of), (.slice u.A u.al.length u.c)] true, (unitsR (some ⟨bu, ou, none⟩) ul), (splR b k (stAt k us j) NA nc), (astsR LA 5 lib), bx b_10 44 [(.int .i64 T1.s), (.int .i64 T1.f), (.slice T1.A T1.al.length T1.c)] true] (by kernel_rfl) (by kernel_rfl) (by kernel_rfl) rfl (by kernel_rfl) (by kernel_rfl) (by kernel_rfl) (by kernel_rfl) (by kernel_rfl) ?_
    intro w_19 a H HP
    refine wpList_nil ?_
    refine then_normal ?_
    refine wp_seq ?_
    refine w_region ?_
    refine H.val 64 (.agg #[(.int .i64 u.os), (.int .i64 u.of), (.slice u.A u.al.length u.c)]) (by kernel_rfl) (ex_loadN (vs := [(.int .i64 u.os), (.int .i64 u.of), (.slice u.A u.al.length u.c)]) (by kernel_rfl) (by kernel_rfl) (by kernel_rfl) rfl (HP.cells 0 rfl 0 3 (by kernel_rfl))) ?_
    intro a H
    refine H.val 65 (.int .i64 k.region) (by kernel_rfl) (by kernel_rfl) ?_
    intro a H
    obtain ⟨J20, hJ20⟩ : ∃ J, itemP k.region u.al = J := ⟨_, rfl⟩
    obtain ⟨jt20, hjt20⟩ : ∃ j, J20.getD 0 = j := ⟨_, rfl⟩
    refine H.call 66 (by kernel_rfl) (Eq.trans (by kernel_rfl : _ = (callFunc 18 #[(.agg #[(.int .i64 u.os), (.int .i64 u.of), (.slice u.A u.al.length u.c)]), (.int .i64 k.region)]).run Try.prog w_19) (Try.call18 _ _)) ((by have hh := ritem_any u.os u.of u.A u.al.length u.c u.al k.region w_19 ((HP.held 2 rfl).2 u hmu).1 ((HP.held 2 rfl).2 u hmu).2.1; rw [hJ20, hjt20] at hh; exact hh)) ?_
    rintro e w_21 ⟨rfl, hb⟩
    refine ⟨_, rfl, ?_⟩
    intro a H
    have HP := HP.next hb
    refine H.val 63 (.tuple #[(.int .i64 jt20), (.bool J20.isSome)]) (by kernel_rfl) (by kernel_rfl) ?_
    intro a H
    refine H.val 67 (.int .i64 jt20) (by kernel_rfl) (by kernel_rfl) ?_
    intro a H
    refine H.val 68 (.bool J20.isSome) (by kernel_rfl) (by kernel_rfl) ?_
    intro a H
    refine H.val 18 (.int .i64 jt20) (by kernel_rfl) (by kernel_rfl) ?_
    intro a H
    refine H.val 19 (.bool J20.isSome) (by kernel_rfl) (by kernel_rfl) ?_
    intro a H
    refine wpList_nil ?_
    have H := H.keep (L' := [(19, (.bool J20.isSome)), (18, (.int .i64 jt20)), (17, (.pointer (some ⟨b_17, 0, none⟩))), (62, (.agg #[(.int .i64 u.os), (.int .i64 u.of), (.slice u.A u.al.length u.c)])), (61, (.pointer (some ⟨b_14, 10, none⟩))), (16, (.pointer (some ⟨b_14, 0, none⟩))), (60, (.agg #[(.int .i64 u.channel), (.int .i64 u.frame), (.int .i64 u.version), (.int .i64 u.item), (.int .i64 u.index), (.bool u.key), (.string u.data), (.int .i64 u.regions), (.int .i64 u.gain), (.string u.caption), (.int .i64 u.os), (.int .i64 u.of), (.slice u.A u.al.length u.c)])), (59, (.pointer (some ⟨bu, ou + j * 13, none⟩))), (58, (.int .i64 ((j : Nat) : Int))), (57, (.slice (some ⟨bu, ou, none⟩) ul.length uc)), (54, (.bool (decide (((j : Nat) : Int) < ((ul.length : Nat) : Int))))), (53, (.int .i64 ((ul.length : Nat) : Int))), (52, (.slice (some ⟨bu, ou, none⟩) ul.length uc)), (51, (.int .i64 ((j : Nat) : Int))), (15, (.int .i64 ((j : Nat) : Int))), (14, (.pointer (some ⟨b_10, 0, none⟩))), (13, (.slice (some ⟨bu, ou, none⟩) ul.length uc)), (11, (.pointer (some ⟨b, 0, none⟩))), (10, (.slice LA 5 lc)), (9, (.bool true)), (8, (.bool false)), (0, (.int .i64 k.region))]) (by kernel_rfl)
    refine then_normal ?_
    refine wp_seq ?_
    obtain ⟨F, hF⟩ : ∃ F, findA jt20 lib = F := ⟨_, rfl⟩
    obtain ⟨fa, hfa⟩ : ∃ fa, F.getD astZ = fa := ⟨_, rfl⟩
    have hfal := find_len hF hfa hplen
    have CF := fun w h => rfind_any LA 5 lc lib jt20 w h (by unfold maxLen; omega)
    unfold findV at CF
    simp only [hF, hfa] at CF
    refine w_region ?_
    refine H.val 70 (.slice LA 5 lc) (by kernel_rfl) (by kernel_rfl) ?_
    intro a H
    refine H.val 71 (.int .i64 jt20) (by kernel_rfl) (by kernel_rfl) ?_
    intro a H
    refine H.call 72 (by kernel_rfl) (Eq.trans (by kernel_rfl : _ = (callFunc 15 #[(.slice LA 5 lc), (.int .i64 jt20)]).run Try.prog w_21) (Try.call15 _ _)) (CF w_21 (HP.held 4 rfl)) ?_
    rintro e w_22 ⟨rfl, hb⟩
    refine ⟨_, rfl, ?_⟩
    intro a H
    have HP := HP.next hb
    refine H.val 69 (.tuple #[(.agg #[(.int .i64 fa.item), (.slice fa.A fa.pics.length fa.c)]), (.bool F.isSome)]) (by kernel_rfl) (by kernel_rfl) ?_
    intro a H
    refine H.val 73 (.agg #[(.int .i64 fa.item), (.slice fa.A fa.pics.length fa.c)]) (by kernel_rfl) (by kernel_rfl) ?_
    intro a H
    refine H.val 74 (.bool F.isSome) (by kernel_rfl) (by kernel_rfl) ?_
    intro a H
    refine H.alloc HP 20 (fun b => (.pointer (some ⟨b, 0, none⟩))) 49 [(.int .i64 0), (.slice none 0 0)] (by kernel_rfl) (fun w => by kernel_rfl) ?_
    intro b_23 w_24 a H HP
    refine H.store HP 0 b_23 0 2 49 [(.int .i64 0), (.slice none 0 0)] true (.agg #[(.int .i64 fa.item), (.slice fa.A fa.pics.length fa.c)]) [bx b_23 49 [(.int .i64 fa.item), (.slice fa.A fa.pics.length fa.c)] true, bx b_17 44 [(.int .i64 u.os), (.int .i64 u.of), (.slice u.A u.al.length u.c)] true, bx b_14 46 [(.int .i64 u.channel), (.int .i64 u.frame), (.int .i64 u.version), (.int .i64 u.item), (.int .i64 u.index), (.bool u.key), (.string u.data), (.int .i64 u.regions), (.int .i64 u.gain), (.string u.caption), (.int .i64 u.os), (.int .i64 u.of), (.slice u.A u.al.length u.c)] true, (unitsR (some ⟨bu, ou, none⟩) ul), (splR b k (stAt k us j) NA nc), (astsR LA 5 lib), bx b_10 44 [(.int .i64 T1.s), (.int .i64 T1.f), (.slice T1.A T1.al.length T1.c)] true] (by kernel_rfl) (by kernel_rfl) (by kernel_rfl) rfl (by kernel_rfl) (by kernel_rfl) (by kernel_rfl) (by kernel_rfl) (by kernel_rfl) ?_
    intro w_25 a H HP
    refine H.val 21 (.bool F.isSome) (by kernel_rfl) (by kernel_rfl) ?_
    intro a H
    refine wpList_nil ?_
    have H := H.keep (L' := [(21, (.bool F.isSome)), (20, (.pointer (some ⟨b_23, 0, none⟩))), (19, (.bool J20.isSome)), (18, (.int .i64 jt20)), (17, (.pointer (some ⟨b_17, 0, none⟩))), (62, (.agg #[(.int .i64 u.os), (.int .i64 u.of), (.slice u.A u.al.length u.c)])), (61, (.pointer (some ⟨b_14, 10, none⟩))), (16, (.pointer (some ⟨b_14, 0, none⟩))), (60, (.agg #[(.int .i64 u.channel), (.int .i64 u.frame), (.int .i64 u.version), (.int .i64 u.item), (.int .i64 u.index), (.bool u.key), (.string u.data), (.int .i64 u.regions), (.int .i64 u.gain), (.string u.caption), (.int .i64 u.os), (.int .i64 u.of), (.slice u.A u.al.length u.c)])), (59, (.pointer (some ⟨bu, ou + j * 13, none⟩))), (58, (.int .i64 ((j : Nat) : Int))), (57, (.slice (some ⟨bu, ou, none⟩) ul.length uc)), (54, (.bool (decide (((j : Nat) : Int) < ((ul.length : Nat) : Int))))), (53, (.int .i64 ((ul.length : Nat) : Int))), (52, (.slice (some ⟨bu, ou, none⟩) ul.length uc)), (51, (.int .i64 ((j : Nat) : Int))), (15, (.int .i64 ((j : Nat) : Int))), (14, (.pointer (some ⟨b_10, 0, none⟩))), (13, (.slice (some ⟨bu, ou, none⟩) ul.length uc)), (11, (.pointer (some ⟨b, 0, none⟩))), (10, (.slice LA 5 lc)), (9, (.bool true)), (8, (.bool false)), (0, (.int .i64 k.region))]) (by kernel_rfl)
    refine then_normal ?_
    refine wp_seq ?_
    refine w_region ?_
    refine H.val 76 (.agg #[(.int .i64 fa.item), (.slice fa.A fa.pics.length fa.c)]) (by kernel_rfl) (ex_loadN (vs := [(.int .i64 fa.item), (.slice fa.A fa.pics.length fa.c)]) (by kernel_rfl) (by kernel_rfl) (by kernel_rfl) rfl (HP.cells 0 rfl 0 2 (by kernel_rfl))) ?_
    intro a H
    refine H.call 77 (by kernel_rfl) (Eq.trans (by kernel_rfl : _ = (callFunc 20 #[(.agg #[(.int .i64 fa.item), (.slice fa.A fa.pics.length fa.c)])]).run Try.prog w_25) (Try.call20 _ _)) (rsizes_any fa.item fa.A fa.pics.length fa.c fa.pics w_25 (fa_pics (HP.held 5 rfl) hF hfa) hfal) ?_
    rintro e w_28 ⟨B_26, c_27, rfl, hsz1, _, _, _, hb⟩
    refine ⟨_, rfl, ?_⟩
    intro a H
    have HP := HP.next hb
    obtain ⟨ND, hND⟩ : ∃ N, needOf (sizesP fa.pics) = N := ⟨_, rfl⟩
    obtain ⟨nd, hnd⟩ : ∃ n, ND.getD 0 = n := ⟨_, rfl⟩
    refine H.call 78 (by kernel_rfl) (Eq.trans (by kernel_rfl : _ = (callFunc 19 #[(.slice B_26 ((sizesP fa.pics).length) c_27)]).run Try.prog w_28) (Try.call19 _ _)) ((by have hh := refNeed_any B_26 (sizesP fa.pics).length c_27 (sizesP fa.pics) w_28 hsz1 (by simp only [sizesP, List.length_map]; omega); unfold pairV at hh; rw [hND, hnd] at hh; exact hh)) ?_
    rintro e w_29 ⟨rfl, hw⟩
    refine ⟨_, rfl, ?_⟩
    intro a H
    have HP := hw ▸ HP
    refine H.val 75 (.tuple #[(.int .i64 nd), (.bool ND.isSome)]) (by kernel_rfl) (by kernel_rfl) ?_
    intro a H
    refine H.val 79 (.int .i64 nd) (by kernel_rfl) (by kernel_rfl) ?_
    intro a H
    refine H.val 80 (.bool ND.isSome) (by kernel_rfl) (by kernel_rfl) ?_
    intro a H
    refine H.val 22 (.int .i64 nd) (by kernel_rfl) (by kernel_rfl) ?_
    intro a H
    refine H.val 23 (.bool ND.isSome) (by kernel_rfl) (by kernel_rfl) ?_
    intro a H
    refine wpList_nil ?_
    have H := H.keep (L' := [(23, (.bool ND.isSome)), (22, (.int .i64 nd)), (21, (.bool F.isSome)), (20, (.pointer (some ⟨b_23, 0, none⟩))), (19, (.bool J20.isSome)), (18, (.int .i64 jt20)), (17, (.pointer (some ⟨b_17, 0, none⟩))), (62, (.agg #[(.int .i64 u.os), (.int .i64 u.of), (.slice u.A u.al.length u.c)])), (61, (.pointer (some ⟨b_14, 10, none⟩))), (16, (.pointer (some ⟨b_14, 0, none⟩))), (60, (.agg #[(.int .i64 u.channel), (.int .i64 u.frame), (.int .i64 u.version), (.int .i64 u.item), (.int .i64 u.index), (.bool u.key), (.string u.data), (.int .i64 u.regions), (.int .i64 u.gain), (.string u.caption), (.int .i64 u.os), (.int .i64 u.of), (.slice u.A u.al.length u.c)])), (59, (.pointer (some ⟨bu, ou + j * 13, none⟩))), (58, (.int .i64 ((j : Nat) : Int))), (57, (.slice (some ⟨bu, ou, none⟩) ul.length uc)), (54, (.bool (decide (((j : Nat) : Int) < ((ul.length : Nat) : Int))))), (53, (.int .i64 ((ul.length : Nat) : Int))), (52, (.slice (some ⟨bu, ou, none⟩) ul.length uc)), (51, (.int .i64 ((j : Nat) : Int))), (15, (.int .i64 ((j : Nat) : Int))), (14, (.pointer (some ⟨b_10, 0, none⟩))), (13, (.slice (some ⟨bu, ou, none⟩) ul.length uc)), (11, (.pointer (some ⟨b, 0, none⟩))), (10, (.slice LA 5 lc)), (9, (.bool true)), (8, (.bool false)), (0, (.int .i64 k.region))]) (by kernel_rfl)
    refine then_normal ?_
    refine w_cut (fun a wv => ∃ (rd0 : Bool), Sl 209 [(0, (.int .i64 k.region)), (8, (.bool false)), (9, (.bool true)), (10, (.slice LA 5 lc)), (11, (.pointer (some ⟨b, 0, none⟩))), (13, (.slice (some ⟨bu, ou, none⟩) ul.length uc)), (14, (.pointer (some ⟨b_10, 0, none⟩))), (15, (.int .i64 ((j : Nat) : Int))), (16, (.pointer (some ⟨b_14, 0, none⟩))), (17, (.pointer (some ⟨b_17, 0, none⟩))), (18, (.int .i64 jt20)), (24, (.bool rd0))] a ∧ Hp w wv [bx b_23 49 [(.int .i64 fa.item), (.slice fa.A fa.pics.length fa.c)] true, bx b_17 44 [(.int .i64 u.os), (.int .i64 u.of), (.slice u.A u.al.length u.c)] true, bx b_14 46 [(.int .i64 u.channel), (.int .i64 u.frame), (.int .i64 u.version), (.int .i64 u.item), (.int .i64 u.index), (.bool u.key), (.string u.data), (.int .i64 u.regions), (.int .i64 u.gain), (.string u.caption), (.int .i64 u.os), (.int .i64 u.of), (.slice u.A u.al.length u.c)] true, (unitsR (some ⟨bu, ou, none⟩) ul), (splR b k (stAt k us j) NA nc), (astsR LA 5 lib), bx b_10 44 [(.int .i64 T1.s), (.int .i64 T1.f), (.slice T1.A T1.al.length T1.c)] true] [] ∧ (Hid (rd0 = true → u.item ≠ 0 ∧ J20.isSome = true ∧ F.isSome = true ∧ u.os = ((j : Nat) : Int) ∧ ((j : Nat) : Int) ≥ 10 ∧ ((fa.pics.length : Nat) : Int) ≥ u.of ∧ ND.isSome = true ∧ (stAt k us j).full ≥ nd))) ?_ ?_
    ·
      refine w_region ?_
      refine H.val 81 (.pointer (some ⟨b_14, 3, none⟩)) (by kernel_rfl) (by kernel_rfl) ?_
      intro a H
      refine H.val 82 (.int .i64 u.item) (by kernel_rfl) (ex_load1 (by kernel_rfl) (by kernel_rfl) (HP.cell 2 rfl 3 rfl)) ?_
      intro a H
      refine H.val 83 (.bool (u.item != 0)) (by kernel_rfl) (by kernel_rfl) ?_
      intro a H
      refine H.val 84 (.bool (u.item != 0)) (by kernel_rfl) (by kernel_rfl) ?_
      intro a H
      refine H.split 84 rfl (fun g84 H => ?_) (fun g84 H => ?_)
      · have g84p := bne_iff_ne.1 g84
        refine H.val 85 (.bool J20.isSome) (by kernel_rfl) (by kernel_rfl) ?_
        intro a H
        refine H.val 86 (.bool J20.isSome) (by kernel_rfl) (by kernel_rfl) ?_
        intro a H
        refine H.val 87 (.bool J20.isSome) (by kernel_rfl) (by kernel_rfl) ?_
        intro a H
        refine H.split 87 rfl (fun g87 H => ?_) (fun g87 H => ?_)
        · have g87p := g87
          refine H.val 88 (.bool F.isSome) (by kernel_rfl) (by kernel_rfl) ?_
          intro a H
          refine H.val 89 (.bool F.isSome) (by kernel_rfl) (by kernel_rfl) ?_
          intro a H
          refine H.val 90 (.bool F.isSome) (by kernel_rfl) (by kernel_rfl) ?_
          intro a H
          refine H.split 90 rfl (fun g90 H => ?_) (fun g90 H => ?_)
          · have g90p := g90
            refine H.val 91 (.pointer (some ⟨b_17, 0, none⟩)) (by kernel_rfl) (by kernel_rfl) ?_
            intro a H
            refine H.val 92 (.int .i64 u.os) (by kernel_rfl) (ex_load1 (by kernel_rfl) (by kernel_rfl) (HP.cell 1 rfl 0 rfl)) ?_
            intro a H
            refine H.val 93 (.int .i64 ((j : Nat) : Int)) (by kernel_rfl) (by kernel_rfl) ?_
            intro a H
            refine H.val 94 (.bool (u.os == ((j : Nat) : Int))) (by kernel_rfl) (by kernel_rfl) ?_
            intro a H
            refine H.val 95 (.bool (u.os == ((j : Nat) : Int))) (by kernel_rfl) (by kernel_rfl) ?_
            intro a H
            refine H.val 96 (.bool (u.os == ((j : Nat) : Int))) (by kernel_rfl) (by kernel_rfl) ?_
            intro a H
            refine H.split 96 rfl (fun g96 H => ?_) (fun g96 H => ?_)
            · have g96p := eq_of_beq g96
              refine H.val 97 (.int .i64 ((j : Nat) : Int)) (by kernel_rfl) (by kernel_rfl) ?_
              intro a H
              refine H.val 98 (.bool (decide (((j : Nat) : Int) ≥ 10))) (by kernel_rfl) (by kernel_rfl) ?_
              intro a H
              refine H.val 99 (.bool (decide (((j : Nat) : Int) ≥ 10))) (by kernel_rfl) (by kernel_rfl) ?_
              intro a H
              refine H.val 100 (.bool (decide (((j : Nat) : Int) ≥ 10))) (by kernel_rfl) (by kernel_rfl) ?_
              intro a H
              refine H.split 100 rfl (fun g100 H => ?_) (fun g100 H => ?_)
              · have g100p := of_decide_eq_true g100
                refine H.val 101 (.pointer (some ⟨b_23, 1, none⟩)) (by kernel_rfl) (by kernel_rfl) ?_
                intro a H
                refine H.val 102 (.slice fa.A fa.pics.length fa.c) (by kernel_rfl) (ex_load1 (by kernel_rfl) (by kernel_rfl) (HP.cell 0 rfl 1 rfl)) ?_
                intro a H
                refine H.val 103 (.int .i64 ((fa.pics.length : Nat) : Int)) (by kernel_rfl) (by kernel_rfl) ?_
                intro a H
                refine H.val 104 (.pointer (some ⟨b_17, 1, none⟩)) (by kernel_rfl) (by kernel_rfl) ?_
                intro a H
                refine H.val 105 (.int .i64 u.of) (by kernel_rfl) (ex_load1 (by kernel_rfl) (by kernel_rfl) (HP.cell 1 rfl 1 rfl)) ?_
                intro a H
                refine H.val 106 (.bool (decide (((fa.pics.length : Nat) : Int) ≥ u.of))) (by kernel_rfl) (by kernel_rfl) ?_
                intro a H
                refine H.val 107 (.bool (decide (((fa.pics.length : Nat) : Int) ≥ u.of))) (by kernel_rfl) (by kernel_rfl) ?_
                intro a H
                refine H.val 108 (.bool (decide (((fa.pics.length : Nat) : Int) ≥ u.of))) (by kernel_rfl) (by kernel_rfl) ?_
                intro a H
                refine H.split 108 rfl (fun g108 H => ?_) (fun g108 H => ?_)
                · have g108p := of_decide_eq_true g108
                  refine H.val 109 (.bool ND.isSome) (by kernel_rfl) (by kernel_rfl) ?_
                  intro a H
                  refine H.val 110 (.bool ND.isSome) (by kernel_rfl) (by kernel_rfl) ?_
                  intro a H
                  refine H.val 111 (.bool ND.isSome) (by kernel_rfl) (by kernel_rfl) ?_
                  intro a H
                  refine H.split 111 rfl (fun g111 H => ?_) (fun g111 H => ?_)
                  · have g111p := g111
                    refine H.val 112 (.pointer (some ⟨b, 0, none⟩)) (by kernel_rfl) (by kernel_rfl) ?_
                    intro a H
                    refine H.call 113 (by kernel_rfl) (Eq.trans (by kernel_rfl : _ = (callFunc 17 #[(.pointer (some ⟨b, 0, none⟩))]).run Try.prog w_29) (Try.call17 _ _)) (full_any b k (stAt k us j) w_29 (HP.held 4 rfl).ok) ?_
                    rintro e w_30 ⟨rfl, hw⟩
                    refine ⟨_, rfl, ?_⟩
                    intro a H
                    have HP := hw ▸ HP
                    refine H.val 114 (.int .i64 nd) (by kernel_rfl) (by kernel_rfl) ?_
                    intro a H
                    refine H.val 115 (.bool (decide (((stAt k us j).full) ≥ nd))) (by kernel_rfl) (by kernel_rfl) ?_
                    intro a H
                    refine H.val 116 (.bool (decide (((stAt k us j).full) ≥ nd))) (by kernel_rfl) (by kernel_rfl) ?_
                    intro a H
                    refine H.val 24 (.bool (decide (((stAt k us j).full) ≥ nd))) (by kernel_rfl) (by kernel_rfl) ?_
                    intro a H
                    refine wpList_nil ?_
                    have H := H.keep (L' := [(24, (.bool (decide (((stAt k us j).full) ≥ nd)))), (23, (.bool ND.isSome)), (22, (.int .i64 nd)), (21, (.bool F.isSome)), (20, (.pointer (some ⟨b_23, 0, none⟩))), (19, (.bool J20.isSome)), (18, (.int .i64 jt20)), (17, (.pointer (some ⟨b_17, 0, none⟩))), (62, (.agg #[(.int .i64 u.os), (.int .i64 u.of), (.slice u.A u.al.length u.c)])), (61, (.pointer (some ⟨b_14, 10, none⟩))), (16, (.pointer (some ⟨b_14, 0, none⟩))), (60, (.agg #[(.int .i64 u.channel), (.int .i64 u.frame), (.int .i64 u.version), (.int .i64 u.item), (.int .i64 u.index), (.bool u.key), (.string u.data), (.int .i64 u.regions), (.int .i64 u.gain), (.string u.caption), (.int .i64 u.os), (.int .i64 u.of), (.slice u.A u.al.length u.c)])), (59, (.pointer (some ⟨bu, ou + j * 13, none⟩))), (58, (.int .i64 ((j : Nat) : Int))), (57, (.slice (some ⟨bu, ou, none⟩) ul.length uc)), (54, (.bool (decide (((j : Nat) : Int) < ((ul.length : Nat) : Int))))), (53, (.int .i64 ((ul.length : Nat) : Int))), (52, (.slice (some ⟨bu, ou, none⟩) ul.length uc)), (51, (.int .i64 ((j : Nat) : Int))), (15, (.int .i64 ((j : Nat) : Int))), (14, (.pointer (some ⟨b_10, 0, none⟩))), (13, (.slice (some ⟨bu, ou, none⟩) ul.length uc)), (11, (.pointer (some ⟨b, 0, none⟩))), (10, (.slice LA 5 lc)), (9, (.bool true)), (8, (.bool false)), (0, (.int .i64 k.region))]) (by kernel_rfl)
                    refine then_normal ?_
                    exact ⟨decide (((stAt k us j).full) ≥ nd), H.keep (by kernel_rfl), HP, (Lib.hid (fun h => ⟨g84p, g87p, g90p, g96p, g100p, g108p, g111p, of_decide_eq_true h⟩))⟩
                  · have g111p := g111
                    refine H.skip 112 (by kernel_rfl) ?_
                    intro a H
                    refine H.skip 113 (by kernel_rfl) ?_
                    intro a H
                    refine H.skip 114 (by kernel_rfl) ?_
                    intro a H
                    refine H.skip 115 (by kernel_rfl) ?_
                    intro a H
                    refine H.val 116 (.bool false) (by kernel_rfl) (by kernel_rfl) ?_
                    intro a H
                    refine H.val 24 (.bool false) (by kernel_rfl) (by kernel_rfl) ?_
                    intro a H
                    refine wpList_nil ?_
                    have H := H.keep (L' := [(24, (.bool false)), (23, (.bool ND.isSome)), (22, (.int .i64 nd)), (21, (.bool F.isSome)), (20, (.pointer (some ⟨b_23, 0, none⟩))), (19, (.bool J20.isSome)), (18, (.int .i64 jt20)), (17, (.pointer (some ⟨b_17, 0, none⟩))), (62, (.agg #[(.int .i64 u.os), (.int .i64 u.of), (.slice u.A u.al.length u.c)])), (61, (.pointer (some ⟨b_14, 10, none⟩))), (16, (.pointer (some ⟨b_14, 0, none⟩))), (60, (.agg #[(.int .i64 u.channel), (.int .i64 u.frame), (.int .i64 u.version), (.int .i64 u.item), (.int .i64 u.index), (.bool u.key), (.string u.data), (.int .i64 u.regions), (.int .i64 u.gain), (.string u.caption), (.int .i64 u.os), (.int .i64 u.of), (.slice u.A u.al.length u.c)])), (59, (.pointer (some ⟨bu, ou + j * 13, none⟩))), (58, (.int .i64 ((j : Nat) : Int))), (57, (.slice (some ⟨bu, ou, none⟩) ul.length uc)), (54, (.bool (decide (((j : Nat) : Int) < ((ul.length : Nat) : Int))))), (53, (.int .i64 ((ul.length : Nat) : Int))), (52, (.slice (some ⟨bu, ou, none⟩) ul.length uc)), (51, (.int .i64 ((j : Nat) : Int))), (15, (.int .i64 ((j : Nat) : Int))), (14, (.pointer (some ⟨b_10, 0, none⟩))), (13, (.slice (some ⟨bu, ou, none⟩) ul.length uc)), (11, (.pointer (some ⟨b, 0, none⟩))), (10, (.slice LA 5 lc)), (9, (.bool true)), (8, (.bool false)), (0, (.int .i64 k.region))]) (by kernel_rfl)
                    refine then_normal ?_
                    exact ⟨false, H.keep (by kernel_rfl), HP, (Lib.hid (fun h => by cases h))⟩
                · have g108p := of_decide_eq_false g108
                  refine H.skip 109 (by kernel_rfl) ?_
                  intro a H
                  refine H.val 110 (.bool false) (by kernel_rfl) (by kernel_rfl) ?_
                  intro a H
                  refine H.val 111 (.bool false) (by kernel_rfl) (by kernel_rfl) ?_
                  intro a H
                  refine H.skip 112 (by kernel_rfl) ?_
                  intro a H
                  refine H.skip 113 (by kernel_rfl) ?_
                  intro a H
                  refine H.skip 114 (by kernel_rfl) ?_
                  intro a H
                  refine H.skip 115 (by kernel_rfl) ?_
                  intro a H
                  refine H.val 116 (.bool false) (by kernel_rfl) (by kernel_rfl) ?_
                  intro a H
                  refine H.val 24 (.bool false) (by kernel_rfl) (by kernel_rfl) ?_
                  intro a H
                  refine wpList_nil ?_
                  have H := H.keep (L' := [(24, (.bool false)), (23, (.bool ND.isSome)), (22, (.int .i64 nd)), (21, (.bool F.isSome)), (20, (.pointer (some ⟨b_23, 0, none⟩))), (19, (.bool J20.isSome)), (18, (.int .i64 jt20)), (17, (.pointer (some ⟨b_17, 0, none⟩))), (62, (.agg #[(.int .i64 u.os), (.int .i64 u.of), (.slice u.A u.al.length u.c)])), (61, (.pointer (some ⟨b_14, 10, none⟩))), (16, (.pointer (some ⟨b_14, 0, none⟩))), (60, (.agg #[(.int .i64 u.channel), (.int .i64 u.frame), (.int .i64 u.version), (.int .i64 u.item), (.int .i64 u.index), (.bool u.key), (.string u.data), (.int .i64 u.regions), (.int .i64 u.gain), (.string u.caption), (.int .i64 u.os), (.int .i64 u.of), (.slice u.A u.al.length u.c)])), (59, (.pointer (some ⟨bu, ou + j * 13, none⟩))), (58, (.int .i64 ((j : Nat) : Int))), (57, (.slice (some ⟨bu, ou, none⟩) ul.length uc)), (54, (.bool (decide (((j : Nat) : Int) < ((ul.length : Nat) : Int))))), (53, (.int .i64 ((ul.length : Nat) : Int))), (52, (.slice (some ⟨bu, ou, none⟩) ul.length uc)), (51, (.int .i64 ((j : Nat) : Int))), (15, (.int .i64 ((j : Nat) : Int))), (14, (.pointer (some ⟨b_10, 0, none⟩))), (13, (.slice (some ⟨bu, ou, none⟩) ul.length uc)), (11, (.pointer (some ⟨b, 0, none⟩))), (10, (.slice LA 5 lc)), (9, (.bool true)), (8, (.bool false)), (0, (.int .i64 k.region))]) (by kernel_rfl)
                  refine then_normal ?_
                  exact ⟨false, H.keep (by kernel_rfl), HP, (Lib.hid (fun h => by cases h))⟩
              · have g100p := of_decide_eq_false g100
                refine H.skip 101 (by kernel_rfl) ?_
                intro a H
                refine H.skip 102 (by kernel_rfl) ?_
                intro a H
                refine H.skip 103 (by kernel_rfl) ?_
                intro a H
                refine H.skip 104 (by kernel_rfl) ?_
                intro a H
                refine H.skip 105 (by kernel_rfl) ?_
                intro a H
                refine H.skip 106 (by kernel_rfl) ?_
                intro a H
                refine H.val 107 (.bool false) (by kernel_rfl) (by kernel_rfl) ?_
                intro a H
                refine H.val 108 (.bool false) (by kernel_rfl) (by kernel_rfl) ?_
                intro a H
                refine H.skip 109 (by kernel_rfl) ?_
                intro a H
                refine H.val 110 (.bool false) (by kernel_rfl) (by kernel_rfl) ?_
                intro a H
                refine H.val 111 (.bool false) (by kernel_rfl) (by kernel_rfl) ?_
                intro a H
                refine H.skip 112 (by kernel_rfl) ?_
                intro a H
                refine H.skip 113 (by kernel_rfl) ?_
                intro a H
                refine H.skip 114 (by kernel_rfl) ?_
                intro a H
                refine H.skip 115 (by kernel_rfl) ?_
                intro a H
                refine H.val 116 (.bool false) (by kernel_rfl) (by kernel_rfl) ?_
                intro a H
                refine H.val 24 (.bool false) (by kernel_rfl) (by kernel_rfl) ?_
                intro a H
                refine wpList_nil ?_
                have H := H.keep (L' := [(24, (.bool false)), (23, (.bool ND.isSome)), (22, (.int .i64 nd)), (21, (.bool F.isSome)), (20, (.pointer (some ⟨b_23, 0, none⟩))), (19, (.bool J20.isSome)), (18, (.int .i64 jt20)), (17, (.pointer (some ⟨b_17, 0, none⟩))), (62, (.agg #[(.int .i64 u.os), (.int .i64 u.of), (.slice u.A u.al.length u.c)])), (61, (.pointer (some ⟨b_14, 10, none⟩))), (16, (.pointer (some ⟨b_14, 0, none⟩))), (60, (.agg #[(.int .i64 u.channel), (.int .i64 u.frame), (.int .i64 u.version), (.int .i64 u.item), (.int .i64 u.index), (.bool u.key), (.string u.data), (.int .i64 u.regions), (.int .i64 u.gain), (.string u.caption), (.int .i64 u.os), (.int .i64 u.of), (.slice u.A u.al.length u.c)])), (59, (.pointer (some ⟨bu, ou + j * 13, none⟩))), (58, (.int .i64 ((j : Nat) : Int))), (57, (.slice (some ⟨bu, ou, none⟩) ul.length uc)), (54, (.bool (decide (((j : Nat) : Int) < ((ul.length : Nat) : Int))))), (53, (.int .i64 ((ul.length : Nat) : Int))), (52, (.slice (some ⟨bu, ou, none⟩) ul.length uc)), (51, (.int .i64 ((j : Nat) : Int))), (15, (.int .i64 ((j : Nat) : Int))), (14, (.pointer (some ⟨b_10, 0, none⟩))), (13, (.slice (some ⟨bu, ou, none⟩) ul.length uc)), (11, (.pointer (some ⟨b, 0, none⟩))), (10, (.slice LA 5 lc)), (9, (.bool true)), (8, (.bool false)), (0, (.int .i64 k.region))]) (by kernel_rfl)
                refine then_normal ?_
                exact ⟨false, H.keep (by kernel_rfl), HP, (Lib.hid (fun h => by cases h))⟩
            · have g96p := ne_of_beq_false g96
              refine H.skip 97 (by kernel_rfl) ?_
              intro a H
              refine H.skip 98 (by kernel_rfl) ?_
              intro a H
              refine H.val 99 (.bool false) (by kernel_rfl) (by kernel_rfl) ?_
              intro a H
              refine H.val 100 (.bool false) (by kernel_rfl) (by kernel_rfl) ?_
              intro a H
              refine H.skip 101 (by kernel_rfl) ?_
              intro a H
              refine H.skip 102 (by kernel_rfl) ?_
              intro a H
              refine H.skip 103 (by kernel_rfl) ?_
              intro a H
              refine H.skip 104 (by kernel_rfl) ?_
              intro a H
              refine H.skip 105 (by kernel_rfl) ?_
              intro a H
              refine H.skip 106 (by kernel_rfl) ?_
              intro a H
              refine H.val 107 (.bool false) (by kernel_rfl) (by kernel_rfl) ?_
              intro a H
              refine H.val 108 (.bool false) (by kernel_rfl) (by kernel_rfl) ?_
              intro a H
              refine H.skip 109 (by kernel_rfl) ?_
              intro a H
              refine H.val 110 (.bool false) (by kernel_rfl) (by kernel_rfl) ?_
              intro a H
              refine H.val 111 (.bool false) (by kernel_rfl) (by kernel_rfl) ?_
              intro a H
              refine H.skip 112 (by kernel_rfl) ?_
              intro a H
              refine H.skip 113 (by kernel_rfl) ?_
              intro a H
              refine H.skip 114 (by kernel_rfl) ?_
              intro a H
              refine H.skip 115 (by kernel_rfl) ?_
              intro a H
              refine H.val 116 (.bool false) (by kernel_rfl) (by kernel_rfl) ?_
              intro a H
              refine H.val 24 (.bool false) (by kernel_rfl) (by kernel_rfl) ?_
              intro a H
              refine wpList_nil ?_
              have H := H.keep (L' := [(24, (.bool false)), (23, (.bool ND.isSome)), (22, (.int .i64 nd)), (21, (.bool F.isSome)), (20, (.pointer (some ⟨b_23, 0, none⟩))), (19, (.bool J20.isSome)), (18, (.int .i64 jt20)), (17, (.pointer (some ⟨b_17, 0, none⟩))), (62, (.agg #[(.int .i64 u.os), (.int .i64 u.of), (.slice u.A u.al.length u.c)])), (61, (.pointer (some ⟨b_14, 10, none⟩))), (16, (.pointer (some ⟨b_14, 0, none⟩))), (60, (.agg #[(.int .i64 u.channel), (.int .i64 u.frame), (.int .i64 u.version), (.int .i64 u.item), (.int .i64 u.index), (.bool u.key), (.string u.data), (.int .i64 u.regions), (.int .i64 u.gain), (.string u.caption), (.int .i64 u.os), (.int .i64 u.of), (.slice u.A u.al.length u.c)])), (59, (.pointer (some ⟨bu, ou + j * 13, none⟩))), (58, (.int .i64 ((j : Nat) : Int))), (57, (.slice (some ⟨bu, ou, none⟩) ul.length uc)), (54, (.bool (decide (((j : Nat) : Int) < ((ul.length : Nat) : Int))))), (53, (.int .i64 ((ul.length : Nat) : Int))), (52, (.slice (some ⟨bu, ou, none⟩) ul.length uc)), (51, (.int .i64 ((j : Nat) : Int))), (15, (.int .i64 ((j : Nat) : Int))), (14, (.pointer (some ⟨b_10, 0, none⟩))), (13, (.slice (some ⟨bu, ou, none⟩) ul.length uc)), (11, (.pointer (some ⟨b, 0, none⟩))), (10, (.slice LA 5 lc)), (9, (.bool true)), (8, (.bool false)), (0, (.int .i64 k.region))]) (by kernel_rfl)
              refine then_normal ?_
              exact ⟨false, H.keep (by kernel_rfl), HP, (Lib.hid (fun h => by cases h))⟩
          · have g90p := g90
            refine H.skip 91 (by kernel_rfl) ?_
            intro a H
            refine H.skip 92 (by kernel_rfl) ?_
            intro a H
            refine H.skip 93 (by kernel_rfl) ?_
            intro a H
            refine H.skip 94 (by kernel_rfl) ?_
            intro a H
            refine H.val 95 (.bool false) (by kernel_rfl) (by kernel_rfl) ?_
            intro a H
            refine H.val 96 (.bool false) (by kernel_rfl) (by kernel_rfl) ?_
            intro a H
            refine H.skip 97 (by kernel_rfl) ?_
            intro a H
            refine H.skip 98 (by kernel_rfl) ?_
            intro a H
            refine H.val 99 (.bool false) (by kernel_rfl) (by kernel_rfl) ?_
            intro a H
            refine H.val 100 (.bool false) (by kernel_rfl) (by kernel_rfl) ?_
            intro a H
            refine H.skip 101 (by kernel_rfl) ?_
            intro a H
            refine H.skip 102 (by kernel_rfl) ?_
            intro a H
            refine H.skip 103 (by kernel_rfl) ?_
            intro a H
            refine H.skip 104 (by kernel_rfl) ?_
            intro a H
            refine H.skip 105 (by kernel_rfl) ?_
            intro a H
            refine H.skip 106 (by kernel_rfl) ?_
            intro a H
            refine H.val 107 (.bool false) (by kernel_rfl) (by kernel_rfl) ?_
            intro a H
            refine H.val 108 (.bool false) (by kernel_rfl) (by kernel_rfl) ?_
            intro a H
            refine H.skip 109 (by kernel_rfl) ?_
            intro a H
            refine H.val 110 (.bool false) (by kernel_rfl) (by kernel_rfl) ?_
            intro a H
            refine H.val 111 (.bool false) (by kernel_rfl) (by kernel_rfl) ?_
            intro a H
            refine H.skip 112 (by kernel_rfl) ?_
            intro a H
            refine H.skip 113 (by kernel_rfl) ?_
            intro a H
            refine H.skip 114 (by kernel_rfl) ?_
            intro a H
            refine H.skip 115 (by kernel_rfl) ?_
            intro a H
            refine H.val 116 (.bool false) (by kernel_rfl) (by kernel_rfl) ?_
            intro a H
            refine H.val 24 (.bool false) (by kernel_rfl) (by kernel_rfl) ?_
            intro a H
            refine wpList_nil ?_
            have H := H.keep (L' := [(24, (.bool false)), (23, (.bool ND.isSome)), (22, (.int .i64 nd)), (21, (.bool F.isSome)), (20, (.pointer (some ⟨b_23, 0, none⟩))), (19, (.bool J20.isSome)), (18, (.int .i64 jt20)), (17, (.pointer (some ⟨b_17, 0, none⟩))), (62, (.agg #[(.int .i64 u.os), (.int .i64 u.of), (.slice u.A u.al.length u.c)])), (61, (.pointer (some ⟨b_14, 10, none⟩))), (16, (.pointer (some ⟨b_14, 0, none⟩))), (60, (.agg #[(.int .i64 u.channel), (.int .i64 u.frame), (.int .i64 u.version), (.int .i64 u.item), (.int .i64 u.index), (.bool u.key), (.string u.data), (.int .i64 u.regions), (.int .i64 u.gain), (.string u.caption), (.int .i64 u.os), (.int .i64 u.of), (.slice u.A u.al.length u.c)])), (59, (.pointer (some ⟨bu, ou + j * 13, none⟩))), (58, (.int .i64 ((j : Nat) : Int))), (57, (.slice (some ⟨bu, ou, none⟩) ul.length uc)), (54, (.bool (decide (((j : Nat) : Int) < ((ul.length : Nat) : Int))))), (53, (.int .i64 ((ul.length : Nat) : Int))), (52, (.slice (some ⟨bu, ou, none⟩) ul.length uc)), (51, (.int .i64 ((j : Nat) : Int))), (15, (.int .i64 ((j : Nat) : Int))), (14, (.pointer (some ⟨b_10, 0, none⟩))), (13, (.slice (some ⟨bu, ou, none⟩) ul.length uc)), (11, (.pointer (some ⟨b, 0, none⟩))), (10, (.slice LA 5 lc)), (9, (.bool true)), (8, (.bool false)), (0, (.int .i64 k.region))]) (by kernel_rfl)
            refine then_normal ?_
            exact ⟨false, H.keep (by kernel_rfl), HP, (Lib.hid (fun h => by cases h))⟩
        · have g87p := g87
          refine H.skip 88 (by kernel_rfl) ?_
          intro a H
          refine H.val 89 (.bool false) (by kernel_rfl) (by kernel_rfl) ?_
          intro a H
          refine H.val 90 (.bool false) (by kernel_rfl) (by kernel_rfl) ?_
          intro a H
          refine H.skip 91 (by kernel_rfl) ?_
          intro a H
          refine H.skip 92 (by kernel_rfl) ?_
          intro a H
          refine H.skip 93 (by kernel_rfl) ?_
          intro a H
          refine H.skip 94 (by kernel_rfl) ?_
          intro a H
          refine H.val 95 (.bool false) (by kernel_rfl) (by kernel_rfl) ?_
          intro a H
          refine H.val 96 (.bool false) (by kernel_rfl) (by kernel_rfl) ?_
          intro a H
          refine H.skip 97 (by kernel_rfl) ?_
          intro a H
          refine H.skip 98 (by kernel_rfl) ?_
          intro a H
          refine H.val 99 (.bool false) (by kernel_rfl) (by kernel_rfl) ?_
          intro a H
          refine H.val 100 (.bool false) (by kernel_rfl) (by kernel_rfl) ?_
          intro a H
          refine H.skip 101 (by kernel_rfl) ?_
          intro a H
          refine H.skip 102 (by kernel_rfl) ?_
          intro a H
          refine H.skip 103 (by kernel_rfl) ?_
          intro a H
          refine H.skip 104 (by kernel_rfl) ?_
          intro a H
          refine H.skip 105 (by kernel_rfl) ?_
          intro a H
          refine H.skip 106 (by kernel_rfl) ?_
          intro a H
          refine H.val 107 (.bool false) (by kernel_rfl) (by kernel_rfl) ?_
          intro a H
          refine H.val 108 (.bool false) (by kernel_rfl) (by kernel_rfl) ?_
          intro a H
          refine H.skip 109 (by kernel_rfl) ?_
          intro a H
          refine H.val 110 (.bool false) (by kernel_rfl) (by kernel_rfl) ?_
          intro a H
          refine H.val 111 (.bool false) (by kernel_rfl) (by kernel_rfl) ?_
          intro a H
          refine H.skip 112 (by kernel_rfl) ?_
          intro a H
          refine H.skip 113 (by kernel_rfl) ?_
          intro a H
          refine H.skip 114 (by kernel_rfl) ?_
          intro a H
          refine H.skip 115 (by kernel_rfl) ?_
          intro a H
          refine H.val 116 (.bool false) (by kernel_rfl) (by kernel_rfl) ?_
          intro a H
          refine H.val 24 (.bool false) (by kernel_rfl) (by kernel_rfl) ?_
          intro a H
          refine wpList_nil ?_
          have H := H.keep (L' := [(24, (.bool false)), (23, (.bool ND.isSome)), (22, (.int .i64 nd)), (21, (.bool F.isSome)), (20, (.pointer (some ⟨b_23, 0, none⟩))), (19, (.bool J20.isSome)), (18, (.int .i64 jt20)), (17, (.pointer (some ⟨b_17, 0, none⟩))), (62, (.agg #[(.int .i64 u.os), (.int .i64 u.of), (.slice u.A u.al.length u.c)])), (61, (.pointer (some ⟨b_14, 10, none⟩))), (16, (.pointer (some ⟨b_14, 0, none⟩))), (60, (.agg #[(.int .i64 u.channel), (.int .i64 u.frame), (.int .i64 u.version), (.int .i64 u.item), (.int .i64 u.index), (.bool u.key), (.string u.data), (.int .i64 u.regions), (.int .i64 u.gain), (.string u.caption), (.int .i64 u.os), (.int .i64 u.of), (.slice u.A u.al.length u.c)])), (59, (.pointer (some ⟨bu, ou + j * 13, none⟩))), (58, (.int .i64 ((j : Nat) : Int))), (57, (.slice (some ⟨bu, ou, none⟩) ul.length uc)), (54, (.bool (decide (((j : Nat) : Int) < ((ul.length : Nat) : Int))))), (53, (.int .i64 ((ul.length : Nat) : Int))), (52, (.slice (some ⟨bu, ou, none⟩) ul.length uc)), (51, (.int .i64 ((j : Nat) : Int))), (15, (.int .i64 ((j : Nat) : Int))), (14, (.pointer (some ⟨b_10, 0, none⟩))), (13, (.slice (some ⟨bu, ou, none⟩) ul.length uc)), (11, (.pointer (some ⟨b, 0, none⟩))), (10, (.slice LA 5 lc)), (9, (.bool true)), (8, (.bool false)), (0, (.int .i64 k.region))]) (by kernel_rfl)
          refine then_normal ?_
          exact ⟨false, H.keep (by kernel_rfl), HP, (Lib.hid (fun h => by cases h))⟩
      · have g84p := eq_of_bne_false g84
        refine H.skip 85 (by kernel_rfl) ?_
        intro a H
        refine H.val 86 (.bool false) (by kernel_rfl) (by kernel_rfl) ?_
        intro a H
        refine H.val 87 (.bool false) (by kernel_rfl) (by kernel_rfl) ?_
        intro a H
        refine H.skip 88 (by kernel_rfl) ?_
        intro a H
        refine H.val 89 (.bool false) (by kernel_rfl) (by kernel_rfl) ?_
        intro a H
        refine H.val 90 (.bool false) (by kernel_rfl) (by kernel_rfl) ?_
        intro a H
        refine H.skip 91 (by kernel_rfl) ?_
        intro a H
        refine H.skip 92 (by kernel_rfl) ?_
        intro a H
        refine H.skip 93 (by kernel_rfl) ?_
        intro a H
        refine H.skip 94 (by kernel_rfl) ?_
        intro a H
        refine H.val 95 (.bool false) (by kernel_rfl) (by kernel_rfl) ?_
        intro a H
        refine H.val 96 (.bool false) (by kernel_rfl) (by kernel_rfl) ?_
        intro a H
        refine H.skip 97 (by kernel_rfl) ?_
        intro a H
        refine H.skip 98 (by kernel_rfl) ?_
        intro a H
        refine H.val 99 (.bool false) (by kernel_rfl) (by kernel_rfl) ?_
        intro a H
        refine H.val 100 (.bool false) (by kernel_rfl) (by kernel_rfl) ?_
        intro a H
        refine H.skip 101 (by kernel_rfl) ?_
        intro a H
        refine H.skip 102 (by kernel_rfl) ?_
        intro a H
        refine H.skip 103 (by kernel_rfl) ?_
        intro a H
        refine H.skip 104 (by kernel_rfl) ?_
        intro a H
        refine H.skip 105 (by kernel_rfl) ?_
        intro a H
        refine H.skip 106 (by kernel_rfl) ?_
        intro a H
        refine H.val 107 (.bool false) (by kernel_rfl) (by kernel_rfl) ?_
        intro a H
        refine H.val 108 (.bool false) (by kernel_rfl) (by kernel_rfl) ?_
        intro a H
        refine H.skip 109 (by kernel_rfl) ?_
        intro a H
        refine H.val 110 (.bool false) (by kernel_rfl) (by kernel_rfl) ?_
        intro a H
        refine H.val 111 (.bool false) (by kernel_rfl) (by kernel_rfl) ?_
        intro a H
        refine H.skip 112 (by kernel_rfl) ?_
        intro a H
        refine H.skip 113 (by kernel_rfl) ?_
        intro a H
        refine H.skip 114 (by kernel_rfl) ?_
        intro a H
        refine H.skip 115 (by kernel_rfl) ?_
        intro a H
        refine H.val 116 (.bool false) (by kernel_rfl) (by kernel_rfl) ?_
        intro a H
        refine H.val 24 (.bool false) (by kernel_rfl) (by kernel_rfl) ?_
        intro a H
        refine wpList_nil ?_
        have H := H.keep (L' := [(24, (.bool false)), (23, (.bool ND.isSome)), (22, (.int .i64 nd)), (21, (.bool F.isSome)), (20, (.pointer (some ⟨b_23, 0, none⟩))), (19, (.bool J20.isSome)), (18, (.int .i64 jt20)), (17, (.pointer (some ⟨b_17, 0, none⟩))), (62, (.agg #[(.int .i64 u.os), (.int .i64 u.of), (.slice u.A u.al.length u.c)])), (61, (.pointer (some ⟨b_14, 10, none⟩))), (16, (.pointer (some ⟨b_14, 0, none⟩))), (60, (.agg #[(.int .i64 u.channel), (.int .i64 u.frame), (.int .i64 u.version), (.int .i64 u.item), (.int .i64 u.index), (.bool u.key), (.string u.data), (.int .i64 u.regions), (.int .i64 u.gain), (.string u.caption), (.int .i64 u.os), (.int .i64 u.of), (.slice u.A u.al.length u.c)])), (59, (.pointer (some ⟨bu, ou + j * 13, none⟩))), (58, (.int .i64 ((j : Nat) : Int))), (57, (.slice (some ⟨bu, ou, none⟩) ul.length uc)), (54, (.bool (decide (((j : Nat) : Int) < ((ul.length : Nat) : Int))))), (53, (.int .i64 ((ul.length : Nat) : Int))), (52, (.slice (some ⟨bu, ou, none⟩) ul.length uc)), (51, (.int .i64 ((j : Nat) : Int))), (15, (.int .i64 ((j : Nat) : Int))), (14, (.pointer (some ⟨b_10, 0, none⟩))), (13, (.slice (some ⟨bu, ou, none⟩) ul.length uc)), (11, (.pointer (some ⟨b, 0, none⟩))), (10, (.slice LA 5 lc)), (9, (.bool true)), (8, (.bool false)), (0, (.int .i64 k.region))]) (by kernel_rfl)
        refine then_normal ?_
        exact ⟨false, H.keep (by kernel_rfl), HP, (Lib.hid (fun h => by cases h))⟩
    ·
      rintro a w_31 ⟨rd0, H, HP, hrd⟩
      refine w_cut (fun a wv => ∃ (rd1 : Bool), Sl 209 [(0, (.int .i64 k.region)), (8, (.bool false)), (9, (.bool true)), (10, (.slice LA 5 lc)), (11, (.pointer (some ⟨b, 0, none⟩))), (13, (.slice (some ⟨bu, ou, none⟩) ul.length uc)), (14, (.pointer (some ⟨b_10, 0, none⟩))), (15, (.int .i64 ((j : Nat) : Int))), (16, (.pointer (some ⟨b_14, 0, none⟩))), (17, (.pointer (some ⟨b_17, 0, none⟩))), (18, (.int .i64 jt20)), (24, (.bool rd1))] a ∧ Hp w wv [bx b_23 49 [(.int .i64 fa.item), (.slice fa.A fa.pics.length fa.c)] true, bx b_17 44 [(.int .i64 u.os), (.int .i64 u.of), (.slice u.A u.al.length u.c)] true, bx b_14 46 [(.int .i64 u.channel), (.int .i64 u.frame), (.int .i64 u.version), (.int .i64 u.item), (.int .i64 u.index), (.bool u.key), (.string u.data), (.int .i64 u.regions), (.int .i64 u.gain), (.string u.caption), (.int .i64 u.os), (.int .i64 u.of), (.slice u.A u.al.length u.c)] true, (unitsR (some ⟨bu, ou, none⟩) ul), (splR b k (stAt k us j) NA nc), (astsR LA 5 lib), bx b_10 44 [(.int .i64 T1.s), (.int .i64 T1.f), (.slice T1.A T1.al.length T1.c)] true] [] ∧ (Hid (rd1 = true → rd0 = true ∧ ∀ q, j - 10 ≤ q → q < j → annU k.region jt20 j (us.getD q (slateS 0))))) ?_ ?_
      ·
        refine wp_seq ?_
        refine w_region ?_
        refine H.val 117 (.int .i64 ((j : Nat) : Int)) (by kernel_rfl) (by kernel_rfl) ?_
        intro a H
        refine H.valE 118 (.int .i64 (IntKind.i64.wrap (((j : Nat) : Int) - 10))) (.int .i64 (((j : Nat) : Int) - 10)) (by kernel_rfl) (by kernel_rfl) ((by rw [wrap_ini64 _ (by omega)])) ?_
        intro a H
        refine H.val 25 (.int .i64 (((j : Nat) : Int) - 10)) (by kernel_rfl) (by kernel_rfl) ?_
        intro a H
        refine wpList_nil ?_
        refine then_normal ?_
        refine wp_block ?_
        have H := H.as 25 (.int .i64 (((j : Nat) : Int) - 10 + ((0 : Nat) : Int))) rfl (congrArg (Value.int .i64) (by omega))
        refine w_loop (fun mm a wv => ∃ (m : Nat), ∃ (rd : Bool), 10 - m = mm ∧ Sl 209 [(25, (.int .i64 (((j : Nat) : Int) - 10 + ((m : Nat) : Int)))), (24, (.bool rd)), (0, (.int .i64 k.region)), (8, (.bool false)), (9, (.bool true)), (10, (.slice LA 5 lc)), (11, (.pointer (some ⟨b, 0, none⟩))), (13, (.slice (some ⟨bu, ou, none⟩) ul.length uc)), (14, (.pointer (some ⟨b_10, 0, none⟩))), (15, (.int .i64 ((j : Nat) : Int))), (16, (.pointer (some ⟨b_14, 0, none⟩))), (17, (.pointer (some ⟨b_17, 0, none⟩))), (18, (.int .i64 jt20))] a ∧ Hp w wv [bx b_23 49 [(.int .i64 fa.item), (.slice fa.A fa.pics.length fa.c)] true, bx b_17 44 [(.int .i64 u.os), (.int .i64 u.of), (.slice u.A u.al.length u.c)] true, bx b_14 46 [(.int .i64 u.channel), (.int .i64 u.frame), (.int .i64 u.version), (.int .i64 u.item), (.int .i64 u.index), (.bool u.key), (.string u.data), (.int .i64 u.regions), (.int .i64 u.gain), (.string u.caption), (.int .i64 u.os), (.int .i64 u.of), (.slice u.A u.al.length u.c)] true, (unitsR (some ⟨bu, ou, none⟩) ul), (splR b k (stAt k us j) NA nc), (astsR LA 5 lib), bx b_10 44 [(.int .i64 T1.s), (.int .i64 T1.f), (.slice T1.A T1.al.length T1.c)] true] [] ∧ (m ≤ 10) ∧ (Hid (rd = true → rd0 = true ∧ ∀ q, j - 10 ≤ q → q < j - 10 + m → annU k.region jt20 j (us.getD q (slateS 0))))) (10 - 0) ?_ ?_
        · exact ⟨0, rd0, (by omega), H.keep (by kernel_rfl), HP, by omega, (Lib.hid (fun h => ⟨h, fun q h1 h2 => by omega⟩))⟩
        rintro mm a w_32 ⟨m, rd, hmeas, H, HP, hm, hann⟩
        refine wp_seq ?_
        refine wp_seq ?_
        refine w_region ?_
        refine H.val 119 (.int .i64 (((j : Nat) : Int) - 10 + ((m : Nat) : Int))) (by kernel_rfl) (by kernel_rfl) ?_
        intro a H
        refine H.val 120 (.int .i64 ((j : Nat) : Int)) (by kernel_rfl) (by kernel_rfl) ?_
        intro a H
        refine H.val 121 (.bool (decide ((((j : Nat) : Int) - 10 + ((m : Nat) : Int)) < ((j : Nat) : Int)))) (by kernel_rfl) (by kernel_rfl) ?_
        intro a H
        refine H.val 122 (.bool (decide ((((j : Nat) : Int) - 10 + ((m : Nat) : Int)) < ((j : Nat) : Int)))) (by kernel_rfl) (by kernel_rfl) ?_
        intro a H
        refine H.split 122 rfl (fun g122 H => ?_) (fun g122 H => ?_)
        · have g122p := of_decide_eq_true g122
          refine H.val 123 (.bool rd) (by kernel_rfl) (by kernel_rfl) ?_
          intro a H
          refine H.val 124 (.bool rd) (by kernel_rfl) (by kernel_rfl) ?_
          intro a H
          refine wpList_nil ?_
          have H := H.keep (L' := [(124, (.bool rd)), (25, (.int .i64 (((j : Nat) : Int) - 10 + ((m : Nat) : Int)))), (24, (.bool rd)), (0, (.int .i64 k.region)), (8, (.bool false)), (9, (.bool true)), (10, (.slice LA 5 lc)), (11, (.pointer (some ⟨b, 0, none⟩))), (13, (.slice (some ⟨bu, ou, none⟩) ul.length uc)), (14, (.pointer (some ⟨b_10, 0, none⟩))), (15, (.int .i64 ((j : Nat) : Int))), (16, (.pointer (some ⟨b_14, 0, none⟩))), (17, (.pointer (some ⟨b_17, 0, none⟩))), (18, (.int .i64 jt20))]) (by kernel_rfl)
          refine then_normal ?_
          refine w_if H rfl (fun g124 => ?_) (fun g124 => ?_)
          · have g124p := g124
            refine wp_skip ?_
            refine then_normal ?_
            refine wp_seq ?_
            refine wp_block ?_
            refine wp_seq ?_
            have g122r : rd = true := g124
            obtain ⟨hrd1, _⟩ := hann.out g122r
            have h10 := (hrd.out hrd1).2.2.2.2.1
            obtain ⟨q, hq⟩ : ∃ q, j - 10 + m = q := ⟨_, rfl⟩
            obtain ⟨x, hx⟩ : ∃ x, ul.getD q (slateA 0) = x := ⟨_, rfl⟩
            obtain ⟨bu2, ou2, hUA2, _, pcx, hxo, hmx⟩ := IsUnits.get (HP.held 3 rfl) (j := q) (by omega)
            obtain ⟨rfl, rfl⟩ : bu = bu2 ∧ ou = ou2 := by simpa using hUA2
            rw [hx] at pcx hxo hmx
            have hspx := feed_spec huspec (j := q) (by omega) hx
            refine w_region ?_
            refine H.val 128 (.slice (some ⟨bu, ou, none⟩) ul.length uc) (by kernel_rfl) (by kernel_rfl) ?_
            intro a H
            refine H.val 129 (.int .i64 (((j : Nat) : Int) - 10 + ((m : Nat) : Int))) (by kernel_rfl) (by kernel_rfl) ?_
            intro a H
            refine H.val 130 (.pointer (some ⟨bu, ou + q * 13, none⟩)) (by kernel_rfl) (ex_index (b := bu) (off := ou) (len := ul.length) (cap := uc) (e := 46) (k := 13) (ik := .i64) (i := (((j : Nat) : Int) - 10 + ((m : Nat) : Int))) (m := q) (by kernel_rfl) (by kernel_rfl) (by omega) (by omega) (by kernel_rfl) (by kernel_rfl)) ?_
            intro a H
            refine H.val 131 (.pointer (some ⟨bu, ou + q * 13 + 10, none⟩)) (by kernel_rfl) (by kernel_rfl) ?_
            intro a H
            refine H.val 132 (.agg #[(.int .i64 x.os), (.int .i64 x.of), (.slice x.A x.al.length x.c)]) (by kernel_rfl) (ex_loadN (vs := [(.int .i64 x.os), (.int .i64 x.of), (.slice x.A x.al.length x.c)]) (by kernel_rfl) (by kernel_rfl) (by kernel_rfl) rfl (cells3 (pcx.2.2.2.2.2.2.2.2.2.2.1) (pcx.2.2.2.2.2.2.2.2.2.2.2.1) (pcx.2.2.2.2.2.2.2.2.2.2.2.2))) ?_
            intro a H
            refine H.val 133 (.int .i64 k.region) (by kernel_rfl) (by kernel_rfl) ?_
            intro a H
            obtain ⟨J33, hJ33⟩ : ∃ J, itemP k.region x.al = J := ⟨_, rfl⟩
            obtain ⟨jt33, hjt33⟩ : ∃ j, J33.getD 0 = j := ⟨_, rfl⟩
            refine H.call 134 (by kernel_rfl) (Eq.trans (by kernel_rfl : _ = (callFunc 18 #[(.agg #[(.int .i64 x.os), (.int .i64 x.of), (.slice x.A x.al.length x.c)]), (.int .i64 k.region)]).run Try.prog w_32) (Try.call18 _ _)) ((by have hh := ritem_any x.os x.of x.A x.al.length x.c x.al k.region w_32 ((HP.held 3 rfl).2 x hmx).1 ((HP.held 3 rfl).2 x hmx).2.1; rw [hJ33, hjt33] at hh; exact hh)) ?_
            rintro e w_34 ⟨rfl, hb⟩
            refine ⟨_, rfl, ?_⟩
            intro a H
            have HP := HP.next hb
            refine H.val 127 (.tuple #[(.int .i64 jt33), (.bool J33.isSome)]) (by kernel_rfl) (by kernel_rfl) ?_
            intro a H
            refine H.val 135 (.int .i64 jt33) (by kernel_rfl) (by kernel_rfl) ?_
            intro a H
            refine H.val 136 (.bool J33.isSome) (by kernel_rfl) (by kernel_rfl) ?_
            intro a H
            refine H.val 26 (.int .i64 jt33) (by kernel_rfl) (by kernel_rfl) ?_
            intro a H
            refine H.val 27 (.bool J33.isSome) (by kernel_rfl) (by kernel_rfl) ?_
            intro a H
            refine wpList_nil ?_
            have H := H.keep (L' := [(27, (.bool J33.isSome)), (26, (.int .i64 jt33)), (124, (.bool rd)), (25, (.int .i64 (((j : Nat) : Int) - 10 + ((m : Nat) : Int)))), (24, (.bool rd)), (0, (.int .i64 k.region)), (8, (.bool false)), (9, (.bool true)), (10, (.slice LA 5 lc)), (11, (.pointer (some ⟨b, 0, none⟩))), (13, (.slice (some ⟨bu, ou, none⟩) ul.length uc)), (14, (.pointer (some ⟨b_10, 0, none⟩))), (15, (.int .i64 ((j : Nat) : Int))), (16, (.pointer (some ⟨b_14, 0, none⟩))), (17, (.pointer (some ⟨b_17, 0, none⟩))), (18, (.int .i64 jt20))]) (by kernel_rfl)
            refine then_normal ?_
            obtain ⟨bu2, ou2, hUA2, _, pcx, hxo, hmx⟩ := IsUnits.get (HP.held 3 rfl) (j := q) (by omega)
            obtain ⟨rfl, rfl⟩ : bu = bu2 ∧ ou = ou2 := by simpa using hUA2
            rw [hx] at pcx hxo hmx
            refine w_region ?_
            refine H.val 137 (.slice (some ⟨bu, ou, none⟩) ul.length uc) (by kernel_rfl) (by kernel_rfl) ?_
            intro a H
            refine H.val 138 (.int .i64 (((j : Nat) : Int) - 10 + ((m : Nat) : Int))) (by kernel_rfl) (by kernel_rfl) ?_
            intro a H
            refine H.val 139 (.pointer (some ⟨bu, ou + q * 13, none⟩)) (by kernel_rfl) (ex_index (b := bu) (off := ou) (len := ul.length) (cap := uc) (e := 46) (k := 13) (ik := .i64) (i := (((j : Nat) : Int) - 10 + ((m : Nat) : Int))) (m := q) (by kernel_rfl) (by kernel_rfl) (by omega) (by omega) (by kernel_rfl) (by kernel_rfl)) ?_
            intro a H
            refine H.val 140 (.pointer (some ⟨bu, ou + q * 13 + 3, none⟩)) (by kernel_rfl) (by kernel_rfl) ?_
            intro a H
            refine H.val 141 (.int .i64 x.item) (by kernel_rfl) (ex_load1 (by kernel_rfl) (by kernel_rfl) (pcx.2.2.2.1)) ?_
            intro a H
            refine H.val 142 (.bool (x.item != 0)) (by kernel_rfl) (by kernel_rfl) ?_
            intro a H
            refine H.val 143 (.bool (x.item != 0)) (by kernel_rfl) (by kernel_rfl) ?_
            intro a H
            refine H.split 143 rfl (fun g143 H => ?_) (fun g143 H => ?_)
            · have g143p := bne_iff_ne.1 g143
              refine H.val 144 (.bool J33.isSome) (by kernel_rfl) (by kernel_rfl) ?_
              intro a H
              refine H.val 145 (.bool J33.isSome) (by kernel_rfl) (by kernel_rfl) ?_
              intro a H
              refine H.val 146 (.bool J33.isSome) (by kernel_rfl) (by kernel_rfl) ?_
              intro a H
              refine H.split 146 rfl (fun g146 H => ?_) (fun g146 H => ?_)
              · have g146p := g146
                refine H.val 147 (.int .i64 jt33) (by kernel_rfl) (by kernel_rfl) ?_
                intro a H
                refine H.val 148 (.int .i64 jt20) (by kernel_rfl) (by kernel_rfl) ?_
                intro a H
                refine H.val 149 (.bool (jt33 == jt20)) (by kernel_rfl) (by kernel_rfl) ?_
                intro a H
                refine H.val 150 (.bool (jt33 == jt20)) (by kernel_rfl) (by kernel_rfl) ?_
                intro a H
                refine H.val 151 (.bool (jt33 == jt20)) (by kernel_rfl) (by kernel_rfl) ?_
                intro a H
                refine H.split 151 rfl (fun g151 H => ?_) (fun g151 H => ?_)
                · have g151p := eq_of_beq g151
                  refine H.val 152 (.slice (some ⟨bu, ou, none⟩) ul.length uc) (by kernel_rfl) (by kernel_rfl) ?_
                  intro a H
                  refine H.val 153 (.int .i64 (((j : Nat) : Int) - 10 + ((m : Nat) : Int))) (by kernel_rfl) (by kernel_rfl) ?_
                  intro a H
                  refine H.val 154 (.pointer (some ⟨bu, ou + q * 13, none⟩)) (by kernel_rfl) (ex_index (b := bu) (off := ou) (len := ul.length) (cap := uc) (e := 46) (k := 13) (ik := .i64) (i := (((j : Nat) : Int) - 10 + ((m : Nat) : Int))) (m := q) (by kernel_rfl) (by kernel_rfl) (by omega) (by omega) (by kernel_rfl) (by kernel_rfl)) ?_
                  intro a H
                  refine H.val 155 (.pointer (some ⟨bu, ou + q * 13 + 10, none⟩)) (by kernel_rfl) (by kernel_rfl) ?_
                  intro a H
                  refine H.val 156 (.pointer (some ⟨bu, ou + q * 13 + 10, none⟩)) (by kernel_rfl) (by kernel_rfl) ?_
                  intro a H
                  refine H.val 157 (.int .i64 x.os) (by kernel_rfl) (ex_load1 (by kernel_rfl) (by kernel_rfl) (pcx.2.2.2.2.2.2.2.2.2.2.1)) ?_
                  intro a H
                  refine H.val 158 (.int .i64 ((j : Nat) : Int)) (by kernel_rfl) (by kernel_rfl) ?_
                  intro a H
                  refine H.val 159 (.bool (x.os == ((j : Nat) : Int))) (by kernel_rfl) (by kernel_rfl) ?_
                  intro a H
                  refine H.val 160 (.bool (x.os == ((j : Nat) : Int))) (by kernel_rfl) (by kernel_rfl) ?_
                  intro a H
                  refine H.val 24 (.bool (x.os == ((j : Nat) : Int))) (by kernel_rfl) (by kernel_rfl) ?_
                  intro a H
                  refine wpList_nil ?_
                  have H := H.keep (L' := [(24, (.bool (x.os == ((j : Nat) : Int)))), (27, (.bool J33.isSome)), (26, (.int .i64 jt33)), (124, (.bool rd)), (25, (.int .i64 (((j : Nat) : Int) - 10 + ((m : Nat) : Int)))), (0, (.int .i64 k.region)), (8, (.bool false)), (9, (.bool true)), (10, (.slice LA 5 lc)), (11, (.pointer (some ⟨b, 0, none⟩))), (13, (.slice (some ⟨bu, ou, none⟩) ul.length uc)), (14, (.pointer (some ⟨b_10, 0, none⟩))), (15, (.int .i64 ((j : Nat) : Int))), (16, (.pointer (some ⟨b_14, 0, none⟩))), (17, (.pointer (some ⟨b_17, 0, none⟩))), (18, (.int .i64 jt20))]) (by kernel_rfl)
                  refine inb_normal ?_
                  refine then_normal ?_
                  refine w_region ?_
                  refine H.val 125 (.int .i64 (((j : Nat) : Int) - 10 + ((m : Nat) : Int))) (by kernel_rfl) (by kernel_rfl) ?_
                  intro a H
                  refine H.valE 126 (.int .i64 (IntKind.i64.wrap ((((j : Nat) : Int) - 10 + ((m : Nat) : Int)) + 1))) (.int .i64 ((((j : Nat) : Int) - 10 + ((m : Nat) : Int)) + 1)) (by kernel_rfl) (by kernel_rfl) ((by rw [wrap_ini64 _ (by omega)])) ?_
                  intro a H
                  refine H.val 25 (.int .i64 ((((j : Nat) : Int) - 10 + ((m : Nat) : Int)) + 1)) (by kernel_rfl) (by kernel_rfl) ?_
                  intro a H
                  refine wpList_nil ?_
                  refine then_normal ?_
                  have H := H.as 25 (.int .i64 (((j : Nat) : Int) - 10 + ((m + 1 : Nat) : Int))) rfl (congrArg (Value.int .i64) (by omega))
                  refine ⟨_, ?_, m + 1, x.os == ((j : Nat) : Int), rfl, H.keep (by kernel_rfl), HP, by omega, (Lib.hid (fun h => ⟨hrd1, fun q2 h1 h2 => by rcases Nat.lt_or_ge q2 q with hlt | hge; exact (hann.out g122r).2 q2 h1 (by omega); obtain rfl : q2 = q := (by omega); rw [← hspx]; exact ⟨g143p, by have e := itemP_of hJ33 hjt33 g146p; rw [g151p] at e; exact e, eq_of_beq h⟩⟩))⟩
                  omega
                · have g151p := ne_of_beq_false g151
                  refine H.skip 152 (by kernel_rfl) ?_
                  intro a H
                  refine H.skip 153 (by kernel_rfl) ?_
                  intro a H
                  refine H.skip 154 (by kernel_rfl) ?_
                  intro a H
                  refine H.skip 155 (by kernel_rfl) ?_
                  intro a H
                  refine H.skip 156 (by kernel_rfl) ?_
                  intro a H
                  refine H.skip 157 (by kernel_rfl) ?_
                  intro a H
                  refine H.skip 158 (by kernel_rfl) ?_
                  intro a H
                  refine H.skip 159 (by kernel_rfl) ?_
                  intro a H
                  refine H.val 160 (.bool false) (by kernel_rfl) (by kernel_rfl) ?_
                  intro a H
                  refine H.val 24 (.bool false) (by kernel_rfl) (by kernel_rfl) ?_
                  intro a H
                  refine wpList_nil ?_
                  have H := H.keep (L' := [(24, (.bool false)), (27, (.bool J33.isSome)), (26, (.int .i64 jt33)), (124, (.bool rd)), (25, (.int .i64 (((j : Nat) : Int) - 10 + ((m : Nat) : Int)))), (0, (.int .i64 k.region)), (8, (.bool false)), (9, (.bool true)), (10, (.slice LA 5 lc)), (11, (.pointer (some ⟨b, 0, none⟩))), (13, (.slice (some ⟨bu, ou, none⟩) ul.length uc)), (14, (.pointer (some ⟨b_10, 0, none⟩))), (15, (.int .i64 ((j : Nat) : Int))), (16, (.pointer (some ⟨b_14, 0, none⟩))), (17, (.pointer (some ⟨b_17, 0, none⟩))), (18, (.int .i64 jt20))]) (by kernel_rfl)
                  refine inb_normal ?_
                  refine then_normal ?_
                  refine w_region ?_
                  refine H.val 125 (.int .i64 (((j : Nat) : Int) - 10 + ((m : Nat) : Int))) (by kernel_rfl) (by kernel_rfl) ?_
                  intro a H
                  refine H.valE 126 (.int .i64 (IntKind.i64.wrap ((((j : Nat) : Int) - 10 + ((m : Nat) : Int)) + 1))) (.int .i64 ((((j : Nat) : Int) - 10 + ((m : Nat) : Int)) + 1)) (by kernel_rfl) (by kernel_rfl) ((by rw [wrap_ini64 _ (by omega)])) ?_
                  intro a H
                  refine H.val 25 (.int .i64 ((((j : Nat) : Int) - 10 + ((m : Nat) : Int)) + 1)) (by kernel_rfl) (by kernel_rfl) ?_
                  intro a H
                  refine wpList_nil ?_
                  refine then_normal ?_
                  have H := H.as 25 (.int .i64 (((j : Nat) : Int) - 10 + ((m + 1 : Nat) : Int))) rfl (congrArg (Value.int .i64) (by omega))
                  refine ⟨_, ?_, m + 1, false, rfl, H.keep (by kernel_rfl), HP, by omega, (Lib.hid (fun h => by cases h))⟩
                  omega
              · have g146p := g146
                refine H.skip 147 (by kernel_rfl) ?_
                intro a H
                refine H.skip 148 (by kernel_rfl) ?_
                intro a H
                refine H.skip 149 (by kernel_rfl) ?_
                intro a H
                refine H.val 150 (.bool false) (by kernel_rfl) (by kernel_rfl) ?_
                intro a H
                refine H.val 151 (.bool false) (by kernel_rfl) (by kernel_rfl) ?_
                intro a H
                refine H.skip 152 (by kernel_rfl) ?_
                intro a H
                refine H.skip 153 (by kernel_rfl) ?_
                intro a H
                refine H.skip 154 (by kernel_rfl) ?_
                intro a H
                refine H.skip 155 (by kernel_rfl) ?_
                intro a H
                refine H.skip 156 (by kernel_rfl) ?_
                intro a H
                refine H.skip 157 (by kernel_rfl) ?_
                intro a H
                refine H.skip 158 (by kernel_rfl) ?_
                intro a H
                refine H.skip 159 (by kernel_rfl) ?_
                intro a H
                refine H.val 160 (.bool false) (by kernel_rfl) (by kernel_rfl) ?_
                intro a H
                refine H.val 24 (.bool false) (by kernel_rfl) (by kernel_rfl) ?_
                intro a H
                refine wpList_nil ?_
                have H := H.keep (L' := [(24, (.bool false)), (27, (.bool J33.isSome)), (26, (.int .i64 jt33)), (124, (.bool rd)), (25, (.int .i64 (((j : Nat) : Int) - 10 + ((m : Nat) : Int)))), (0, (.int .i64 k.region)), (8, (.bool false)), (9, (.bool true)), (10, (.slice LA 5 lc)), (11, (.pointer (some ⟨b, 0, none⟩))), (13, (.slice (some ⟨bu, ou, none⟩) ul.length uc)), (14, (.pointer (some ⟨b_10, 0, none⟩))), (15, (.int .i64 ((j : Nat) : Int))), (16, (.pointer (some ⟨b_14, 0, none⟩))), (17, (.pointer (some ⟨b_17, 0, none⟩))), (18, (.int .i64 jt20))]) (by kernel_rfl)
                refine inb_normal ?_
                refine then_normal ?_
                refine w_region ?_
                refine H.val 125 (.int .i64 (((j : Nat) : Int) - 10 + ((m : Nat) : Int))) (by kernel_rfl) (by kernel_rfl) ?_
                intro a H
                refine H.valE 126 (.int .i64 (IntKind.i64.wrap ((((j : Nat) : Int) - 10 + ((m : Nat) : Int)) + 1))) (.int .i64 ((((j : Nat) : Int) - 10 + ((m : Nat) : Int)) + 1)) (by kernel_rfl) (by kernel_rfl) ((by rw [wrap_ini64 _ (by omega)])) ?_
                intro a H
                refine H.val 25 (.int .i64 ((((j : Nat) : Int) - 10 + ((m : Nat) : Int)) + 1)) (by kernel_rfl) (by kernel_rfl) ?_
                intro a H
                refine wpList_nil ?_
                refine then_normal ?_
                have H := H.as 25 (.int .i64 (((j : Nat) : Int) - 10 + ((m + 1 : Nat) : Int))) rfl (congrArg (Value.int .i64) (by omega))
                refine ⟨_, ?_, m + 1, false, rfl, H.keep (by kernel_rfl), HP, by omega, (Lib.hid (fun h => by cases h))⟩
                omega
            · have g143p := eq_of_bne_false g143
              refine H.skip 144 (by kernel_rfl) ?_
              intro a H
              refine H.val 145 (.bool false) (by kernel_rfl) (by kernel_rfl) ?_
              intro a H
              refine H.val 146 (.bool false) (by kernel_rfl) (by kernel_rfl) ?_
              intro a H
              refine H.skip 147 (by kernel_rfl) ?_
              intro a H
              refine H.skip 148 (by kernel_rfl) ?_
              intro a H
              refine H.skip 149 (by kernel_rfl) ?_
              intro a H
              refine H.val 150 (.bool false) (by kernel_rfl) (by kernel_rfl) ?_
              intro a H
              refine H.val 151 (.bool false) (by kernel_rfl) (by kernel_rfl) ?_
              intro a H
              refine H.skip 152 (by kernel_rfl) ?_
              intro a H
              refine H.skip 153 (by kernel_rfl) ?_
              intro a H
              refine H.skip 154 (by kernel_rfl) ?_
              intro a H
              refine H.skip 155 (by kernel_rfl) ?_
              intro a H
              refine H.skip 156 (by kernel_rfl) ?_
              intro a H
              refine H.skip 157 (by kernel_rfl) ?_
              intro a H
              refine H.skip 158 (by kernel_rfl) ?_
              intro a H
              refine H.skip 159 (by kernel_rfl) ?_
              intro a H
              refine H.val 160 (.bool false) (by kernel_rfl) (by kernel_rfl) ?_
              intro a H
              refine H.val 24 (.bool false) (by kernel_rfl) (by kernel_rfl) ?_
              intro a H
              refine wpList_nil ?_
              have H := H.keep (L' := [(24, (.bool false)), (27, (.bool J33.isSome)), (26, (.int .i64 jt33)), (124, (.bool rd)), (25, (.int .i64 (((j : Nat) : Int) - 10 + ((m : Nat) : Int)))), (0, (.int .i64 k.region)), (8, (.bool false)), (9, (.bool true)), (10, (.slice LA 5 lc)), (11, (.pointer (some ⟨b, 0, none⟩))), (13, (.slice (some ⟨bu, ou, none⟩) ul.length uc)), (14, (.pointer (some ⟨b_10, 0, none⟩))), (15, (.int .i64 ((j : Nat) : Int))), (16, (.pointer (some ⟨b_14, 0, none⟩))), (17, (.pointer (some ⟨b_17, 0, none⟩))), (18, (.int .i64 jt20))]) (by kernel_rfl)
              refine inb_normal ?_
              refine then_normal ?_
              refine w_region ?_
              refine H.val 125 (.int .i64 (((j : Nat) : Int) - 10 + ((m : Nat) : Int))) (by kernel_rfl) (by kernel_rfl) ?_
              intro a H
              refine H.valE 126 (.int .i64 (IntKind.i64.wrap ((((j : Nat) : Int) - 10 + ((m : Nat) : Int)) + 1))) (.int .i64 ((((j : Nat) : Int) - 10 + ((m : Nat) : Int)) + 1)) (by kernel_rfl) (by kernel_rfl) ((by rw [wrap_ini64 _ (by omega)])) ?_
              intro a H
              refine H.val 25 (.int .i64 ((((j : Nat) : Int) - 10 + ((m : Nat) : Int)) + 1)) (by kernel_rfl) (by kernel_rfl) ?_
              intro a H
              refine wpList_nil ?_
              refine then_normal ?_
              have H := H.as 25 (.int .i64 (((j : Nat) : Int) - 10 + ((m + 1 : Nat) : Int))) rfl (congrArg (Value.int .i64) (by omega))
              refine ⟨_, ?_, m + 1, false, rfl, H.keep (by kernel_rfl), HP, by omega, (Lib.hid (fun h => by cases h))⟩
              omega
          · have g124p := g124
            refine wp_exit ?_
            refine then_exit ?_
            refine then_exit ?_
            refine w_exit_here ?_
            refine then_normal ?_
            exact ⟨rd, H.keep (by kernel_rfl), HP, (Lib.hid (fun h => by rw [h] at g124; cases g124))⟩
        · have g122p := of_decide_eq_false g122
          refine H.skip 123 (by kernel_rfl) ?_
          intro a H
          refine H.val 124 (.bool false) (by kernel_rfl) (by kernel_rfl) ?_
          intro a H
          refine wpList_nil ?_
          have H := H.keep (L' := [(124, (.bool false)), (25, (.int .i64 (((j : Nat) : Int) - 10 + ((m : Nat) : Int)))), (24, (.bool rd)), (0, (.int .i64 k.region)), (8, (.bool false)), (9, (.bool true)), (10, (.slice LA 5 lc)), (11, (.pointer (some ⟨b, 0, none⟩))), (13, (.slice (some ⟨bu, ou, none⟩) ul.length uc)), (14, (.pointer (some ⟨b_10, 0, none⟩))), (15, (.int .i64 ((j : Nat) : Int))), (16, (.pointer (some ⟨b_14, 0, none⟩))), (17, (.pointer (some ⟨b_17, 0, none⟩))), (18, (.int .i64 jt20))]) (by kernel_rfl)
          refine then_normal ?_
          refine w_iff H rfl ?_
          refine wp_exit ?_
          refine then_exit ?_
          refine then_exit ?_
          refine w_exit_here ?_
          refine then_normal ?_
          exact ⟨rd, H.keep (by kernel_rfl), HP, (Lib.hid (fun h => ⟨(hann.out h).1, fun q h1 h2 => (hann.out h).2 q h1 (by have := g122p; omega)⟩))⟩
      ·
        rintro a w_35 ⟨rd1, H, HP, hann⟩
        refine wp_seq ?_
        refine w_region ?_
        refine H.val 161 (.pointer (some ⟨b, 0, none⟩)) (by kernel_rfl) (by kernel_rfl) ?_
        intro a H
        refine H.val 162 (.agg #[(.int .i64 u.channel), (.int .i64 u.frame), (.int .i64 u.version), (.int .i64 u.item), (.int .i64 u.index), (.bool u.key), (.string u.data), (.int .i64 u.regions), (.int .i64 u.gain), (.string u.caption), (.int .i64 u.os), (.int .i64 u.of), (.slice u.A u.al.length u.c)]) (by kernel_rfl) (ex_loadN (vs := [(.int .i64 u.channel), (.int .i64 u.frame), (.int .i64 u.version), (.int .i64 u.item), (.int .i64 u.index), (.bool u.key), (.string u.data), (.int .i64 u.regions), (.int .i64 u.gain), (.string u.caption), (.int .i64 u.os), (.int .i64 u.of), (.slice u.A u.al.length u.c)]) (by kernel_rfl) (by kernel_rfl) (by kernel_rfl) rfl (HP.cells 2 rfl 0 13 (by kernel_rfl))) ?_
        intro a H
        refine H.call 163 (by kernel_rfl) (Eq.trans (by kernel_rfl : _ = (callFunc 14 #[(.pointer (some ⟨b, 0, none⟩)), (.agg #[(.int .i64 u.channel), (.int .i64 u.frame), (.int .i64 u.version), (.int .i64 u.item), (.int .i64 u.index), (.bool u.key), (.string u.data), (.int .i64 u.regions), (.int .i64 u.gain), (.string u.caption), (.int .i64 u.os), (.int .i64 u.of), (.slice u.A u.al.length u.c)])]).run Try.prog w_35) (Try.call14 _ _)) (step_any b k (stAt k us j) u w_35 NA nc (HP.held 4 rfl) ((HP.held 3 rfl).2 u hmu) (fun jj hj e => pairwise_at HP.apart (i := 3) (j := 4) rfl rfl (by omega) jj (.inr ⟨u, hmu, hj⟩) (.inl e)) (by rw [hkr]; omega) (by rw [hkr]; omega) hinv) ?_
        rintro e w_38 ⟨rfl, NB_36, cB_37, hsp, hq, hg⟩
        rw [hp, hv]; refine ⟨_, rfl, ?_⟩
        intro a H
        have HP := HP.stepped 4 rfl [bx b_23 49 [(.int .i64 fa.item), (.slice fa.A fa.pics.length fa.c)] true, bx b_17 44 [(.int .i64 u.os), (.int .i64 u.of), (.slice u.A u.al.length u.c)] true, bx b_14 46 [(.int .i64 u.channel), (.int .i64 u.frame), (.int .i64 u.version), (.int .i64 u.item), (.int .i64 u.index), (.bool u.key), (.string u.data), (.int .i64 u.regions), (.int .i64 u.gain), (.string u.caption), (.int .i64 u.os), (.int .i64 u.of), (.slice u.A u.al.length u.c)] true, (unitsR (some ⟨bu, ou, none⟩) ul), (splR b k (stepS k (stAt k us j) u).2.2 NB_36 cB_37), (astsR LA 5 lib), bx b_10 44 [(.int .i64 T1.s), (.int .i64 T1.f), (.slice T1.A T1.al.length T1.c)] true] (by kernel_rfl) hsp hq hg
        refine H.alloc HP 28 (fun b => (.pointer (some ⟨b, 0, none⟩))) 36 [(.int .i64 0), (.int .i64 0), (.int .i64 0)] (by kernel_rfl) (fun w => by kernel_rfl) ?_
        intro b_39 w_40 a H HP
        refine H.store HP 0 b_39 0 3 36 [(.int .i64 0), (.int .i64 0), (.int .i64 0)] true (.agg #[(.int .i64 p.item), (.int .i64 p.index), (.int .i64 v)]) [bx b_39 36 [(.int .i64 p.item), (.int .i64 p.index), (.int .i64 v)] true, bx b_23 49 [(.int .i64 fa.item), (.slice fa.A fa.pics.length fa.c)] true, bx b_17 44 [(.int .i64 u.os), (.int .i64 u.of), (.slice u.A u.al.length u.c)] true, bx b_14 46 [(.int .i64 u.channel), (.int .i64 u.frame), (.int .i64 u.version), (.int .i64 u.item), (.int .i64 u.index), (.bool u.key), (.string u.data), (.int .i64 u.regions), (.int .i64 u.gain), (.string u.caption), (.int .i64 u.os), (.int .i64 u.of), (.slice u.A u.al.length u.c)] true, (unitsR (some ⟨bu, ou, none⟩) ul), (splR b k (stepS k (stAt k us j) u).2.2 NB_36 cB_37), (astsR LA 5 lib), bx b_10 44 [(.int .i64 T1.s), (.int .i64 T1.f), (.slice T1.A T1.al.length T1.c)] true] (by kernel_rfl) (by kernel_rfl) (by kernel_rfl) rfl (by kernel_rfl) (by kernel_rfl) (by kernel_rfl) (by kernel_rfl) (by kernel_rfl) ?_
        intro w_41 a H HP
        refine wpList_nil ?_
        refine then_normal ?_
        refine w_cut (fun a wv => ∃ (T2 : Tk), Sl 209 [(0, (.int .i64 k.region)), (8, (.bool false)), (9, (.bool true)), (10, (.slice LA 5 lc)), (11, (.pointer (some ⟨b, 0, none⟩))), (13, (.slice (some ⟨bu, ou, none⟩) ul.length uc)), (14, (.pointer (some ⟨b_10, 0, none⟩))), (15, (.int .i64 ((j : Nat) : Int))), (16, (.pointer (some ⟨b_14, 0, none⟩))), (17, (.pointer (some ⟨b_17, 0, none⟩))), (28, (.pointer (some ⟨b_39, 0, none⟩)))] a ∧ Hp w wv [bx b_39 36 [(.int .i64 p.item), (.int .i64 p.index), (.int .i64 v)] true, bx b_23 49 [(.int .i64 fa.item), (.slice fa.A fa.pics.length fa.c)] true, bx b_17 44 [(.int .i64 u.os), (.int .i64 u.of), (.slice u.A u.al.length u.c)] true, bx b_14 46 [(.int .i64 u.channel), (.int .i64 u.frame), (.int .i64 u.version), (.int .i64 u.item), (.int .i64 u.index), (.bool u.key), (.string u.data), (.int .i64 u.regions), (.int .i64 u.gain), (.string u.caption), (.int .i64 u.os), (.int .i64 u.of), (.slice u.A u.al.length u.c)] true, (unitsR (some ⟨bu, ou, none⟩) ul), (splR b k (stepS k (stAt k us j) u).2.2 NB_36 cB_37), (astsR LA 5 lib), bx b_10 44 [(.int .i64 T2.s), (.int .i64 T2.f), (.slice T2.A T2.al.length T2.c)] true] [] ∧ (TkGo k us j u T2) ∧ (tkIn ul T2)) ?_ ?_
        ·
          refine wp_seq ?_
          refine w_region ?_
          refine H.val 164 (.bool rd1) (by kernel_rfl) (by kernel_rfl) ?_
          intro a H
          refine wpList_nil ?_
          refine then_normal ?_
          refine w_if H rfl (fun g164 => ?_) (fun g164 => ?_)
          · have g164p := g164
            obtain ⟨hr0, hann2⟩ := hann.out g164
            obtain ⟨r1, r2, r3, r4, r5, r6, r7, r8⟩ := hrd.out hr0
            have hfs : findA jt20 lib = some fa := by rw [hF]; exact getD_some hfa r3
            have hns : needOf (sizesP fa.pics) = some nd := by rw [hND]; exact getD_some hnd r7
            have hgo1 : TkGo k us j u ⟨u.os, u.of, u.A, u.c, u.al⟩ := tk_ready hstep hch hfr hfull hks hvalid hfrs hchs hofs (by omega) (itemP_of hJ20 hjt20 r2) hfs r4 r5 r6 hns r8 hann2
            refine w_region ?_
            refine H.val 165 (.agg #[(.int .i64 u.os), (.int .i64 u.of), (.slice u.A u.al.length u.c)]) (by kernel_rfl) (ex_loadN (vs := [(.int .i64 u.os), (.int .i64 u.of), (.slice u.A u.al.length u.c)]) (by kernel_rfl) (by kernel_rfl) (by kernel_rfl) rfl (HP.cells 2 rfl 0 3 (by kernel_rfl))) ?_
            intro a H
            refine H.store HP 7 b_10 0 3 44 [(.int .i64 T1.s), (.int .i64 T1.f), (.slice T1.A T1.al.length T1.c)] true (.agg #[(.int .i64 u.os), (.int .i64 u.of), (.slice u.A u.al.length u.c)]) [bx b_39 36 [(.int .i64 p.item), (.int .i64 p.index), (.int .i64 v)] true, bx b_23 49 [(.int .i64 fa.item), (.slice fa.A fa.pics.length fa.c)] true, bx b_17 44 [(.int .i64 u.os), (.int .i64 u.of), (.slice u.A u.al.length u.c)] true, bx b_14 46 [(.int .i64 u.channel), (.int .i64 u.frame), (.int .i64 u.version), (.int .i64 u.item), (.int .i64 u.index), (.bool u.key), (.string u.data), (.int .i64 u.regions), (.int .i64 u.gain), (.string u.caption), (.int .i64 u.os), (.int .i64 u.of), (.slice u.A u.al.length u.c)] true, (unitsR (some ⟨bu, ou, none⟩) ul), (splR b k (stepS k (stAt k us j) u).2.2 NB_36 cB_37), (astsR LA 5 lib), bx b_10 44 [(.int .i64 u.os), (.int .i64 u.of), (.slice u.A u.al.length u.c)] true] (by kernel_rfl) (by kernel_rfl) (by kernel_rfl) rfl (by kernel_rfl) (by kernel_rfl) (by kernel_rfl) (by kernel_rfl) (by kernel_rfl) ?_
            intro w_42 a H HP
            refine wpList_nil ?_
            refine then_normal ?_
            exact ⟨⟨u.os, u.of, u.A, u.c, u.al⟩, H.keep (by kernel_rfl), HP, hgo1, (.inr ⟨u, hmu, rfl⟩)⟩
          · have g164p := g164
            refine wp_skip ?_
            refine then_normal ?_
            exact ⟨T1, H.keep (by kernel_rfl), HP, (tk_cont hTk hstep hch hfr hfull), hTm⟩
        ·
          rintro a w_43 ⟨T2, H, HP, hgo, hTm2⟩
          refine wp_seq ?_
          refine wp_seq ?_
          refine w_region ?_
          refine H.val 166 (.pointer (some ⟨b_10, 1, none⟩)) (by kernel_rfl) (by kernel_rfl) ?_
          intro a H
          refine H.val 167 (.int .i64 T2.f) (by kernel_rfl) (ex_load1 (by kernel_rfl) (by kernel_rfl) (HP.cell 7 rfl 1 rfl)) ?_
          intro a H
          refine H.val 168 (.bool (T2.f == 0)) (by kernel_rfl) (by kernel_rfl) ?_
          intro a H
          refine wpList_nil ?_
          refine then_normal ?_
          refine w_if H rfl (fun g168 => ?_) (fun g168 => ?_)
          · have g168p := eq_of_beq g168
            refine wp_exit ?_
            refine then_exit ?_
            refine w_exit_here ?_
            refine then_normal ?_
            refine w_region ?_
            refine H.val 55 (.int .i64 ((j : Nat) : Int)) (by kernel_rfl) (by kernel_rfl) ?_
            intro a H
            refine H.valE 56 (.int .i64 (IntKind.i64.wrap (((j : Nat) : Int) + 1))) (.int .i64 (((j : Nat) : Int) + 1)) (by kernel_rfl) (by kernel_rfl) ((by rw [wrap_ini64 _ (by omega)])) ?_
            intro a H
            refine H.val 15 (.int .i64 (((j : Nat) : Int) + 1)) (by kernel_rfl) (by kernel_rfl) ?_
            intro a H
            refine wpList_nil ?_
            refine then_normal ?_
            have H := H.as 15 (.int .i64 ((j + 1 : Nat) : Int)) rfl rfl
            refine ⟨_, ?_, j + 1, NB_36, cB_37, T2, rfl, H.keep (by kernel_rfl), (by rw [hst1]; exact ((((HP.tail rfl).tail rfl).tail rfl).tail rfl)), by omega, (fun h => absurd g168p h), hTm2⟩
            omega
          · have g168p := ne_of_beq_false g168
            refine wp_skip ?_
            refine then_normal ?_
            refine wp_seq ?_
            refine w_region ?_
            refine H.val 170 (.agg #[(.int .i64 T2.s), (.int .i64 T2.f), (.slice T2.A T2.al.length T2.c)]) (by kernel_rfl) (ex_loadN (vs := [(.int .i64 T2.s), (.int .i64 T2.f), (.slice T2.A T2.al.length T2.c)]) (by kernel_rfl) (by kernel_rfl) (by kernel_rfl) rfl (HP.cells 7 rfl 0 3 (by kernel_rfl))) ?_
            intro a H
            refine H.val 171 (.int .i64 k.region) (by kernel_rfl) (by kernel_rfl) ?_
            intro a H
            obtain ⟨J44, hJ44⟩ : ∃ J, itemP k.region T2.al = J := ⟨_, rfl⟩
            obtain ⟨jt44, hjt44⟩ : ∃ j, J44.getD 0 = j := ⟨_, rfl⟩
            refine H.call 172 (by kernel_rfl) (Eq.trans (by kernel_rfl : _ = (callFunc 18 #[(.agg #[(.int .i64 T2.s), (.int .i64 T2.f), (.slice T2.A T2.al.length T2.c)]), (.int .i64 k.region)]).run Try.prog w_43) (Try.call18 _ _)) ((by have hh := ritem_any T2.s T2.f T2.A T2.al.length T2.c T2.al k.region w_43 (tk_alts hTm2 (HP.held 4 rfl)).1 (tk_alts hTm2 (HP.held 4 rfl)).2; rw [hJ44, hjt44] at hh; exact hh)) ?_
            rintro e w_45 ⟨rfl, hb⟩
            refine ⟨_, rfl, ?_⟩
            intro a H
            have HP := HP.next hb
            refine H.val 169 (.tuple #[(.int .i64 jt44), (.bool J44.isSome)]) (by kernel_rfl) (by kernel_rfl) ?_
            intro a H
            refine H.val 173 (.int .i64 jt44) (by kernel_rfl) (by kernel_rfl) ?_
            intro a H
            refine H.val 174 (.bool J44.isSome) (by kernel_rfl) (by kernel_rfl) ?_
            intro a H
            refine H.val 29 (.int .i64 jt44) (by kernel_rfl) (by kernel_rfl) ?_
            intro a H
            refine H.val 30 (.bool J44.isSome) (by kernel_rfl) (by kernel_rfl) ?_
            intro a H
            refine wpList_nil ?_
            have H := H.keep (L' := [(30, (.bool J44.isSome)), (29, (.int .i64 jt44)), (168, (.bool (T2.f == 0))), (167, (.int .i64 T2.f)), (166, (.pointer (some ⟨b_10, 1, none⟩))), (0, (.int .i64 k.region)), (8, (.bool false)), (9, (.bool true)), (10, (.slice LA 5 lc)), (11, (.pointer (some ⟨b, 0, none⟩))), (13, (.slice (some ⟨bu, ou, none⟩) ul.length uc)), (14, (.pointer (some ⟨b_10, 0, none⟩))), (15, (.int .i64 ((j : Nat) : Int))), (16, (.pointer (some ⟨b_14, 0, none⟩))), (17, (.pointer (some ⟨b_17, 0, none⟩))), (28, (.pointer (some ⟨b_39, 0, none⟩)))]) (by kernel_rfl)
            refine then_normal ?_
            refine wp_seq ?_
            refine wp_seq ?_
            refine w_region ?_
            refine H.val 175 (.pointer (some ⟨b_14, 3, none⟩)) (by kernel_rfl) (by kernel_rfl) ?_
            intro a H
            refine H.val 176 (.int .i64 u.item) (by kernel_rfl) (ex_load1 (by kernel_rfl) (by kernel_rfl) (HP.cell 3 rfl 3 rfl)) ?_
            intro a H
            refine H.val 177 (.bool (u.item == 0)) (by kernel_rfl) (by kernel_rfl) ?_
            intro a H
            refine H.val 178 (.bool (u.item == 0)) (by kernel_rfl) (by kernel_rfl) ?_
            intro a H
            refine H.split 178 rfl (fun g178 H => ?_) (fun g178 H => ?_)
            · have g178p := eq_of_beq g178
              refine H.skip 179 (by kernel_rfl) ?_
              intro a H
              refine H.skip 180 (by kernel_rfl) ?_
              intro a H
              refine H.skip 181 (by kernel_rfl) ?_
              intro a H
              refine H.skip 182 (by kernel_rfl) ?_
              intro a H
              refine H.val 183 (.bool true) (by kernel_rfl) (by kernel_rfl) ?_
              intro a H
              refine H.val 184 (.bool true) (by kernel_rfl) (by kernel_rfl) ?_
              intro a H
              refine H.skip 185 (by kernel_rfl) ?_
              intro a H
              refine H.skip 186 (by kernel_rfl) ?_
              intro a H
              refine H.skip 187 (by kernel_rfl) ?_
              intro a H
              refine H.skip 188 (by kernel_rfl) ?_
              intro a H
              refine H.skip 189 (by kernel_rfl) ?_
              intro a H
              refine H.skip 190 (by kernel_rfl) ?_
              intro a H
              refine H.skip 191 (by kernel_rfl) ?_
              intro a H
              refine H.val 192 (.bool true) (by kernel_rfl) (by kernel_rfl) ?_
              intro a H
              refine H.val 193 (.bool true) (by kernel_rfl) (by kernel_rfl) ?_
              intro a H
              refine H.skip 194 (by kernel_rfl) ?_
              intro a H
              refine H.skip 195 (by kernel_rfl) ?_
              intro a H
              refine H.val 196 (.bool true) (by kernel_rfl) (by kernel_rfl) ?_
              intro a H
              refine wpList_nil ?_
              have H := H.keep (L' := [(196, (.bool true)), (30, (.bool J44.isSome)), (29, (.int .i64 jt44)), (168, (.bool (T2.f == 0))), (167, (.int .i64 T2.f)), (166, (.pointer (some ⟨b_10, 1, none⟩))), (0, (.int .i64 k.region)), (8, (.bool false)), (9, (.bool true)), (10, (.slice LA 5 lc)), (11, (.pointer (some ⟨b, 0, none⟩))), (13, (.slice (some ⟨bu, ou, none⟩) ul.length uc)), (14, (.pointer (some ⟨b_10, 0, none⟩))), (15, (.int .i64 ((j : Nat) : Int))), (16, (.pointer (some ⟨b_14, 0, none⟩))), (17, (.pointer (some ⟨b_17, 0, none⟩))), (28, (.pointer (some ⟨b_39, 0, none⟩)))]) (by kernel_rfl)
              refine then_normal ?_
              refine w_ift H rfl ?_
              refine wp_seq ?_
              refine w_region ?_
              refine H.val 197 (.agg #[(.int .i64 0), (.int .i64 0), (.slice none 0 0)]) (by kernel_rfl) (by kernel_rfl) ?_
              intro a H
              refine H.store HP 7 b_10 0 3 44 [(.int .i64 T2.s), (.int .i64 T2.f), (.slice T2.A T2.al.length T2.c)] true (.agg #[(.int .i64 0), (.int .i64 0), (.slice none 0 0)]) [bx b_39 36 [(.int .i64 p.item), (.int .i64 p.index), (.int .i64 v)] true, bx b_23 49 [(.int .i64 fa.item), (.slice fa.A fa.pics.length fa.c)] true, bx b_17 44 [(.int .i64 u.os), (.int .i64 u.of), (.slice u.A u.al.length u.c)] true, bx b_14 46 [(.int .i64 u.channel), (.int .i64 u.frame), (.int .i64 u.version), (.int .i64 u.item), (.int .i64 u.index), (.bool u.key), (.string u.data), (.int .i64 u.regions), (.int .i64 u.gain), (.string u.caption), (.int .i64 u.os), (.int .i64 u.of), (.slice u.A u.al.length u.c)] true, (unitsR (some ⟨bu, ou, none⟩) ul), (splR b k (stepS k (stAt k us j) u).2.2 NB_36 cB_37), (astsR LA 5 lib), bx b_10 44 [(.int .i64 0), (.int .i64 0), (.slice none 0 0)] true] (by kernel_rfl) (by kernel_rfl) (by kernel_rfl) rfl (by kernel_rfl) (by kernel_rfl) (by kernel_rfl) (by kernel_rfl) (by kernel_rfl) ?_
              intro w_46 a H HP
              refine wpList_nil ?_
              refine then_normal ?_
              refine wp_exit ?_
              refine then_exit ?_
              refine w_exit_here ?_
              refine then_normal ?_
              refine w_region ?_
              refine H.val 55 (.int .i64 ((j : Nat) : Int)) (by kernel_rfl) (by kernel_rfl) ?_
              intro a H
              refine H.valE 56 (.int .i64 (IntKind.i64.wrap (((j : Nat) : Int) + 1))) (.int .i64 (((j : Nat) : Int) + 1)) (by kernel_rfl) (by kernel_rfl) ((by rw [wrap_ini64 _ (by omega)])) ?_
              intro a H
              refine H.val 15 (.int .i64 (((j : Nat) : Int) + 1)) (by kernel_rfl) (by kernel_rfl) ?_
              intro a H
              refine wpList_nil ?_
              refine then_normal ?_
              have H := H.as 15 (.int .i64 ((j + 1 : Nat) : Int)) rfl rfl
              refine ⟨_, ?_, j + 1, NB_36, cB_37, tkZ, rfl, H.keep (by kernel_rfl), (by rw [hst1]; exact ((((HP.tail rfl).tail rfl).tail rfl).tail rfl)), by omega, tk_zero, (.inl rfl)⟩
              omega
            · have g178p := ne_of_beq_false g178
              refine H.val 179 (.agg #[(.int .i64 u.os), (.int .i64 u.of), (.slice u.A u.al.length u.c)]) (by kernel_rfl) (ex_loadN (vs := [(.int .i64 u.os), (.int .i64 u.of), (.slice u.A u.al.length u.c)]) (by kernel_rfl) (by kernel_rfl) (by kernel_rfl) rfl (HP.cells 2 rfl 0 3 (by kernel_rfl))) ?_
              intro a H
              refine H.val 180 (.agg #[(.int .i64 T2.s), (.int .i64 T2.f), (.slice T2.A T2.al.length T2.c)]) (by kernel_rfl) (ex_loadN (vs := [(.int .i64 T2.s), (.int .i64 T2.f), (.slice T2.A T2.al.length T2.c)]) (by kernel_rfl) (by kernel_rfl) (by kernel_rfl) rfl (HP.cells 7 rfl 0 3 (by kernel_rfl))) ?_
              intro a H
              refine H.call 181 (by kernel_rfl) (Eq.trans (by kernel_rfl : _ = (callFunc 21 #[(.agg #[(.int .i64 u.os), (.int .i64 u.of), (.slice u.A u.al.length u.c)]), (.agg #[(.int .i64 T2.s), (.int .i64 T2.f), (.slice T2.A T2.al.length T2.c)])]).run Try.prog w_45) (Try.call21 _ _)) (rsame_any u.os u.of u.A u.al.length u.c u.al T2.s T2.f T2.A T2.al.length T2.c T2.al w_45 ((HP.held 4 rfl).2 u hmu).1 (tk_alts hTm2 (HP.held 4 rfl)).1 ((HP.held 4 rfl).2 u hmu).2.1) ?_
              rintro e w_47 ⟨rfl, hb⟩
              refine ⟨_, rfl, ?_⟩
              intro a H
              have HP := HP.next hb
              refine H.val 182 (.bool (!(sameP u.os u.of u.al T2.s T2.f T2.al))) (by kernel_rfl) (by kernel_rfl) ?_
              intro a H
              refine H.val 183 (.bool (!(sameP u.os u.of u.al T2.s T2.f T2.al))) (by kernel_rfl) (by kernel_rfl) ?_
              intro a H
              refine H.val 184 (.bool (!(sameP u.os u.of u.al T2.s T2.f T2.al))) (by kernel_rfl) (by kernel_rfl) ?_
              intro a H
              refine H.split 184 rfl (fun g184 H => ?_) (fun g184 H => ?_)
              · have g184p := not_is_true g184
                refine H.skip 185 (by kernel_rfl) ?_
                intro a H
                refine H.skip 186 (by kernel_rfl) ?_
                intro a H
                refine H.skip 187 (by kernel_rfl) ?_
                intro a H
                refine H.skip 188 (by kernel_rfl) ?_
                intro a H
                refine H.skip 189 (by kernel_rfl) ?_
                intro a H
                refine H.skip 190 (by kernel_rfl) ?_
                intro a H
                refine H.skip 191 (by kernel_rfl) ?_
                intro a H
                refine H.val 192 (.bool true) (by kernel_rfl) (by kernel_rfl) ?_
                intro a H
                refine H.val 193 (.bool true) (by kernel_rfl) (by kernel_rfl) ?_
                intro a H
                refine H.skip 194 (by kernel_rfl) ?_
                intro a H
                refine H.skip 195 (by kernel_rfl) ?_
                intro a H
                refine H.val 196 (.bool true) (by kernel_rfl) (by kernel_rfl) ?_
                intro a H
                refine wpList_nil ?_
                have H := H.keep (L' := [(196, (.bool true)), (30, (.bool J44.isSome)), (29, (.int .i64 jt44)), (168, (.bool (T2.f == 0))), (167, (.int .i64 T2.f)), (166, (.pointer (some ⟨b_10, 1, none⟩))), (0, (.int .i64 k.region)), (8, (.bool false)), (9, (.bool true)), (10, (.slice LA 5 lc)), (11, (.pointer (some ⟨b, 0, none⟩))), (13, (.slice (some ⟨bu, ou, none⟩) ul.length uc)), (14, (.pointer (some ⟨b_10, 0, none⟩))), (15, (.int .i64 ((j : Nat) : Int))), (16, (.pointer (some ⟨b_14, 0, none⟩))), (17, (.pointer (some ⟨b_17, 0, none⟩))), (28, (.pointer (some ⟨b_39, 0, none⟩)))]) (by kernel_rfl)
                refine then_normal ?_
                refine w_ift H rfl ?_
                refine wp_seq ?_
                refine w_region ?_
                refine H.val 197 (.agg #[(.int .i64 0), (.int .i64 0), (.slice none 0 0)]) (by kernel_rfl) (by kernel_rfl) ?_
                intro a H
                refine H.store HP 7 b_10 0 3 44 [(.int .i64 T2.s), (.int .i64 T2.f), (.slice T2.A T2.al.length T2.c)] true (.agg #[(.int .i64 0), (.int .i64 0), (.slice none 0 0)]) [bx b_39 36 [(.int .i64 p.item), (.int .i64 p.index), (.int .i64 v)] true, bx b_23 49 [(.int .i64 fa.item), (.slice fa.A fa.pics.length fa.c)] true, bx b_17 44 [(.int .i64 u.os), (.int .i64 u.of), (.slice u.A u.al.length u.c)] true, bx b_14 46 [(.int .i64 u.channel), (.int .i64 u.frame), (.int .i64 u.version), (.int .i64 u.item), (.int .i64 u.index), (.bool u.key), (.string u.data), (.int .i64 u.regions), (.int .i64 u.gain), (.string u.caption), (.int .i64 u.os), (.int .i64 u.of), (.slice u.A u.al.length u.c)] true, (unitsR (some ⟨bu, ou, none⟩) ul), (splR b k (stepS k (stAt k us j) u).2.2 NB_36 cB_37), (astsR LA 5 lib), bx b_10 44 [(.int .i64 0), (.int .i64 0), (.slice none 0 0)] true] (by kernel_rfl) (by kernel_rfl) (by kernel_rfl) rfl (by kernel_rfl) (by kernel_rfl) (by kernel_rfl) (by kernel_rfl) (by kernel_rfl) ?_
                intro w_48 a H HP
                refine wpList_nil ?_
                refine then_normal ?_
                refine wp_exit ?_
                refine then_exit ?_
                refine w_exit_here ?_
                refine then_normal ?_
                refine w_region ?_
                refine H.val 55 (.int .i64 ((j : Nat) : Int)) (by kernel_rfl) (by kernel_rfl) ?_
                intro a H
                refine H.valE 56 (.int .i64 (IntKind.i64.wrap (((j : Nat) : Int) + 1))) (.int .i64 (((j : Nat) : Int) + 1)) (by kernel_rfl) (by kernel_rfl) ((by rw [wrap_ini64 _ (by omega)])) ?_
                intro a H
                refine H.val 15 (.int .i64 (((j : Nat) : Int) + 1)) (by kernel_rfl) (by kernel_rfl) ?_
                intro a H
                refine wpList_nil ?_
                refine then_normal ?_
                have H := H.as 15 (.int .i64 ((j + 1 : Nat) : Int)) rfl rfl
                refine ⟨_, ?_, j + 1, NB_36, cB_37, tkZ, rfl, H.keep (by kernel_rfl), (by rw [hst1]; exact ((((HP.tail rfl).tail rfl).tail rfl).tail rfl)), by omega, tk_zero, (.inl rfl)⟩
                omega
              · have g184p := not_is_false g184
                refine H.val 185 (.int .i64 ((j : Nat) : Int)) (by kernel_rfl) (by kernel_rfl) ?_
                intro a H
                refine H.val 186 (.pointer (some ⟨b_10, 0, none⟩)) (by kernel_rfl) (by kernel_rfl) ?_
                intro a H
                refine H.val 187 (.int .i64 T2.s) (by kernel_rfl) (ex_load1 (by kernel_rfl) (by kernel_rfl) (HP.cell 7 rfl 0 rfl)) ?_
                intro a H
                refine H.val 188 (.pointer (some ⟨b_10, 1, none⟩)) (by kernel_rfl) (by kernel_rfl) ?_
                intro a H
                refine H.val 189 (.int .i64 T2.f) (by kernel_rfl) (ex_load1 (by kernel_rfl) (by kernel_rfl) (HP.cell 7 rfl 1 rfl)) ?_
                intro a H
                refine H.valE 190 (.int .i64 (IntKind.i64.wrap (T2.s + T2.f))) (.int .i64 (T2.s + T2.f)) (by kernel_rfl) (by kernel_rfl) ((by obtain ⟨e1, e2, _⟩ := sameP_spec (not_is_false g184); rw [wrap_ini64 _ (by omega)])) ?_
                intro a H
                refine H.val 191 (.bool (decide (((j : Nat) : Int) ≥ (T2.s + T2.f)))) (by kernel_rfl) (by kernel_rfl) ?_
                intro a H
                refine H.val 192 (.bool (decide (((j : Nat) : Int) ≥ (T2.s + T2.f)))) (by kernel_rfl) (by kernel_rfl) ?_
                intro a H
                refine H.val 193 (.bool (decide (((j : Nat) : Int) ≥ (T2.s + T2.f)))) (by kernel_rfl) (by kernel_rfl) ?_
                intro a H
                refine H.split 193 rfl (fun g193 H => ?_) (fun g193 H => ?_)
                · have g193p := of_decide_eq_true g193
                  refine H.skip 194 (by kernel_rfl) ?_
                  intro a H
                  refine H.skip 195 (by kernel_rfl) ?_
                  intro a H
                  refine H.val 196 (.bool true) (by kernel_rfl) (by kernel_rfl) ?_
                  intro a H
                  refine wpList_nil ?_
                  have H := H.keep (L' := [(196, (.bool true)), (30, (.bool J44.isSome)), (29, (.int .i64 jt44)), (168, (.bool (T2.f == 0))), (167, (.int .i64 T2.f)), (166, (.pointer (some ⟨b_10, 1, none⟩))), (0, (.int .i64 k.region)), (8, (.bool false)), (9, (.bool true)), (10, (.slice LA 5 lc)), (11, (.pointer (some ⟨b, 0, none⟩))), (13, (.slice (some ⟨bu, ou, none⟩) ul.length uc)), (14, (.pointer (some ⟨b_10, 0, none⟩))), (15, (.int .i64 ((j : Nat) : Int))), (16, (.pointer (some ⟨b_14, 0, none⟩))), (17, (.pointer (some ⟨b_17, 0, none⟩))), (28, (.pointer (some ⟨b_39, 0, none⟩)))]) (by kernel_rfl)
                  refine then_normal ?_
                  refine w_ift H rfl ?_
                  refine wp_seq ?_
                  refine w_region ?_
                  refine H.val 197 (.agg #[(.int .i64 0), (.int .i64 0), (.slice none 0 0)]) (by kernel_rfl) (by kernel_rfl) ?_
                  intro a H
                  refine H.store HP 7 b_10 0 3 44 [(.int .i64 T2.s), (.int .i64 T2.f), (.slice T2.A T2.al.length T2.c)] true (.agg #[(.int .i64 0), (.int .i64 0), (.slice none 0 0)]) [bx b_39 36 [(.int .i64 p.item), (.int .i64 p.index), (.int .i64 v)] true, bx b_23 49 [(.int .i64 fa.item), (.slice fa.A fa.pics.length fa.c)] true, bx b_17 44 [(.int .i64 u.os), (.int .i64 u.of), (.slice u.A u.al.length u.c)] true, bx b_14 46 [(.int .i64 u.channel), (.int .i64 u.frame), (.int .i64 u.version), (.int .i64 u.item), (.int .i64 u.index), (.bool u.key), (.string u.data), (.int .i64 u.regions), (.int .i64 u.gain), (.string u.caption), (.int .i64 u.os), (.int .i64 u.of), (.slice u.A u.al.length u.c)] true, (unitsR (some ⟨bu, ou, none⟩) ul), (splR b k (stepS k (stAt k us j) u).2.2 NB_36 cB_37), (astsR LA 5 lib), bx b_10 44 [(.int .i64 0), (.int .i64 0), (.slice none 0 0)] true] (by kernel_rfl) (by kernel_rfl) (by kernel_rfl) rfl (by kernel_rfl) (by kernel_rfl) (by kernel_rfl) (by kernel_rfl) (by kernel_rfl) ?_
                  intro w_49 a H HP
                  refine wpList_nil ?_
                  refine then_normal ?_
                  refine wp_exit ?_
                  refine then_exit ?_
                  refine w_exit_here ?_
                  refine then_normal ?_
                  refine w_region ?_
                  refine H.val 55 (.int .i64 ((j : Nat) : Int)) (by kernel_rfl) (by kernel_rfl) ?_
                  intro a H
                  refine H.valE 56 (.int .i64 (IntKind.i64.wrap (((j : Nat) : Int) + 1))) (.int .i64 (((j : Nat) : Int) + 1)) (by kernel_rfl) (by kernel_rfl) ((by rw [wrap_ini64 _ (by omega)])) ?_
                  intro a H
                  refine H.val 15 (.int .i64 (((j : Nat) : Int) + 1)) (by kernel_rfl) (by kernel_rfl) ?_
                  intro a H
                  refine wpList_nil ?_
                  refine then_normal ?_
                  have H := H.as 15 (.int .i64 ((j + 1 : Nat) : Int)) rfl rfl
                  refine ⟨_, ?_, j + 1, NB_36, cB_37, tkZ, rfl, H.keep (by kernel_rfl), (by rw [hst1]; exact ((((HP.tail rfl).tail rfl).tail rfl).tail rfl)), by omega, tk_zero, (.inl rfl)⟩
                  omega
                · have g193p := of_decide_eq_false g193
                  refine H.val 194 (.bool J44.isSome) (by kernel_rfl) (by kernel_rfl) ?_
                  intro a H
                  refine H.val 195 (.bool (!J44.isSome)) (by kernel_rfl) (by kernel_rfl) ?_
                  intro a H
                  refine H.val 196 (.bool (!J44.isSome)) (by kernel_rfl) (by kernel_rfl) ?_
                  intro a H
                  refine wpList_nil ?_
                  have H := H.keep (L' := [(196, (.bool (!J44.isSome))), (30, (.bool J44.isSome)), (29, (.int .i64 jt44)), (168, (.bool (T2.f == 0))), (167, (.int .i64 T2.f)), (166, (.pointer (some ⟨b_10, 1, none⟩))), (0, (.int .i64 k.region)), (8, (.bool false)), (9, (.bool true)), (10, (.slice LA 5 lc)), (11, (.pointer (some ⟨b, 0, none⟩))), (13, (.slice (some ⟨bu, ou, none⟩) ul.length uc)), (14, (.pointer (some ⟨b_10, 0, none⟩))), (15, (.int .i64 ((j : Nat) : Int))), (16, (.pointer (some ⟨b_14, 0, none⟩))), (17, (.pointer (some ⟨b_17, 0, none⟩))), (28, (.pointer (some ⟨b_39, 0, none⟩)))]) (by kernel_rfl)
                  refine then_normal ?_
                  refine w_if H rfl (fun g196 => ?_) (fun g196 => ?_)
                  · have g196p := not_is_true g196
                    refine wp_seq ?_
                    refine w_region ?_
                    refine H.val 197 (.agg #[(.int .i64 0), (.int .i64 0), (.slice none 0 0)]) (by kernel_rfl) (by kernel_rfl) ?_
                    intro a H
                    refine H.store HP 7 b_10 0 3 44 [(.int .i64 T2.s), (.int .i64 T2.f), (.slice T2.A T2.al.length T2.c)] true (.agg #[(.int .i64 0), (.int .i64 0), (.slice none 0 0)]) [bx b_39 36 [(.int .i64 p.item), (.int .i64 p.index), (.int .i64 v)] true, bx b_23 49 [(.int .i64 fa.item), (.slice fa.A fa.pics.length fa.c)] true, bx b_17 44 [(.int .i64 u.os), (.int .i64 u.of), (.slice u.A u.al.length u.c)] true, bx b_14 46 [(.int .i64 u.channel), (.int .i64 u.frame), (.int .i64 u.version), (.int .i64 u.item), (.int .i64 u.index), (.bool u.key), (.string u.data), (.int .i64 u.regions), (.int .i64 u.gain), (.string u.caption), (.int .i64 u.os), (.int .i64 u.of), (.slice u.A u.al.length u.c)] true, (unitsR (some ⟨bu, ou, none⟩) ul), (splR b k (stepS k (stAt k us j) u).2.2 NB_36 cB_37), (astsR LA 5 lib), bx b_10 44 [(.int .i64 0), (.int .i64 0), (.slice none 0 0)] true] (by kernel_rfl) (by kernel_rfl) (by kernel_rfl) rfl (by kernel_rfl) (by kernel_rfl) (by kernel_rfl) (by kernel_rfl) (by kernel_rfl) ?_
                    intro w_50 a H HP
                    refine wpList_nil ?_
                    refine then_normal ?_
                    refine wp_exit ?_
                    refine then_exit ?_
                    refine w_exit_here ?_
                    refine then_normal ?_
                    refine w_region ?_
                    refine H.val 55 (.int .i64 ((j : Nat) : Int)) (by kernel_rfl) (by kernel_rfl) ?_
                    intro a H
                    refine H.valE 56 (.int .i64 (IntKind.i64.wrap (((j : Nat) : Int) + 1))) (.int .i64 (((j : Nat) : Int) + 1)) (by kernel_rfl) (by kernel_rfl) ((by rw [wrap_ini64 _ (by omega)])) ?_
                    intro a H
                    refine H.val 15 (.int .i64 (((j : Nat) : Int) + 1)) (by kernel_rfl) (by kernel_rfl) ?_
                    intro a H
                    refine wpList_nil ?_
                    refine then_normal ?_
                    have H := H.as 15 (.int .i64 ((j + 1 : Nat) : Int)) rfl rfl
                    refine ⟨_, ?_, j + 1, NB_36, cB_37, tkZ, rfl, H.keep (by kernel_rfl), (by rw [hst1]; exact ((((HP.tail rfl).tail rfl).tail rfl).tail rfl)), by omega, tk_zero, (.inl rfl)⟩
                    omega
                  · have g196p := not_is_false g196
                    refine wp_skip ?_
                    refine then_normal ?_
                    refine wp_seq ?_
                    obtain ⟨e1, e2, e3⟩ := sameP_spec (not_is_false g184)
                    have hb2 := itemP_of hJ44 hjt44 (by first | exact not_is_false g196 | exact g196p)
                    obtain ⟨⟨q1, q2, q3⟩, q4⟩ := hgo g168p g178p e3 e1 e2 (by omega) _ hb2
                    rw [hp] at q1 q2
                    rw [hv] at q3
                    refine w_region ?_
                    refine H.val 198 (.agg #[(.int .i64 p.item), (.int .i64 p.index), (.int .i64 v)]) (by kernel_rfl) (ex_loadN (vs := [(.int .i64 p.item), (.int .i64 p.index), (.int .i64 v)]) (by kernel_rfl) (by kernel_rfl) (by kernel_rfl) rfl (HP.cells 0 rfl 0 3 (by kernel_rfl))) ?_
                    intro a H
                    refine H.val 199 (.int .i64 jt44) (by kernel_rfl) (by kernel_rfl) ?_
                    intro a H
                    refine H.val 200 (.int .i64 ((j : Nat) : Int)) (by kernel_rfl) (by kernel_rfl) ?_
                    intro a H
                    refine H.val 201 (.pointer (some ⟨b_10, 0, none⟩)) (by kernel_rfl) (by kernel_rfl) ?_
                    intro a H
                    refine H.val 202 (.int .i64 T2.s) (by kernel_rfl) (ex_load1 (by kernel_rfl) (by kernel_rfl) (HP.cell 7 rfl 0 rfl)) ?_
                    intro a H
                    refine H.valE 203 (.int .i64 (IntKind.i64.wrap (((j : Nat) : Int) - T2.s))) (.int .i64 (((j : Nat) : Int) - T2.s)) (by kernel_rfl) (by kernel_rfl) ((by rw [wrap_ini64 _ (by omega)])) ?_
                    intro a H
                    refine H.val 204 (.pointer (some ⟨b_14, 2, none⟩)) (by kernel_rfl) (by kernel_rfl) ?_
                    intro a H
                    refine H.val 205 (.int .i64 u.version) (by kernel_rfl) (ex_load1 (by kernel_rfl) (by kernel_rfl) (HP.cell 3 rfl 2 rfl)) ?_
                    intro a H
                    refine H.val 206 (.agg #[(.int .i64 jt44), (.int .i64 (((j : Nat) : Int) - T2.s)), (.int .i64 u.version)]) (by kernel_rfl) (by kernel_rfl) ?_
                    intro a H
                    refine H.valE 207 (.bool (!((p.item == jt44) && ((p.index == (((j : Nat) : Int) - T2.s)) && (v == u.version))))) (.bool false) (by kernel_rfl) (ex_neSh (a0 := p.item) (a1 := p.index) (a2 := v) (b0 := jt44) (b1 := (((j : Nat) : Int) - T2.s)) (b2 := u.version) (by kernel_rfl) (by kernel_rfl)) ((congrArg Value.bool (by rw [q1, q2, q3]; simp))) ?_
                    intro a H
                    refine wpList_nil ?_
                    have H := H.keep (L' := [(207, (.bool false)), (196, (.bool (!J44.isSome))), (30, (.bool J44.isSome)), (29, (.int .i64 jt44)), (168, (.bool (T2.f == 0))), (167, (.int .i64 T2.f)), (166, (.pointer (some ⟨b_10, 1, none⟩))), (0, (.int .i64 k.region)), (8, (.bool false)), (9, (.bool true)), (10, (.slice LA 5 lc)), (11, (.pointer (some ⟨b, 0, none⟩))), (13, (.slice (some ⟨bu, ou, none⟩) ul.length uc)), (14, (.pointer (some ⟨b_10, 0, none⟩))), (15, (.int .i64 ((j : Nat) : Int))), (16, (.pointer (some ⟨b_14, 0, none⟩))), (17, (.pointer (some ⟨b_17, 0, none⟩))), (28, (.pointer (some ⟨b_39, 0, none⟩)))]) (by kernel_rfl)
                    refine then_normal ?_
                    refine w_iff H rfl ?_
                    refine wp_skip ?_
                    refine inb_normal ?_
                    refine then_normal ?_
                    refine w_region ?_
                    refine H.val 55 (.int .i64 ((j : Nat) : Int)) (by kernel_rfl) (by kernel_rfl) ?_
                    intro a H
                    refine H.valE 56 (.int .i64 (IntKind.i64.wrap (((j : Nat) : Int) + 1))) (.int .i64 (((j : Nat) : Int) + 1)) (by kernel_rfl) (by kernel_rfl) ((by rw [wrap_ini64 _ (by omega)])) ?_
                    intro a H
                    refine H.val 15 (.int .i64 (((j : Nat) : Int) + 1)) (by kernel_rfl) (by kernel_rfl) ?_
                    intro a H
                    refine wpList_nil ?_
                    refine then_normal ?_
                    have H := H.as 15 (.int .i64 ((j + 1 : Nat) : Int)) rfl rfl
                    refine ⟨_, ?_, j + 1, NB_36, cB_37, T2, rfl, H.keep (by kernel_rfl), (by rw [hst1]; exact ((((HP.tail rfl).tail rfl).tail rfl).tail rfl)), by omega, q4, hTm2⟩
                    omega
  · have g54p := of_decide_eq_false g54
    refine wp_exit ?_
    refine then_exit ?_
    refine then_exit ?_
    refine w_exit_here ?_
    refine then_normal ?_
    refine wp_seq ?_
    refine w_region ?_
    refine H.val 208 (.bool true) (by kernel_rfl) (by kernel_rfl) ?_
    intro a H
    refine H.val 8 (.bool true) (by kernel_rfl) (by kernel_rfl) ?_
    intro a H
    refine wpList_nil ?_
    refine then_normal ?_
    refine wp_ret ?_
    refine H.ret1 (fn := Try.f5) Try.results5 (RV.tmp_ (v := (.bool true)) (by kernel_rfl)) ?_
    exact ⟨rfl, (HP.below (by kernel_rfl))⟩
end Go.Proofs.Ytpaepefpfaoacaa
