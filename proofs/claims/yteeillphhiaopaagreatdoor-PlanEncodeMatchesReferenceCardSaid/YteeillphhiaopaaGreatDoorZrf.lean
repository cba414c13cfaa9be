/- Part 6 of the proofs: RcB, DeB, DeC, DeD. -/
import Derived.Test.YteeillphhiaopaaGreatDoorZre
namespace Go.Proofs.YteeillphhiaopaaGreatDoor
set_option maxRecDepth 100000
set_option maxHeartbeats 4000000
open Go.ChangeShapes Go.WideShapes Go.ChangeAt Go.RowKit
set_option linter.unusedVariables false
set_option linter.unusedSimpArgs false
theorem ints_len (zs : List Int) : (ints zs).length = zs.length := by simp
theorem ints_one1 (zs : List Int) : oneCells (ints zs) = true := by
 induction zs with
 | nil => rfl
 | cons z zs ih => exact ih
theorem app_b1 {Z new : List Int} {m : Nat} (h : (Z ++ new).length ≤ 1000000) (hm : new.length = m) : (ints Z).length + m ≤ maxLen := by
 rw [List.length_append] at h; rw [ints_len]; unfold maxLen; omega
theorem app_b2 {Z new : List Int} {m : Nat} (h : (Z ++ new).length ≤ 1000000) (hm : new.length = m) : ((ints Z).length + m) * 8 ≤ 140737488355328 := by
 rw [List.length_append] at h; rw [ints_len]; omega
theorem app_len1 {Z new : List Int} {m : Nat} (hm : new.length = m) : (ints Z).length + m = (Z ++ new).length := by
 rw [List.length_append, ints_len, hm]
theorem fl_snoc {α : Type} {Z : List Int} {f : α → List Int} {l : List α} {i : Nat} {x : α} (hx : l[i]? = some x) : Z ++ (l.take i).flatMap f ++ f x = Z ++ (l.take (i + 1)).flatMap f := by
 rw [take_snoc hx, List.flatMap_append, List.append_assoc]
 simp
theorem fl_bd {α : Type} {Z : List Int} {f : α → List Int} {l : List α} {i : Nat} {x : α} (hx : l[i]? = some x) (h : (Z ++ l.flatMap f).length ≤ 1000000) : (Z ++ (l.take i).flatMap f ++ f x).length ≤ 1000000 := by
 rw [fl_snoc hx]
 have h4 : l.flatMap f = (l.take (i + 1)).flatMap f ++ (l.drop (i + 1)).flatMap f := by rw [← List.flatMap_append, List.take_append_drop]
 rw [h4] at h
 simp only [List.length_append] at *
 omega
theorem al_bd {a b c d e f g : Int} {al : Alts} (h : al.length ≤ 1000) : ([a, b, c, d, e, f, g] ++ al.flatMap altNs).length ≤ 1000000 := by
 have := flat_cnt (f := altNs) (l := al) (n := 2) (fun _ _ => Nat.le_refl _)
 simp only [List.length_append, List.length_cons, List.length_nil]
 omega
theorem row_int {w : World} {b j : Nat} {zs : List Int} {z : Int} (h : Rd w 1 (some ⟨b, 0, none⟩) zs.length (ints zs)) (hz : zs[j]? = some z) : w.cell? ⟨b, 0 + j * 1, none⟩ = some (.int .i64 z) := by
 have hj := (List.getElem?_eq_some_iff.1 hz).1
 obtain ⟨b', off, he, _, hc⟩ := h.2.resolve_left (by omega)
 cases he
 rw [Nat.mul_one, hc j (by omega)]
 simp [hz]
theorem rputI_in (n : Int) (w : World) (h1 : -wmax ≤ n) (h2 : n ≤ wmax) : Calls Tryz.prog 127 #[.int .i64 n] w fun e w' => e = .returned (.tuple #[.string (bstr (encInt n)), .int .i64 0]) ∧ Below w.heap.size w w' := rputInt_any n w h1 h2
theorem valid_alts {p : Pln} (h : validPl p = true) : ∀ e ∈ p.es, e.al.length ≤ 1000 := by
 unfold validPl at h
 simp only [Bool.and_eq_true, decide_eq_true_eq] at h
 obtain ⟨⟨⟨⟨h1, h2⟩, h3⟩, h4, h5⟩, h6⟩ := h
 intro e he
 have he' := entsP_in h5 e he
 unfold itsP at h2
 unfold entP at he'
 simp only [Bool.and_eq_true] at h2 he'
 have := (alts_in h2.1.1.2 (sound_facts h1).1.2 he'.1.2).1
 omega
theorem rclauseNs_any (x : Cls) (w : World) : Calls Tryz.prog 95 #[(clV x)] w fun e w' => ∃ b, e = .returned (.slice (some ⟨b, 0, none⟩) 8 8) ∧ Rd w' 1 (some ⟨b, 0, none⟩) 8 (ints (clNs x)) ∧ Below w.heap.size w w' := by
 have HP := Hp.start w
 refine w_enter 20 [(0, (clV x))] Tryz.func95 rfl Tryz.ntmps95 (by kernel_rfl) (by kernel_rfl) fun a H => ?_
 refine sq (rg ?_)
 refine H.al HP 1 73 (clL x) fun b_1 w_2 a H HP => H.v 2 (.slice none 0 0) fun a H => ?_
 refine nl (tn (sq (rg ?_)))
 refine H.v 3 (pt b_1 0) fun a H => H.u 4 (ii x.kind) (ex_l1 (HP.cell 0 rfl 0 rfl)) fun a H => H.v 5 (pt b_1 1) fun a H => H.u 6 (ii x.item) (ex_l1 (HP.cell 0 rfl 1 rfl)) fun a H => H.v 7 (pt b_1 2) fun a H => H.u 8 (ii x.from_) (ex_l1 (HP.cell 0 rfl 2 rfl)) fun a H => H.v 9 (pt b_1 3) fun a H => H.u 10 (ii x.to_) (ex_l1 (HP.cell 0 rfl 3 rfl)) fun a H => H.v 11 (pt b_1 4) fun a H => H.u 12 (ii x.regions) (ex_l1 (HP.cell 0 rfl 4 rfl)) fun a H => H.v 13 (pt b_1 5) fun a H => H.u 14 (ii x.n) (ex_l1 (HP.cell 0 rfl 5 rfl)) fun a H => H.v 15 (pt b_1 6) fun a H => H.u 16 (ii x.a) (ex_l1 (HP.cell 0 rfl 6 rfl)) fun a H => H.v 17 (pt b_1 7) fun a H => H.u 18 (ii x.b) (ex_l1 (HP.cell 0 rfl 7 rfl)) fun a H => ?_
 refine H.alloc HP 19 (fun b => (.slice (some ⟨b, 0, none⟩) 8 8)) 3 (clL x) (by kernel_rfl) (fun w => by kernel_rfl) fun b_3 w_4 a H HP => H.v 2 (.slice (some ⟨b_3, 0, none⟩) 8 8) fun a H => ?_
 refine nl (tn (rt ?_))
 refine H.r1 (.slice (some ⟨b_3, 0, none⟩) 8 8) Tryz.results95 ?_
 exact ⟨_, rfl, Rd.of_box (HP.at_ 0 rfl) rfl, HP.bl⟩
theorem rentryNs_any (x : Ent) (w : World) (hx : x.ok w) (hal : x.al.length ≤ 1000) : Calls Tryz.prog 94 #[(enV x)] w fun e w' => ∃ b c, e = .returned (.slice (some ⟨b, 0, none⟩) (enNs x).length c) ∧ Rd w' 1 (some ⟨b, 0, none⟩) (enNs x).length (ints (enNs x)) ∧ Below w.heap.size w w' := by
 have HP := Hp.start w
 refine w_enter 44 [(0, (enV x))] Tryz.func94 rfl Tryz.ntmps94 (by kernel_rfl) (by kernel_rfl) fun a H => ?_
 refine sq (rg ?_)
 refine H.al HP 1 43 (enL x) fun b_1 w_2 a H HP => H.v 2 (.slice none 0 0) fun a H => ?_
 refine nl (tn (sq (rg ?_)))
 refine H.v 5 (pt b_1 0) fun a H => H.u 6 (ii x.id) (ex_l1 (HP.cell 0 rfl 0 rfl)) fun a H => H.v 7 (pt b_1 1) fun a H => H.u 8 (ii x.item) (ex_l1 (HP.cell 0 rfl 1 rfl)) fun a H => H.v 9 (pt b_1 2) fun a H => H.u 10 (ii x.frames) (ex_l1 (HP.cell 0 rfl 2 rfl)) fun a H => H.v 11 (pt b_1 3) fun a H => H.u 12 (ii x.earliest) (ex_l1 (HP.cell 0 rfl 3 rfl)) fun a H => H.v 13 (pt b_1 4) fun a H => H.u 14 (ii x.latest) (ex_l1 (HP.cell 0 rfl 4 rfl)) fun a H => H.v 15 (pt b_1 5) fun a H => H.u 16 (ii x.booking) (ex_l1 (HP.cell 0 rfl 5 rfl)) fun a H => H.v 17 (pt b_1 6) fun a H => H.u 18 (.slice x.A x.al.length x.c) (ex_l1 (HP.cell 0 rfl 6 rfl)) fun a H => H.v 19 (ii x.al.length) fun a H => H.alloc HP 20 (fun b => (.slice (some ⟨b, 0, none⟩) 7 7)) 3 [(ii x.id), (ii x.item), (ii x.frames), (ii x.earliest), (ii x.latest), (ii x.booking), (ii x.al.length)] (by kernel_rfl) (fun w => by kernel_rfl) fun b_3 w_4 a H HP => ?_
 refine H.v 3 (.slice (some ⟨b_3, 0, none⟩) 7 7) fun a H => ?_
 refine nl ?_
 have HP : Hp w w_4 [(ownR w.heap.size 3 (.slice (some ⟨b_3, 0, none⟩) (([x.id, x.item, x.frames, x.earliest, x.latest, x.booking, (x.al.length : Int)]).length) 7) (ints ([x.id, x.item, x.frames, x.earliest, x.latest, x.booking, (x.al.length : Int)]))), bx b_1 43 (enL x) true] [] := HP.rowOf (n := 7) 0 rfl rfl (by unfold maxLen; omega) _ rfl
 have H := H.as 3 (.slice (some ⟨b_3, 0, none⟩) (([x.id, x.item, x.frames, x.earliest, x.latest, x.booking, (x.al.length : Int)]).length) 7) rfl rfl
 refine tn (sq (sq (rg ?_)))
 refine H.v 4 (ii 0) fun a H => ?_
 refine nl (tn (bk ?_))
 have e0 : [x.id, x.item, x.frames, x.earliest, x.latest, x.booking, (x.al.length : Int)] = [x.id, x.item, x.frames, x.earliest, x.latest, x.booking, (x.al.length : Int)] ++ (x.al.take 0).flatMap altNs := by simp only [List.take_zero, List.flatMap_nil, List.append_nil]
 have HP : Hp w w_4 [(ownR w.heap.size 3 (.slice (some ⟨b_3, 0, none⟩) (([x.id, x.item, x.frames, x.earliest, x.latest, x.booking, (x.al.length : Int)] ++ (x.al.take 0).flatMap altNs).length) 7) (ints ([x.id, x.item, x.frames, x.earliest, x.latest, x.booking, (x.al.length : Int)] ++ (x.al.take 0).flatMap altNs))), bx b_1 43 (enL x) true] [] := by rw [← e0]; exact HP
 have H := H.as 3 (.slice (some ⟨b_3, 0, none⟩) (([x.id, x.item, x.frames, x.earliest, x.latest, x.booking, (x.al.length : Int)] ++ (x.al.take 0).flatMap altNs).length) 7) rfl (by rw [← e0])
 refine w_loop (fun mm a wv => ∃ (i0 : Nat), ∃ (BB0 : Option Addr), ∃ (cc0 : Nat), x.al.length - i0 = mm ∧ Sl 44 [(4, (ii i0)), (3, (.slice BB0 (([x.id, x.item, x.frames, x.earliest, x.latest, x.booking, (x.al.length : Int)] ++ (x.al.take i0).flatMap altNs).length) cc0)), (1, (pt b_1 0))] a ∧ Hp w wv [(ownR w.heap.size 3 (.slice BB0 (([x.id, x.item, x.frames, x.earliest, x.latest, x.booking, (x.al.length : Int)] ++ (x.al.take i0).flatMap altNs).length) cc0) (ints ([x.id, x.item, x.frames, x.earliest, x.latest, x.booking, (x.al.length : Int)] ++ (x.al.take i0).flatMap altNs))), bx b_1 43 (enL x) true] [] ∧ (i0 ≤ x.al.length)) (x.al.length - 0) ?_ ?_
 ·exact ⟨0, (some ⟨b_3, 0, none⟩), 7, (by omega), H.keep (by kernel_rfl), HP, (Nat.zero_le _)⟩
 rintro mm a w_5 ⟨i0, BB0, cc0, hmeas, H, HP, hib0⟩
 refine sq (sq (rg ?_))
 refine H.v 21 (ii i0) fun a H => H.v 22 (pt b_1 6) fun a H => H.u 23 (.slice x.A x.al.length x.c) (ex_l1 (HP.cell 1 rfl 6 rfl)) fun a H => H.v 24 (ii x.al.length) fun a H => H.v 25 (.bool (decide ((i0 : Int) < (x.al.length : Int)))) fun a H => ?_
 refine nl (tn ?_)
 refine w_if H rfl (fun g25 => ?_) (fun g25 => ?_)
 ·have g25p := of_decide_eq_true g25
  refine sk (tn (sq (bk ?_)))
  obtain ⟨bu_7, ou_8, x_6, hA_9, _, hd_11, hx_10, hm_12, _⟩ := IsRow.get altC_size (hx.1.below HP.bl) (i := i0) (by omega)
  have HP := HP.front 0 rfl _ rfl
  refine An.start (fun v => Hp w v [bx b_1 43 (enL x) true] []) 16 16 HP wide_follows rfl fun w_13 HP => ?_
  refine An.q H (.inr ((HP.tail rfl))) 0 28 (.slice BB0 (([x.id, x.item, x.frames, x.earliest, x.latest, x.booking, (x.al.length : Int)] ++ (x.al.take i0).flatMap altNs).length) cc0) (fun _ => by kernel_rfl) fun a H => ?_
  refine An.p H (.inr ((HP.tail rfl))) 1 29 (pt b_1 6) fun a H => ?_
  refine An.vw H ((HP.tail rfl)) 2 30 (.slice x.A x.al.length x.c) (fun _ hS => ex_l1 (hS.cell 0 rfl 6 rfl)) fun a H => ?_
  refine An.p H (.inr ((HP.tail rfl))) 3 31 (ii i0) fun a H => ?_
  refine An.q H (.inr ((HP.tail rfl))) 4 32 (.pointer (some ⟨bu_7, ou_8 + i0 * 2, none⟩)) (fun _ => ex_indexA (b := bu_7) (off := ou_8) (len := x.al.length) (cap := x.c) (e := 62) (k := 2) (ik := .i64) (i := (i0 : Int)) (m := i0) hA_9 (by kernel_rfl) (by kernel_rfl) (by omega) (by omega) (by kernel_rfl) (by kernel_rfl)) fun a H => ?_
  refine An.p H (.inr ((HP.tail rfl))) 5 33 (.pointer (some ⟨bu_7, ou_8 + i0 * 2, none⟩)) fun a H => ?_
  refine An.vw H ((HP.tail rfl)) 6 34 (ii x_6.1) (fun _ hS => ex_l1 (IsRow.cells altC_size (hx.1.below (hS.below (by kernel_rfl))) hA_9 hx_10 0 _ rfl)) fun a H => ?_
  refine An.p H (.inr ((HP.tail rfl))) 7 35 (pt b_1 6) fun a H => ?_
  refine An.vw H ((HP.tail rfl)) 8 36 (.slice x.A x.al.length x.c) (fun _ hS => ex_l1 (hS.cell 0 rfl 6 rfl)) fun a H => ?_
  refine An.p H (.inr ((HP.tail rfl))) 9 37 (ii i0) fun a H => ?_
  refine An.q H (.inr ((HP.tail rfl))) 10 38 (.pointer (some ⟨bu_7, ou_8 + i0 * 2, none⟩)) (fun _ => ex_indexA (b := bu_7) (off := ou_8) (len := x.al.length) (cap := x.c) (e := 62) (k := 2) (ik := .i64) (i := (i0 : Int)) (m := i0) hA_9 (by kernel_rfl) (by kernel_rfl) (by omega) (by omega) (by kernel_rfl) (by kernel_rfl)) fun a H => ?_
  refine An.p H (.inr ((HP.tail rfl))) 11 39 (.pointer (some ⟨bu_7, ou_8 + i0 * 2 + 1, none⟩)) fun a H => ?_
  refine An.vw H ((HP.tail rfl)) 12 40 (ii x_6.2) (fun _ hS => ex_l1 (IsRow.cells altC_size (hx.1.below (hS.below (by kernel_rfl))) hA_9 hx_10 1 _ rfl)) fun a H => ?_
  refine An.one 13 (by kernel_rfl) ?_
  refine Op.alloc H HP 41 (fun b => (.slice (some ⟨b, 0, none⟩) 2 2)) 3 (alL x_6) rfl (by kernel_rfl) (fun w => by kernel_rfl) fun b_14 w_15 a H HP => ?_
  refine ⟨.inr (((HP.tail rfl).tail rfl)), ?_⟩
  refine An.one 14 (by kernel_rfl) ?_
  refine Op.appR H HP 42 1 (v := (.slice BB0 (([x.id, x.item, x.frames, x.earliest, x.latest, x.booking, (x.al.length : Int)] ++ (x.al.take i0).flatMap altNs).length) cc0)) (xs := ints ([x.id, x.item, x.frames, x.earliest, x.latest, x.booking, (x.al.length : Int)] ++ (x.al.take i0).flatMap altNs)) 3 (z := .int .i64 0) (bytes := 8) (some ⟨b_14, 0, none⟩) (2) (2) (ints (altNs x_6)) rfl (by kernel_rfl) (by kernel_rfl) (by kernel_rfl) (by kernel_rfl) (by kernel_rfl) rfl (by kernel_rfl) (fun h => by cases h) (Rd.of_box (HP.at_ 0 rfl) rfl) (ints_one1 _) (app_b1 (Z := [x.id, x.item, x.frames, x.earliest, x.latest, x.booking, (x.al.length : Int)] ++ (x.al.take i0).flatMap altNs) (new := altNs x_6) (fl_bd hx_10 (al_bd hal)) rfl) (app_b2 (Z := [x.id, x.item, x.frames, x.earliest, x.latest, x.booking, (x.al.length : Int)] ++ (x.al.take i0).flatMap altNs) (new := altNs x_6) (fl_bd hx_10 (al_bd hal)) rfl) fun B_16 c_17 w_18 a H HP => ?_
  have e1 : (ints ([x.id, x.item, x.frames, x.earliest, x.latest, x.booking, (x.al.length : Int)] ++ (x.al.take i0).flatMap altNs)).length + 2 = ([x.id, x.item, x.frames, x.earliest, x.latest, x.booking, (x.al.length : Int)] ++ (x.al.take i0).flatMap altNs ++ altNs x_6).length := app_len1 rfl
  have e2 : ints ([x.id, x.item, x.frames, x.earliest, x.latest, x.booking, (x.al.length : Int)] ++ (x.al.take i0).flatMap altNs) ++ ints (altNs x_6) = ints ([x.id, x.item, x.frames, x.earliest, x.latest, x.booking, (x.al.length : Int)] ++ (x.al.take i0).flatMap altNs ++ altNs x_6) := (List.map_append ..).symm
  have HP : Hp w w_18 [bx b_14 3 (alL x_6) true, (ownR w.heap.size 3 (.slice B_16 (([x.id, x.item, x.frames, x.earliest, x.latest, x.booking, (x.al.length : Int)] ++ (x.al.take i0).flatMap altNs ++ altNs x_6).length) c_17) (ints ([x.id, x.item, x.frames, x.earliest, x.latest, x.booking, (x.al.length : Int)] ++ (x.al.take i0).flatMap altNs ++ altNs x_6))), bx b_1 43 (enL x) true] [] := by have hh := HP; simp only [List.set] at hh; rw [e1, e2] at hh; exact hh
  have H := H.as 42 (.slice B_16 (([x.id, x.item, x.frames, x.earliest, x.latest, x.booking, (x.al.length : Int)] ++ (x.al.take i0).flatMap altNs ++ altNs x_6).length) c_17) rfl (by rw [e1])
  clear e1 e2
  refine ⟨.inr (((HP.tail rfl).tail rfl)), ?_⟩
  refine An.q H (.inr (((HP.tail rfl).tail rfl))) 15 3 (.slice B_16 (([x.id, x.item, x.frames, x.earliest, x.latest, x.booking, (x.al.length : Int)] ++ (x.al.take i0).flatMap altNs ++ altNs x_6).length) c_17) (fun _ => by kernel_rfl) fun a H => ?_
  refine An.done (by kernel_rfl) ?_
  refine ibn (tn (rg ?_))
  refine H.v 26 (ii i0) fun a H => H.valE 27 (ii (IntKind.i64.wrap ((i0 : Int) + 1))) (ii ((i0 : Int) + 1)) (by kernel_rfl) (by kernel_rfl) ((by rw [wrap_ini64 _ (by omega)])) fun a H => H.v 4 (ii ((i0 : Int) + 1)) fun a H => ?_
  refine nl (tn ?_)
  have e0 := fl_snoc (Z := ([x.id, x.item, x.frames, x.earliest, x.latest, x.booking, (x.al.length : Int)])) (f := altNs) hx_10
  have HP : Hp w w_18 [bx b_14 3 (alL x_6) true, (ownR w.heap.size 3 (.slice B_16 (([x.id, x.item, x.frames, x.earliest, x.latest, x.booking, (x.al.length : Int)] ++ (x.al.take (i0 + 1)).flatMap altNs).length) c_17) (ints ([x.id, x.item, x.frames, x.earliest, x.latest, x.booking, (x.al.length : Int)] ++ (x.al.take (i0 + 1)).flatMap altNs))), bx b_1 43 (enL x) true] [] := by rw [← e0]; exact HP
  have H := H.as 3 (.slice B_16 (([x.id, x.item, x.frames, x.earliest, x.latest, x.booking, (x.al.length : Int)] ++ (x.al.take (i0 + 1)).flatMap altNs).length) c_17) rfl (by rw [← e0])
  have H := H.as 4 (ii ((i0 + 1 : Nat) : Int)) rfl rfl
  refine ⟨_, ?_, i0 + 1, B_16, c_17, rfl, H.keep (by kernel_rfl), (HP.sub [1, 2] _ rfl (by kernel_rfl)), (by omega)⟩
  omega
 have g25p := of_decide_eq_false g25
 refine wp_exit (then_exit (then_exit ?_))
 refine w_exit_here ?_
 refine tn (sq ?_)
 have e0 : x.al.take i0 = x.al := List.take_of_length_le (by omega)
 have HP : Hp w w_5 [(ownR w.heap.size 3 (.slice BB0 (([x.id, x.item, x.frames, x.earliest, x.latest, x.booking, (x.al.length : Int)] ++ x.al.flatMap altNs).length) cc0) (ints ([x.id, x.item, x.frames, x.earliest, x.latest, x.booking, (x.al.length : Int)] ++ x.al.flatMap altNs))), bx b_1 43 (enL x) true] [] := by have hh := HP; rw [e0] at hh; exact hh
 have H := H.as 3 (.slice BB0 (([x.id, x.item, x.frames, x.earliest, x.latest, x.booking, (x.al.length : Int)] ++ x.al.flatMap altNs).length) cc0) rfl (by rw [e0])
 refine rg ?_
 refine H.v 43 (.slice BB0 (([x.id, x.item, x.frames, x.earliest, x.latest, x.booking, (x.al.length : Int)] ++ x.al.flatMap altNs).length) cc0) fun a H => H.v 2 (.slice BB0 (([x.id, x.item, x.frames, x.earliest, x.latest, x.booking, (x.al.length : Int)] ++ x.al.flatMap altNs).length) cc0) fun a H => ?_
 refine nl (tn (rt ?_))
 refine H.r1 (.slice BB0 (([x.id, x.item, x.frames, x.earliest, x.latest, x.booking, (x.al.length : Int)] ++ x.al.flatMap altNs).length) cc0) Tryz.results94 ?_
 obtain ⟨bn, hbn⟩ := own_some (HP.held 0 rfl) (by simp)
 subst hbn
 exact ⟨_, _, rfl, by have hh := ownR_rd (HP.held 0 rfl); rw [ints_len] at hh; exact hh, HP.bl⟩
theorem rnumbers_any (b c : Nat) (zs : List Int) (w : World) (hr : Rd w 1 (some ⟨b, 0, none⟩) zs.length (ints zs)) (hzs : ∀ z ∈ zs, -wmax ≤ z ∧ z ≤ wmax) (hl : zs.length ≤ 1000000) :
  Calls Tryz.prog 96 #[.slice (some ⟨b, 0, none⟩) zs.length c] w fun e w' => e = .returned (.string (bstr (encInts zs))) ∧ Below w.heap.size w w' := by
 have HP := Hp.start w
 refine w_enter 25 [(0, (.slice (some ⟨b, 0, none⟩) zs.length c))] Tryz.func96 rfl Tryz.ntmps96 (by kernel_rfl) (by kernel_rfl) fun a H => ?_
 refine sq (rg ?_)
 refine H.v 2 (.string (bstr ([]))) fun a H => ?_
 refine nl (tn (sq (rg ?_)))
 refine H.v 3 (.string (bstr ([]))) fun a H => ?_
 refine nl (tn (sq (sq (rg ?_))))
 refine H.v 4 (ii 0) fun a H => ?_
 refine nl (tn (bk ?_))
 refine w_loop (fun mm a wv => ∃ (j : Nat), zs.length - j = mm ∧ Sl 25 [(4, (ii j)), (3, (.string (bstr (encInts (zs.take j))))), (0, (.slice (some ⟨b, 0, none⟩) zs.length c))] a ∧ Hp w wv [] [] ∧ (j ≤ zs.length)) (zs.length - 0) ?_ ?_
 ·exact ⟨0, (by omega), H.keep (by kernel_rfl), HP, by omega⟩
 rintro mm a w_1 ⟨j, hmeas, H, HP, hj⟩
 refine sq (sq (rg ?_))
 refine H.v 7 (ii j) fun a H => H.v 8 (.slice (some ⟨b, 0, none⟩) zs.length c) fun a H => H.v 9 (ii zs.length) fun a H => H.v 10 (.bool (decide ((j : Int) < (zs.length : Int)))) fun a H => ?_
 refine nl (tn ?_)
 refine w_if H rfl (fun g10 => ?_) (fun g10 => ?_)
 ·have g10p := of_decide_eq_true g10
  refine sk (tn (sq (bk (sq ?_))))
  obtain ⟨z, hz⟩ : ∃ z, zs[j]? = some z := ⟨_, List.getElem?_eq_getElem (by omega)⟩
  obtain ⟨z1, z2⟩ := hzs z (List.mem_of_getElem? hz)
  refine rg ?_
  refine H.v 14 (.slice (some ⟨b, 0, none⟩) zs.length c) fun a H => H.v 15 (ii j) fun a H => H.u 16 (.pointer (some ⟨b, 0 + j * 1, none⟩)) (ex_index (b := b) (off := 0) (len := zs.length) (cap := c) (e := 3) (k := 1) (ik := .i64) (i := (j : Int)) (m := j) (by kernel_rfl) (by kernel_rfl) (by omega) (by omega) (by kernel_rfl) (by kernel_rfl)) fun a H => H.u 17 (ii z) (ex_load1 (p := ⟨b, 0 + j * 1, none⟩) (by kernel_rfl) (by kernel_rfl) (row_int (hr.below HP.bl) hz)) fun a H => H.cb HP 18 (Tryz.call127 _ _) (rputI_in z w_1 z1 z2) fun w_2 hb a H HP => H.v 13 (.tuple #[(.string (bstr (encInt z))), (ii 0)]) fun a H => H.v 19 (.string (bstr (encInt z))) fun a H => H.v 20 (ii 0) fun a H => H.v 5 (.string (bstr (encInt z))) fun a H => H.v 6 (ii 0) fun a H => ?_
  refine nl (tn (rg ?_))
  refine H.v 21 (.string (bstr (encInts (zs.take j)))) fun a H => H.v 22 (.string (bstr (encInt z))) fun a H => H.u 23 (.string (bstr ((encInts (zs.take j)) ++ (encInt z)))) (ex_sadd (by kernel_rfl) (by kernel_rfl) (by (have := encInts_len (zs.take j); have := (encInt_len z).2; simp only [List.length_take] at *; omega))) fun a H => H.v 3 (.string (bstr ((encInts (zs.take j)) ++ (encInt z)))) fun a H => ?_
  refine nl (ibn (tn (rg ?_)))
  refine H.v 11 (ii j) fun a H => H.valE 12 (ii (IntKind.i64.wrap ((j : Int) + 1))) (ii ((j : Int) + 1)) (by kernel_rfl) (by kernel_rfl) ((by rw [wrap_ini64 _ (by omega)])) fun a H => H.v 4 (ii ((j : Int) + 1)) fun a H => ?_
  refine nl (tn ?_)
  have H := H.as 4 (ii ((j + 1 : Nat) : Int)) rfl rfl
  have H := H.as 3 (.string (bstr (encInts (zs.take (j + 1))))) rfl (congrArg (fun x => Value.string (bstr x)) (by rw [take_snoc hz, encInts_append, encInts_one]))
  refine ⟨_, ?_, j + 1, rfl, H.keep (by kernel_rfl), HP, by omega⟩
  omega
 have g10p := of_decide_eq_false g10
 refine wp_exit (then_exit (then_exit ?_))
 refine w_exit_here ?_
 refine tn (sq (rg ?_))
 refine H.v 24 (.string (bstr (encInts (zs.take j)))) fun a H => H.v 2 (.string (bstr (encInts (zs.take j)))) fun a H => ?_
 refine nl (tn (rt ?_))
 refine H.r1 (.string (bstr (encInts (zs.take j)))) Tryz.results96 ?_
 exact ⟨by rw [show j = zs.length by omega, List.take_length], HP.bl⟩
theorem rwritten_any (p : Pln) (w : World) (hpl : IsPln w p) (hzs : ∀ z ∈ numsP p, -wmax ≤ z ∧ z ≤ wmax) (hcnt : (numsP p).length ≤ 1000000) (hal : ∀ e ∈ p.es, e.al.length ≤ 1000) : Calls Tryz.prog 58 #[(plV p)] w fun e w' => e = .returned (.string (bstr (encInts (numsP p)))) ∧ Below w.heap.size w w' := by
 have hl1 := hpl.lsh
 have hl2 := hpl.lits
 have hl3 := hpl.les
 have hl4 := hpl.lbs
 have hl5 := hpl.lcs
 unfold maxLen at hl1 hl2 hl3 hl4 hl5
 have HP := Hp.start w
 refine w_enter 170 [(0, (plV p))] Tryz.func58 rfl Tryz.ntmps58 (by kernel_rfl) (by kernel_rfl) fun a H => ?_
 refine sq (rg ?_)
 refine H.al HP 1 32 (plL p) fun b_1 w_2 a H HP => H.v 2 (.string (bstr ([]))) fun a H => ?_
 refine nl (tn (sq (rg ?_)))
 refine H.v 11 (pt b_1 0) fun a H => H.u 12 (ii p.channel) (ex_l1 (HP.cell 0 rfl 0 rfl)) fun a H => H.v 13 (pt b_1 1) fun a H => H.v 14 (pt b_1 1) fun a H => H.u 15 (ii p.num) (ex_l1 (HP.cell 0 rfl 1 rfl)) fun a H => H.v 16 (pt b_1 1) fun a H => H.v 17 (pt b_1 2) fun a H => H.u 18 (ii p.den) (ex_l1 (HP.cell 0 rfl 2 rfl)) fun a H => H.v 19 (pt b_1 3) fun a H => H.v 20 (pt b_1 3) fun a H => H.u 21 (ii p.offset) (ex_l1 (HP.cell 0 rfl 3 rfl)) fun a H => H.v 22 (pt b_1 3) fun a H => H.v 23 (pt b_1 4) fun a H => H.u 24 (.slice p.SA p.sh.length p.sc) (ex_l1 (HP.cell 0 rfl 4 rfl)) fun a H => H.v 25 (ii p.sh.length) fun a H => H.alloc HP 26 (fun b => (.slice (some ⟨b, 0, none⟩) 5 5)) 3 [(ii p.channel), (ii p.num), (ii p.den), (ii p.offset), (ii p.sh.length)] (by kernel_rfl) (fun w => by kernel_rfl) fun b_3 w_4 a H HP => ?_
 refine H.v 3 (.slice (some ⟨b_3, 0, none⟩) 5 5) fun a H => ?_
 refine nl ?_
 have HP : Hp w w_4 [(ownR w.heap.size 3 (.slice (some ⟨b_3, 0, none⟩) (([p.channel, p.num, p.den, p.offset, (p.sh.length : Int)]).length) 5) (ints ([p.channel, p.num, p.den, p.offset, (p.sh.length : Int)]))), bx b_1 32 (plL p) true] [] := HP.rowOf (n := 5) 0 rfl rfl (by unfold maxLen; omega) _ rfl
 have H := H.as 3 (.slice (some ⟨b_3, 0, none⟩) (([p.channel, p.num, p.den, p.offset, (p.sh.length : Int)]).length) 5) rfl rfl
 refine tn (sq (sq (rg ?_)))
 refine H.v 4 (ii 0) fun a H => ?_
 refine nl (tn (bk ?_))
 have hz0 : ([p.channel, p.num, p.den, p.offset, (p.sh.length : Int)] ++ p.sh.flatMap altNs).length ≤ 1000000 := by have hc := hcnt; simp only [numsP, List.length_append, List.length_cons, List.length_nil] at hc ⊢; omega
 have e0 : [p.channel, p.num, p.den, p.offset, (p.sh.length : Int)] = [p.channel, p.num, p.den, p.offset, (p.sh.length : Int)] ++ (p.sh.take 0).flatMap altNs := by simp only [List.take_zero, List.flatMap_nil, List.append_nil]
 have HP : Hp w w_4 [(ownR w.heap.size 3 (.slice (some ⟨b_3, 0, none⟩) (([p.channel, p.num, p.den, p.offset, (p.sh.length : Int)] ++ (p.sh.take 0).flatMap altNs).length) 5) (ints ([p.channel, p.num, p.den, p.offset, (p.sh.length : Int)] ++ (p.sh.take 0).flatMap altNs))), bx b_1 32 (plL p) true] [] := by rw [← e0]; exact HP
 have H := H.as 3 (.slice (some ⟨b_3, 0, none⟩) (([p.channel, p.num, p.den, p.offset, (p.sh.length : Int)] ++ (p.sh.take 0).flatMap altNs).length) 5) rfl (by rw [← e0])
 refine w_loop (fun mm a wv => ∃ (i0 : Nat), ∃ (BB0 : Option Addr), ∃ (cc0 : Nat), p.sh.length - i0 = mm ∧ Sl 170 [(4, (ii i0)), (3, (.slice BB0 (([p.channel, p.num, p.den, p.offset, (p.sh.length : Int)] ++ (p.sh.take i0).flatMap altNs).length) cc0)), (1, (pt b_1 0))] a ∧ Hp w wv [(ownR w.heap.size 3 (.slice BB0 (([p.channel, p.num, p.den, p.offset, (p.sh.length : Int)] ++ (p.sh.take i0).flatMap altNs).length) cc0) (ints ([p.channel, p.num, p.den, p.offset, (p.sh.length : Int)] ++ (p.sh.take i0).flatMap altNs))), bx b_1 32 (plL p) true] [] ∧ (i0 ≤ p.sh.length)) (p.sh.length - 0) ?_ ?_
 ·exact ⟨0, (some ⟨b_3, 0, none⟩), 5, (by omega), H.keep (by kernel_rfl), HP, (Nat.zero_le _)⟩
 rintro mm a w_5 ⟨i0, BB0, cc0, hmeas, H, HP, hib0⟩
 refine sq (sq (rg ?_))
 refine H.v 27 (ii i0) fun a H => H.v 28 (pt b_1 3) fun a H => H.v 29 (pt b_1 4) fun a H => H.u 30 (.slice p.SA p.sh.length p.sc) (ex_l1 (HP.cell 1 rfl 4 rfl)) fun a H => H.v 31 (ii p.sh.length) fun a H => H.v 32 (.bool (decide ((i0 : Int) < (p.sh.length : Int)))) fun a H => ?_
 refine nl (tn ?_)
 refine w_if H rfl (fun g32 => ?_) (fun g32 => ?_)
 ·have g32p := of_decide_eq_true g32
  refine sk (tn (sq (bk ?_)))
  obtain ⟨bu_7, ou_8, x_6, hA_9, _, hd_11, hx_10, hm_12, _⟩ := IsRow.get altC_size (hpl.sh.below HP.bl) (i := i0) (by omega)
  have HP := HP.front 0 rfl _ rfl
  refine An.start (fun v => Hp w v [bx b_1 32 (plL p) true] []) 18 18 HP wide_follows rfl fun w_13 HP => ?_
  refine An.q H (.inr ((HP.tail rfl))) 0 35 (.slice BB0 (([p.channel, p.num, p.den, p.offset, (p.sh.length : Int)] ++ (p.sh.take i0).flatMap altNs).length) cc0) (fun _ => by kernel_rfl) fun a H => ?_
  refine An.p H (.inr ((HP.tail rfl))) 1 36 (pt b_1 3) fun a H => ?_
  refine An.p H (.inr ((HP.tail rfl))) 2 37 (pt b_1 4) fun a H => ?_
  refine An.vw H ((HP.tail rfl)) 3 38 (.slice p.SA p.sh.length p.sc) (fun _ hS => ex_l1 (hS.cell 0 rfl 4 rfl)) fun a H => ?_
  refine An.p H (.inr ((HP.tail rfl))) 4 39 (ii i0) fun a H => ?_
  refine An.q H (.inr ((HP.tail rfl))) 5 40 (.pointer (some ⟨bu_7, ou_8 + i0 * 2, none⟩)) (fun _ => ex_indexA (b := bu_7) (off := ou_8) (len := p.sh.length) (cap := p.sc) (e := 76) (k := 2) (ik := .i64) (i := (i0 : Int)) (m := i0) hA_9 (by kernel_rfl) (by kernel_rfl) (by omega) (by omega) (by kernel_rfl) (by kernel_rfl)) fun a H => ?_
  refine An.p H (.inr ((HP.tail rfl))) 6 41 (.pointer (some ⟨bu_7, ou_8 + i0 * 2, none⟩)) fun a H => ?_
  refine An.vw H ((HP.tail rfl)) 7 42 (ii x_6.1) (fun _ hS => ex_l1 (IsRow.cells altC_size (hpl.sh.below (hS.below (by kernel_rfl))) hA_9 hx_10 0 _ rfl)) fun a H => ?_
  refine An.p H (.inr ((HP.tail rfl))) 8 43 (pt b_1 3) fun a H => ?_
  refine An.p H (.inr ((HP.tail rfl))) 9 44 (pt b_1 4) fun a H => ?_
  refine An.vw H ((HP.tail rfl)) 10 45 (.slice p.SA p.sh.length p.sc) (fun _ hS => ex_l1 (hS.cell 0 rfl 4 rfl)) fun a H => ?_
  refine An.p H (.inr ((HP.tail rfl))) 11 46 (ii i0) fun a H => ?_
  refine An.q H (.inr ((HP.tail rfl))) 12 47 (.pointer (some ⟨bu_7, ou_8 + i0 * 2, none⟩)) (fun _ => ex_indexA (b := bu_7) (off := ou_8) (len := p.sh.length) (cap := p.sc) (e := 76) (k := 2) (ik := .i64) (i := (i0 : Int)) (m := i0) hA_9 (by kernel_rfl) (by kernel_rfl) (by omega) (by omega) (by kernel_rfl) (by kernel_rfl)) fun a H => ?_
  refine An.p H (.inr ((HP.tail rfl))) 13 48 (.pointer (some ⟨bu_7, ou_8 + i0 * 2 + 1, none⟩)) fun a H => ?_
  refine An.vw H ((HP.tail rfl)) 14 49 (ii x_6.2) (fun _ hS => ex_l1 (IsRow.cells altC_size (hpl.sh.below (hS.below (by kernel_rfl))) hA_9 hx_10 1 _ rfl)) fun a H => ?_
  refine An.one 15 (by kernel_rfl) ?_
  refine Op.alloc H HP 50 (fun b => (.slice (some ⟨b, 0, none⟩) 2 2)) 3 (alL x_6) rfl (by kernel_rfl) (fun w => by kernel_rfl) fun b_14 w_15 a H HP => ?_
  refine ⟨.inr (((HP.tail rfl).tail rfl)), ?_⟩
  refine An.one 16 (by kernel_rfl) ?_
  refine Op.appR H HP 51 1 (v := (.slice BB0 (([p.channel, p.num, p.den, p.offset, (p.sh.length : Int)] ++ (p.sh.take i0).flatMap altNs).length) cc0)) (xs := ints ([p.channel, p.num, p.den, p.offset, (p.sh.length : Int)] ++ (p.sh.take i0).flatMap altNs)) 3 (z := .int .i64 0) (bytes := 8) (some ⟨b_14, 0, none⟩) (2) (2) (ints (altNs x_6)) rfl (by kernel_rfl) (by kernel_rfl) (by kernel_rfl) (by kernel_rfl) (by kernel_rfl) rfl (by kernel_rfl) (fun h => by cases h) (Rd.of_box (HP.at_ 0 rfl) rfl) (ints_one1 _) (app_b1 (Z := [p.channel, p.num, p.den, p.offset, (p.sh.length : Int)] ++ (p.sh.take i0).flatMap altNs) (new := altNs x_6) (fl_bd hx_10 hz0) rfl) (app_b2 (Z := [p.channel, p.num, p.den, p.offset, (p.sh.length : Int)] ++ (p.sh.take i0).flatMap altNs) (new := altNs x_6) (fl_bd hx_10 hz0) rfl) fun B_16 c_17 w_18 a H HP => ?_
  have e1 : (ints ([p.channel, p.num, p.den, p.offset, (p.sh.length : Int)] ++ (p.sh.take i0).flatMap altNs)).length + 2 = ([p.channel, p.num, p.den, p.offset, (p.sh.length : Int)] ++ (p.sh.take i0).flatMap altNs ++ altNs x_6).length := app_len1 rfl
  have e2 : ints ([p.channel, p.num, p.den, p.offset, (p.sh.length : Int)] ++ (p.sh.take i0).flatMap altNs) ++ ints (altNs x_6) = ints ([p.channel, p.num, p.den, p.offset, (p.sh.length : Int)] ++ (p.sh.take i0).flatMap altNs ++ altNs x_6) := (List.map_append ..).symm
  have HP : Hp w w_18 [bx b_14 3 (alL x_6) true, (ownR w.heap.size 3 (.slice B_16 (([p.channel, p.num, p.den, p.offset, (p.sh.length : Int)] ++ (p.sh.take i0).flatMap altNs ++ altNs x_6).length) c_17) (ints ([p.channel, p.num, p.den, p.offset, (p.sh.length : Int)] ++ (p.sh.take i0).flatMap altNs ++ altNs x_6))), bx b_1 32 (plL p) true] [] := by have hh := HP; simp only [List.set] at hh; rw [e1, e2] at hh; exact hh
  have H := H.as 51 (.slice B_16 (([p.channel, p.num, p.den, p.offset, (p.sh.length : Int)] ++ (p.sh.take i0).flatMap altNs ++ altNs x_6).length) c_17) rfl (by rw [e1])
  clear e1 e2
  refine ⟨.inr (((HP.tail rfl).tail rfl)), ?_⟩
  refine An.q H (.inr (((HP.tail rfl).tail rfl))) 17 3 (.slice B_16 (([p.channel, p.num, p.den, p.offset, (p.sh.length : Int)] ++ (p.sh.take i0).flatMap altNs ++ altNs x_6).length) c_17) (fun _ => by kernel_rfl) fun a H => ?_
  refine An.done (by kernel_rfl) ?_
  refine ibn (tn (rg ?_))
  refine H.v 33 (ii i0) fun a H => H.valE 34 (ii (IntKind.i64.wrap ((i0 : Int) + 1))) (ii ((i0 : Int) + 1)) (by kernel_rfl) (by kernel_rfl) ((by rw [wrap_ini64 _ (by omega)])) fun a H => H.v 4 (ii ((i0 : Int) + 1)) fun a H => ?_
  refine nl (tn ?_)
  have e0 := fl_snoc (Z := ([p.channel, p.num, p.den, p.offset, (p.sh.length : Int)])) (f := altNs) hx_10
  have HP : Hp w w_18 [bx b_14 3 (alL x_6) true, (ownR w.heap.size 3 (.slice B_16 (([p.channel, p.num, p.den, p.offset, (p.sh.length : Int)] ++ (p.sh.take (i0 + 1)).flatMap altNs).length) c_17) (ints ([p.channel, p.num, p.den, p.offset, (p.sh.length : Int)] ++ (p.sh.take (i0 + 1)).flatMap altNs))), bx b_1 32 (plL p) true] [] := by rw [← e0]; exact HP
  have H := H.as 3 (.slice B_16 (([p.channel, p.num, p.den, p.offset, (p.sh.length : Int)] ++ (p.sh.take (i0 + 1)).flatMap altNs).length) c_17) rfl (by rw [← e0])
  have H := H.as 4 (ii ((i0 + 1 : Nat) : Int)) rfl rfl
  refine ⟨_, ?_, i0 + 1, B_16, c_17, rfl, H.keep (by kernel_rfl), (HP.sub [1, 2] _ rfl (by kernel_rfl)), (by omega)⟩
  omega
 have g32p := of_decide_eq_false g32
 refine wp_exit (then_exit (then_exit ?_))
 refine w_exit_here ?_
 refine tn (sq ?_)
 have e0 : p.sh.take i0 = p.sh := List.take_of_length_le (by omega)
 have HP : Hp w w_5 [(ownR w.heap.size 3 (.slice BB0 (([p.channel, p.num, p.den, p.offset, (p.sh.length : Int)] ++ p.sh.flatMap altNs).length) cc0) (ints ([p.channel, p.num, p.den, p.offset, (p.sh.length : Int)] ++ p.sh.flatMap altNs))), bx b_1 32 (plL p) true] [] := by have hh := HP; rw [e0] at hh; exact hh
 have H := H.as 3 (.slice BB0 (([p.channel, p.num, p.den, p.offset, (p.sh.length : Int)] ++ p.sh.flatMap altNs).length) cc0) rfl (by rw [e0])
 refine rg ?_
 refine H.v 52 (.slice BB0 (([p.channel, p.num, p.den, p.offset, (p.sh.length : Int)] ++ p.sh.flatMap altNs).length) cc0) fun a H => H.v 53 (pt b_1 5) fun a H => H.u 54 (ii p.epoch) (ex_l1 (HP.cell 1 rfl 5 rfl)) fun a H => H.v 55 (pt b_1 6) fun a H => H.u 56 (ii p.regions) (ex_l1 (HP.cell 1 rfl 6 rfl)) fun a H => H.v 57 (pt b_1 7) fun a H => H.u 58 (ii p.length) (ex_l1 (HP.cell 1 rfl 7 rfl)) fun a H => H.v 59 (pt b_1 8) fun a H => H.u 60 (ii p.fill) (ex_l1 (HP.cell 1 rfl 8 rfl)) fun a H => H.v 61 (pt b_1 9) fun a H => H.u 62 (.slice p.IA p.its.length p.ic) (ex_l1 (HP.cell 1 rfl 9 rfl)) fun a H => H.v 63 (ii p.its.length) fun a H => H.alloc HP 64 (fun b => (.slice (some ⟨b, 0, none⟩) 5 5)) 3 [(ii p.epoch), (ii p.regions), (ii p.length), (ii p.fill), (ii p.its.length)] (by kernel_rfl) (fun w => by kernel_rfl) fun b_19 w_20 a H HP => ?_
 refine H.appR HP 65 1 (v := (.slice BB0 (([p.channel, p.num, p.den, p.offset, (p.sh.length : Int)] ++ p.sh.flatMap altNs).length) cc0)) (xs := ints ([p.channel, p.num, p.den, p.offset, (p.sh.length : Int)] ++ p.sh.flatMap altNs)) 3 (z := .int .i64 0) (bytes := 8) (some ⟨b_19, 0, none⟩) (5) (5) (ints ([p.epoch, p.regions, p.length, p.fill, (p.its.length : Int)])) (by kernel_rfl) (by kernel_rfl) (by kernel_rfl) (by kernel_rfl) (by kernel_rfl) rfl (by kernel_rfl) (fun h => by cases h) (Rd.of_box (HP.at_ 0 rfl) rfl) (ints_one1 _) (app_b1 (Z := [p.channel, p.num, p.den, p.offset, (p.sh.length : Int)] ++ p.sh.flatMap altNs) (new := [p.epoch, p.regions, p.length, p.fill, (p.its.length : Int)]) (by have hc := hcnt; simp only [numsP, List.length_append, List.length_cons, List.length_nil] at hc ⊢; omega) rfl) (app_b2 (Z := [p.channel, p.num, p.den, p.offset, (p.sh.length : Int)] ++ p.sh.flatMap altNs) (new := [p.epoch, p.regions, p.length, p.fill, (p.its.length : Int)]) (by have hc := hcnt; simp only [numsP, List.length_append, List.length_cons, List.length_nil] at hc ⊢; omega) rfl) fun B_21 c_22 w_23 a H HP => ?_
 have e1 : (ints ([p.channel, p.num, p.den, p.offset, (p.sh.length : Int)] ++ p.sh.flatMap altNs)).length + 5 = ([p.channel, p.num, p.den, p.offset, (p.sh.length : Int)] ++ p.sh.flatMap altNs ++ [p.epoch, p.regions, p.length, p.fill, (p.its.length : Int)]).length := app_len1 rfl
 have e2 : ints ([p.channel, p.num, p.den, p.offset, (p.sh.length : Int)] ++ p.sh.flatMap altNs) ++ ints ([p.epoch, p.regions, p.length, p.fill, (p.its.length : Int)]) = ints ([p.channel, p.num, p.den, p.offset, (p.sh.length : Int)] ++ p.sh.flatMap altNs ++ [p.epoch, p.regions, p.length, p.fill, (p.its.length : Int)]) := (List.map_append ..).symm
 have HP : Hp w w_23 [bx b_19 3 [(ii p.epoch), (ii p.regions), (ii p.length), (ii p.fill), (ii p.its.length)] true, (ownR w.heap.size 3 (.slice B_21 (([p.channel, p.num, p.den, p.offset, (p.sh.length : Int)] ++ p.sh.flatMap altNs ++ [p.epoch, p.regions, p.length, p.fill, (p.its.length : Int)]).length) c_22) (ints ([p.channel, p.num, p.den, p.offset, (p.sh.length : Int)] ++ p.sh.flatMap altNs ++ [p.epoch, p.regions, p.length, p.fill, (p.its.length : Int)]))), bx b_1 32 (plL p) true] [] := by have hh := HP; simp only [List.set] at hh; rw [e1, e2] at hh; exact hh
 have H := H.as 65 (.slice B_21 (([p.channel, p.num, p.den, p.offset, (p.sh.length : Int)] ++ p.sh.flatMap altNs ++ [p.epoch, p.regions, p.length, p.fill, (p.its.length : Int)]).length) c_22) rfl (by rw [e1])
 clear e1 e2
 refine H.v 3 (.slice B_21 (([p.channel, p.num, p.den, p.offset, (p.sh.length : Int)] ++ p.sh.flatMap altNs ++ [p.epoch, p.regions, p.length, p.fill, (p.its.length : Int)]).length) c_22) fun a H => ?_
 refine nl (tn (sq (sq (rg ?_))))
 refine H.v 5 (ii 0) fun a H => ?_
 refine nl (tn (bk ?_))
 have hz1 : ([p.channel, p.num, p.den, p.offset, (p.sh.length : Int)] ++ p.sh.flatMap altNs ++ [p.epoch, p.regions, p.length, p.fill, (p.its.length : Int)] ++ p.its.flatMap itNs).length ≤ 1000000 := by have hc := hcnt; simp only [numsP, List.length_append, List.length_cons, List.length_nil] at hc ⊢; omega
 have e0 : [p.channel, p.num, p.den, p.offset, (p.sh.length : Int)] ++ p.sh.flatMap altNs ++ [p.epoch, p.regions, p.length, p.fill, (p.its.length : Int)] = [p.channel, p.num, p.den, p.offset, (p.sh.length : Int)] ++ p.sh.flatMap altNs ++ [p.epoch, p.regions, p.length, p.fill, (p.its.length : Int)] ++ (p.its.take 0).flatMap itNs := by simp only [List.take_zero, List.flatMap_nil, List.append_nil]
 have HP : Hp w w_23 [bx b_19 3 [(ii p.epoch), (ii p.regions), (ii p.length), (ii p.fill), (ii p.its.length)] true, (ownR w.heap.size 3 (.slice B_21 (([p.channel, p.num, p.den, p.offset, (p.sh.length : Int)] ++ p.sh.flatMap altNs ++ [p.epoch, p.regions, p.length, p.fill, (p.its.length : Int)] ++ (p.its.take 0).flatMap itNs).length) c_22) (ints ([p.channel, p.num, p.den, p.offset, (p.sh.length : Int)] ++ p.sh.flatMap altNs ++ [p.epoch, p.regions, p.length, p.fill, (p.its.length : Int)] ++ (p.its.take 0).flatMap itNs))), bx b_1 32 (plL p) true] [] := by rw [← e0]; exact HP
 have H := H.as 3 (.slice B_21 (([p.channel, p.num, p.den, p.offset, (p.sh.length : Int)] ++ p.sh.flatMap altNs ++ [p.epoch, p.regions, p.length, p.fill, (p.its.length : Int)] ++ (p.its.take 0).flatMap itNs).length) c_22) rfl (by rw [← e0])
 refine w_loop (fun mm a wv => ∃ (i1 : Nat), ∃ (BB1 : Option Addr), ∃ (cc1 : Nat), p.its.length - i1 = mm ∧ Sl 170 [(5, (ii i1)), (3, (.slice BB1 (([p.channel, p.num, p.den, p.offset, (p.sh.length : Int)] ++ p.sh.flatMap altNs ++ [p.epoch, p.regions, p.length, p.fill, (p.its.length : Int)] ++ (p.its.take i1).flatMap itNs).length) cc1)), (1, (pt b_1 0))] a ∧ Hp w wv [bx b_19 3 [(ii p.epoch), (ii p.regions), (ii p.length), (ii p.fill), (ii p.its.length)] true, (ownR w.heap.size 3 (.slice BB1 (([p.channel, p.num, p.den, p.offset, (p.sh.length : Int)] ++ p.sh.flatMap altNs ++ [p.epoch, p.regions, p.length, p.fill, (p.its.length : Int)] ++ (p.its.take i1).flatMap itNs).length) cc1) (ints ([p.channel, p.num, p.den, p.offset, (p.sh.length : Int)] ++ p.sh.flatMap altNs ++ [p.epoch, p.regions, p.length, p.fill, (p.its.length : Int)] ++ (p.its.take i1).flatMap itNs))), bx b_1 32 (plL p) true] [] ∧ (i1 ≤ p.its.length)) (p.its.length - 0) ?_ ?_
 ·exact ⟨0, B_21, c_22, (by omega), H.keep (by kernel_rfl), HP, (Nat.zero_le _)⟩
 rintro mm a w_24 ⟨i1, BB1, cc1, hmeas, H, HP, hib1⟩
 refine sq (sq (rg ?_))
 refine H.v 66 (ii i1) fun a H => H.v 67 (pt b_1 9) fun a H => H.u 68 (.slice p.IA p.its.length p.ic) (ex_l1 (HP.cell 2 rfl 9 rfl)) fun a H => H.v 69 (ii p.its.length) fun a H => H.v 70 (.bool (decide ((i1 : Int) < (p.its.length : Int)))) fun a H => ?_
 refine nl (tn ?_)
 refine w_if H rfl (fun g70 => ?_) (fun g70 => ?_)
 ·have g70p := of_decide_eq_true g70
  refine sk (tn (sq (bk (sq ?_))))
  obtain ⟨bu_26, ou_27, x_25, hA_28, _, hd_30, hx_29, hm_31, _⟩ := IsRow.get itC_size (hpl.its.below HP.bl) (i := i1) (by omega)
  refine rg ?_
  refine H.v 73 (pt b_1 9) fun a H => H.u 74 (.slice p.IA p.its.length p.ic) (ex_l1 (HP.cell 2 rfl 9 rfl)) fun a H => H.v 75 (ii i1) fun a H => H.u 76 (.pointer (some ⟨bu_26, ou_27 + i1 * 5, none⟩)) (ex_indexA (b := bu_26) (off := ou_27) (len := p.its.length) (cap := p.ic) (e := 38) (k := 5) (ik := .i64) (i := (i1 : Int)) (m := i1) hA_28 (by kernel_rfl) (by kernel_rfl) (by omega) (by omega) (by kernel_rfl) (by kernel_rfl)) fun a H => H.u 77 (itV x_25) (ex_lN (itL x_25) (IsRow.cells itC_size (hpl.its.below HP.bl) hA_28 hx_29)) fun a H => H.al HP 6 38 [(ii 0), (ii 0), (ii 0), (ii 0), (ii 0)] fun b_32 w_33 a H HP => H.st HP 0 b_32 0 5 38 true (itV x_25) [bx b_32 38 (itL x_25) true, bx b_19 3 [(ii p.epoch), (ii p.regions), (ii p.length), (ii p.fill), (ii p.its.length)] true, (ownR w.heap.size 3 (.slice BB1 (([p.channel, p.num, p.den, p.offset, (p.sh.length : Int)] ++ p.sh.flatMap altNs ++ [p.epoch, p.regions, p.length, p.fill, (p.its.length : Int)] ++ (p.its.take i1).flatMap itNs).length) cc1) (ints ([p.channel, p.num, p.den, p.offset, (p.sh.length : Int)] ++ p.sh.flatMap altNs ++ [p.epoch, p.regions, p.length, p.fill, (p.its.length : Int)] ++ (p.its.take i1).flatMap itNs))), bx b_1 32 (plL p) true] rfl fun w_34 a H HP => ?_
  refine nl (tn (rg ?_))
  refine H.v 78 (.slice BB1 (([p.channel, p.num, p.den, p.offset, (p.sh.length : Int)] ++ p.sh.flatMap altNs ++ [p.epoch, p.regions, p.length, p.fill, (p.its.length : Int)] ++ (p.its.take i1).flatMap itNs).length) cc1) fun a H => H.v 79 (pt b_32 0) fun a H => H.u 80 (ii x_25.id) (ex_l1 (HP.cell 0 rfl 0 rfl)) fun a H => H.v 81 (pt b_32 1) fun a H => H.u 82 (ii x_25.kind) (ex_l1 (HP.cell 0 rfl 1 rfl)) fun a H => H.v 83 (pt b_32 2) fun a H => H.u 84 (ii x_25.frames) (ex_l1 (HP.cell 0 rfl 2 rfl)) fun a H => H.v 85 (pt b_32 3) fun a H => H.u 86 (ii x_25.sponsor) (ex_l1 (HP.cell 0 rfl 3 rfl)) fun a H => H.v 87 (pt b_32 4) fun a H => H.u 88 (ii x_25.rating) (ex_l1 (HP.cell 0 rfl 4 rfl)) fun a H => H.alloc HP 89 (fun b => (.slice (some ⟨b, 0, none⟩) 5 5)) 3 (itL x_25) (by kernel_rfl) (fun w => by kernel_rfl) fun b_35 w_36 a H HP => ?_
  refine H.appR HP 90 3 (v := (.slice BB1 (([p.channel, p.num, p.den, p.offset, (p.sh.length : Int)] ++ p.sh.flatMap altNs ++ [p.epoch, p.regions, p.length, p.fill, (p.its.length : Int)] ++ (p.its.take i1).flatMap itNs).length) cc1)) (xs := ints ([p.channel, p.num, p.den, p.offset, (p.sh.length : Int)] ++ p.sh.flatMap altNs ++ [p.epoch, p.regions, p.length, p.fill, (p.its.length : Int)] ++ (p.its.take i1).flatMap itNs)) 3 (z := .int .i64 0) (bytes := 8) (some ⟨b_35, 0, none⟩) (5) (5) (ints (itNs x_25)) (by kernel_rfl) (by kernel_rfl) (by kernel_rfl) (by kernel_rfl) (by kernel_rfl) rfl (by kernel_rfl) (fun h => by cases h) (Rd.of_box (HP.at_ 0 rfl) rfl) (ints_one1 _) (app_b1 (Z := [p.channel, p.num, p.den, p.offset, (p.sh.length : Int)] ++ p.sh.flatMap altNs ++ [p.epoch, p.regions, p.length, p.fill, (p.its.length : Int)] ++ (p.its.take i1).flatMap itNs) (new := itNs x_25) (fl_bd hx_29 hz1) rfl) (app_b2 (Z := [p.channel, p.num, p.den, p.offset, (p.sh.length : Int)] ++ p.sh.flatMap altNs ++ [p.epoch, p.regions, p.length, p.fill, (p.its.length : Int)] ++ (p.its.take i1).flatMap itNs) (new := itNs x_25) (fl_bd hx_29 hz1) rfl) fun B_37 c_38 w_39 a H HP => ?_
  have e1 : (ints ([p.channel, p.num, p.den, p.offset, (p.sh.length : Int)] ++ p.sh.flatMap altNs ++ [p.epoch, p.regions, p.length, p.fill, (p.its.length : Int)] ++ (p.its.take i1).flatMap itNs)).length + 5 = ([p.channel, p.num, p.den, p.offset, (p.sh.length : Int)] ++ p.sh.flatMap altNs ++ [p.epoch, p.regions, p.length, p.fill, (p.its.length : Int)] ++ (p.its.take i1).flatMap itNs ++ itNs x_25).length := app_len1 rfl
  have e2 : ints ([p.channel, p.num, p.den, p.offset, (p.sh.length : Int)] ++ p.sh.flatMap altNs ++ [p.epoch, p.regions, p.length, p.fill, (p.its.length : Int)] ++ (p.its.take i1).flatMap itNs) ++ ints (itNs x_25) = ints ([p.channel, p.num, p.den, p.offset, (p.sh.length : Int)] ++ p.sh.flatMap altNs ++ [p.epoch, p.regions, p.length, p.fill, (p.its.length : Int)] ++ (p.its.take i1).flatMap itNs ++ itNs x_25) := (List.map_append ..).symm
  have HP : Hp w w_39 [bx b_35 3 (itL x_25) true, bx b_32 38 (itL x_25) true, bx b_19 3 [(ii p.epoch), (ii p.regions), (ii p.length), (ii p.fill), (ii p.its.length)] true, (ownR w.heap.size 3 (.slice B_37 (([p.channel, p.num, p.den, p.offset, (p.sh.length : Int)] ++ p.sh.flatMap altNs ++ [p.epoch, p.regions, p.length, p.fill, (p.its.length : Int)] ++ (p.its.take i1).flatMap itNs ++ itNs x_25).length) c_38) (ints ([p.channel, p.num, p.den, p.offset, (p.sh.length : Int)] ++ p.sh.flatMap altNs ++ [p.epoch, p.regions, p.length, p.fill, (p.its.length : Int)] ++ (p.its.take i1).flatMap itNs ++ itNs x_25))), bx b_1 32 (plL p) true] [] := by have hh := HP; simp only [List.set] at hh; rw [e1, e2] at hh; exact hh
  have H := H.as 90 (.slice B_37 (([p.channel, p.num, p.den, p.offset, (p.sh.length : Int)] ++ p.sh.flatMap altNs ++ [p.epoch, p.regions, p.length, p.fill, (p.its.length : Int)] ++ (p.its.take i1).flatMap itNs ++ itNs x_25).length) c_38) rfl (by rw [e1])
  clear e1 e2
  refine H.v 3 (.slice B_37 (([p.channel, p.num, p.den, p.offset, (p.sh.length : Int)] ++ p.sh.flatMap altNs ++ [p.epoch, p.regions, p.length, p.fill, (p.its.length : Int)] ++ (p.its.take i1).flatMap itNs ++ itNs x_25).length) c_38) fun a H => ?_
  refine nl (ibn (tn (rg ?_)))
  refine H.v 71 (ii i1) fun a H => H.valE 72 (ii (IntKind.i64.wrap ((i1 : Int) + 1))) (ii ((i1 : Int) + 1)) (by kernel_rfl) (by kernel_rfl) ((by rw [wrap_ini64 _ (by omega)])) fun a H => H.v 5 (ii ((i1 : Int) + 1)) fun a H => ?_
  refine nl (tn ?_)
  have e0 := fl_snoc (Z := ([p.channel, p.num, p.den, p.offset, (p.sh.length : Int)] ++ p.sh.flatMap altNs ++ [p.epoch, p.regions, p.length, p.fill, (p.its.length : Int)])) (f := itNs) hx_29
  have HP : Hp w w_39 [bx b_35 3 (itL x_25) true, bx b_32 38 (itL x_25) true, bx b_19 3 [(ii p.epoch), (ii p.regions), (ii p.length), (ii p.fill), (ii p.its.length)] true, (ownR w.heap.size 3 (.slice B_37 (([p.channel, p.num, p.den, p.offset, (p.sh.length : Int)] ++ p.sh.flatMap altNs ++ [p.epoch, p.regions, p.length, p.fill, (p.its.length : Int)] ++ (p.its.take (i1 + 1)).flatMap itNs).length) c_38) (ints ([p.channel, p.num, p.den, p.offset, (p.sh.length : Int)] ++ p.sh.flatMap altNs ++ [p.epoch, p.regions, p.length, p.fill, (p.its.length : Int)] ++ (p.its.take (i1 + 1)).flatMap itNs))), bx b_1 32 (plL p) true] [] := by rw [← e0]; exact HP
  have H := H.as 3 (.slice B_37 (([p.channel, p.num, p.den, p.offset, (p.sh.length : Int)] ++ p.sh.flatMap altNs ++ [p.epoch, p.regions, p.length, p.fill, (p.its.length : Int)] ++ (p.its.take (i1 + 1)).flatMap itNs).length) c_38) rfl (by rw [← e0])
  have H := H.as 5 (ii ((i1 + 1 : Nat) : Int)) rfl rfl
  refine ⟨_, ?_, i1 + 1, B_37, c_38, rfl, H.keep (by kernel_rfl), (HP.sub [2, 3, 4] _ rfl (by kernel_rfl)), (by omega)⟩
  omega
 have g70p := of_decide_eq_false g70
 refine wp_exit (then_exit (then_exit ?_))
 refine w_exit_here ?_
 refine tn (sq ?_)
 have e0 : p.its.take i1 = p.its := List.take_of_length_le (by omega)
 have HP : Hp w w_24 [bx b_19 3 [(ii p.epoch), (ii p.regions), (ii p.length), (ii p.fill), (ii p.its.length)] true, (ownR w.heap.size 3 (.slice BB1 (([p.channel, p.num, p.den, p.offset, (p.sh.length : Int)] ++ p.sh.flatMap altNs ++ [p.epoch, p.regions, p.length, p.fill, (p.its.length : Int)] ++ p.its.flatMap itNs).length) cc1) (ints ([p.channel, p.num, p.den, p.offset, (p.sh.length : Int)] ++ p.sh.flatMap altNs ++ [p.epoch, p.regions, p.length, p.fill, (p.its.length : Int)] ++ p.its.flatMap itNs))), bx b_1 32 (plL p) true] [] := by have hh := HP; rw [e0] at hh; exact hh
 have H := H.as 3 (.slice BB1 (([p.channel, p.num, p.den, p.offset, (p.sh.length : Int)] ++ p.sh.flatMap altNs ++ [p.epoch, p.regions, p.length, p.fill, (p.its.length : Int)] ++ p.its.flatMap itNs).length) cc1) rfl (by rw [e0])
 refine rg ?_
 refine H.v 91 (.slice BB1 (([p.channel, p.num, p.den, p.offset, (p.sh.length : Int)] ++ p.sh.flatMap altNs ++ [p.epoch, p.regions, p.length, p.fill, (p.its.length : Int)] ++ p.its.flatMap itNs).length) cc1) fun a H => H.v 92 (pt b_1 10) fun a H => H.u 93 (.slice p.EA p.es.length p.ec) (ex_l1 (HP.cell 2 rfl 10 rfl)) fun a H => H.v 94 (ii p.es.length) fun a H => H.alloc HP 95 (fun b => (.slice (some ⟨b, 0, none⟩) 1 1)) 3 [(ii p.es.length)] (by kernel_rfl) (fun w => by kernel_rfl) fun b_40 w_41 a H HP => ?_
 refine H.appR HP 96 2 (v := (.slice BB1 (([p.channel, p.num, p.den, p.offset, (p.sh.length : Int)] ++ p.sh.flatMap altNs ++ [p.epoch, p.regions, p.length, p.fill, (p.its.length : Int)] ++ p.its.flatMap itNs).length) cc1)) (xs := ints ([p.channel, p.num, p.den, p.offset, (p.sh.length : Int)] ++ p.sh.flatMap altNs ++ [p.epoch, p.regions, p.length, p.fill, (p.its.length : Int)] ++ p.its.flatMap itNs)) 3 (z := .int .i64 0) (bytes := 8) (some ⟨b_40, 0, none⟩) (1) (1) (ints ([(p.es.length : Int)])) (by kernel_rfl) (by kernel_rfl) (by kernel_rfl) (by kernel_rfl) (by kernel_rfl) rfl (by kernel_rfl) (fun h => by cases h) (Rd.of_box (HP.at_ 0 rfl) rfl) (ints_one1 _) (app_b1 (Z := [p.channel, p.num, p.den, p.offset, (p.sh.length : Int)] ++ p.sh.flatMap altNs ++ [p.epoch, p.regions, p.length, p.fill, (p.its.length : Int)] ++ p.its.flatMap itNs) (new := [(p.es.length : Int)]) (by have hc := hcnt; simp only [numsP, List.length_append, List.length_cons, List.length_nil] at hc ⊢; omega) rfl) (app_b2 (Z := [p.channel, p.num, p.den, p.offset, (p.sh.length : Int)] ++ p.sh.flatMap altNs ++ [p.epoch, p.regions, p.length, p.fill, (p.its.length : Int)] ++ p.its.flatMap itNs) (new := [(p.es.length : Int)]) (by have hc := hcnt; simp only [numsP, List.length_append, List.length_cons, List.length_nil] at hc ⊢; omega) rfl) fun B_42 c_43 w_44 a H HP => ?_
 have e1 : (ints ([p.channel, p.num, p.den, p.offset, (p.sh.length : Int)] ++ p.sh.flatMap altNs ++ [p.epoch, p.regions, p.length, p.fill, (p.its.length : Int)] ++ p.its.flatMap itNs)).length + 1 = ([p.channel, p.num, p.den, p.offset, (p.sh.length : Int)] ++ p.sh.flatMap altNs ++ [p.epoch, p.regions, p.length, p.fill, (p.its.length : Int)] ++ p.its.flatMap itNs ++ [(p.es.length : Int)]).length := app_len1 rfl
 have e2 : ints ([p.channel, p.num, p.den, p.offset, (p.sh.length : Int)] ++ p.sh.flatMap altNs ++ [p.epoch, p.regions, p.length, p.fill, (p.its.length : Int)] ++ p.its.flatMap itNs) ++ ints ([(p.es.length : Int)]) = ints ([p.channel, p.num, p.den, p.offset, (p.sh.length : Int)] ++ p.sh.flatMap altNs ++ [p.epoch, p.regions, p.length, p.fill, (p.its.length : Int)] ++ p.its.flatMap itNs ++ [(p.es.length : Int)]) := (List.map_append ..).symm
 have HP : Hp w w_44 [bx b_40 3 [(ii p.es.length)] true, bx b_19 3 [(ii p.epoch), (ii p.regions), (ii p.length), (ii p.fill), (ii p.its.length)] true, (ownR w.heap.size 3 (.slice B_42 (([p.channel, p.num, p.den, p.offset, (p.sh.length : Int)] ++ p.sh.flatMap altNs ++ [p.epoch, p.regions, p.length, p.fill, (p.its.length : Int)] ++ p.its.flatMap itNs ++ [(p.es.length : Int)]).length) c_43) (ints ([p.channel, p.num, p.den, p.offset, (p.sh.length : Int)] ++ p.sh.flatMap altNs ++ [p.epoch, p.regions, p.length, p.fill, (p.its.length : Int)] ++ p.its.flatMap itNs ++ [(p.es.length : Int)]))), bx b_1 32 (plL p) true] [] := by have hh := HP; simp only [List.set] at hh; rw [e1, e2] at hh; exact hh
 have H := H.as 96 (.slice B_42 (([p.channel, p.num, p.den, p.offset, (p.sh.length : Int)] ++ p.sh.flatMap altNs ++ [p.epoch, p.regions, p.length, p.fill, (p.its.length : Int)] ++ p.its.flatMap itNs ++ [(p.es.length : Int)]).length) c_43) rfl (by rw [e1])
 clear e1 e2
 refine H.v 3 (.slice B_42 (([p.channel, p.num, p.den, p.offset, (p.sh.length : Int)] ++ p.sh.flatMap altNs ++ [p.epoch, p.regions, p.length, p.fill, (p.its.length : Int)] ++ p.its.flatMap itNs ++ [(p.es.length : Int)]).length) c_43) fun a H => ?_
 refine nl (tn (sq (sq (rg ?_))))
 refine H.v 7 (ii 0) fun a H => ?_
 refine nl (tn (bk ?_))
 have hz2 : ([p.channel, p.num, p.den, p.offset, (p.sh.length : Int)] ++ p.sh.flatMap altNs ++ [p.epoch, p.regions, p.length, p.fill, (p.its.length : Int)] ++ p.its.flatMap itNs ++ [(p.es.length : Int)] ++ p.es.flatMap enNs).length ≤ 1000000 := by have hc := hcnt; simp only [numsP, List.length_append, List.length_cons, List.length_nil] at hc ⊢; omega
 have e0 : [p.channel, p.num, p.den, p.offset, (p.sh.length : Int)] ++ p.sh.flatMap altNs ++ [p.epoch, p.regions, p.length, p.fill, (p.its.length : Int)] ++ p.its.flatMap itNs ++ [(p.es.length : Int)] = [p.channel, p.num, p.den, p.offset, (p.sh.length : Int)] ++ p.sh.flatMap altNs ++ [p.epoch, p.regions, p.length, p.fill, (p.its.length : Int)] ++ p.its.flatMap itNs ++ [(p.es.length : Int)] ++ (p.es.take 0).flatMap enNs := by simp only [List.take_zero, List.flatMap_nil, List.append_nil]
 have HP : Hp w w_44 [bx b_40 3 [(ii p.es.length)] true, bx b_19 3 [(ii p.epoch), (ii p.regions), (ii p.length), (ii p.fill), (ii p.its.length)] true, (ownR w.heap.size 3 (.slice B_42 (([p.channel, p.num, p.den, p.offset, (p.sh.length : Int)] ++ p.sh.flatMap altNs ++ [p.epoch, p.regions, p.length, p.fill, (p.its.length : Int)] ++ p.its.flatMap itNs ++ [(p.es.length : Int)] ++ (p.es.take 0).flatMap enNs).length) c_43) (ints ([p.channel, p.num, p.den, p.offset, (p.sh.length : Int)] ++ p.sh.flatMap altNs ++ [p.epoch, p.regions, p.length, p.fill, (p.its.length : Int)] ++ p.its.flatMap itNs ++ [(p.es.length : Int)] ++ (p.es.take 0).flatMap enNs))), bx b_1 32 (plL p) true] [] := by rw [← e0]; exact HP
 have H := H.as 3 (.slice B_42 (([p.channel, p.num, p.den, p.offset, (p.sh.length : Int)] ++ p.sh.flatMap altNs ++ [p.epoch, p.regions, p.length, p.fill, (p.its.length : Int)] ++ p.its.flatMap itNs ++ [(p.es.length : Int)] ++ (p.es.take 0).flatMap enNs).length) c_43) rfl (by rw [← e0])
 refine w_loop (fun mm a wv => ∃ (i2 : Nat), ∃ (BB2 : Option Addr), ∃ (cc2 : Nat), p.es.length - i2 = mm ∧ Sl 170 [(7, (ii i2)), (3, (.slice BB2 (([p.channel, p.num, p.den, p.offset, (p.sh.length : Int)] ++ p.sh.flatMap altNs ++ [p.epoch, p.regions, p.length, p.fill, (p.its.length : Int)] ++ p.its.flatMap itNs ++ [(p.es.length : Int)] ++ (p.es.take i2).flatMap enNs).length) cc2)), (1, (pt b_1 0))] a ∧ Hp w wv [bx b_40 3 [(ii p.es.length)] true, bx b_19 3 [(ii p.epoch), (ii p.regions), (ii p.length), (ii p.fill), (ii p.its.length)] true, (ownR w.heap.size 3 (.slice BB2 (([p.channel, p.num, p.den, p.offset, (p.sh.length : Int)] ++ p.sh.flatMap altNs ++ [p.epoch, p.regions, p.length, p.fill, (p.its.length : Int)] ++ p.its.flatMap itNs ++ [(p.es.length : Int)] ++ (p.es.take i2).flatMap enNs).length) cc2) (ints ([p.channel, p.num, p.den, p.offset, (p.sh.length : Int)] ++ p.sh.flatMap altNs ++ [p.epoch, p.regions, p.length, p.fill, (p.its.length : Int)] ++ p.its.flatMap itNs ++ [(p.es.length : Int)] ++ (p.es.take i2).flatMap enNs))), bx b_1 32 (plL p) true] [] ∧ (i2 ≤ p.es.length)) (p.es.length - 0) ?_ ?_
 ·exact ⟨0, B_42, c_43, (by omega), H.keep (by kernel_rfl), HP, (Nat.zero_le _)⟩
 rintro mm a w_45 ⟨i2, BB2, cc2, hmeas, H, HP, hib2⟩
 refine sq (sq (rg ?_))
 refine H.v 97 (ii i2) fun a H => H.v 98 (pt b_1 10) fun a H => H.u 99 (.slice p.EA p.es.length p.ec) (ex_l1 (HP.cell 3 rfl 10 rfl)) fun a H => H.v 100 (ii p.es.length) fun a H => H.v 101 (.bool (decide ((i2 : Int) < (p.es.length : Int)))) fun a H => ?_
 refine nl (tn ?_)
 refine w_if H rfl (fun g101 => ?_) (fun g101 => ?_)
 ·have g101p := of_decide_eq_true g101
  refine sk (tn (sq (bk ?_)))
  obtain ⟨bu_47, ou_48, x_46, hA_49, _, hd_51, hx_50, hm_52, _⟩ := IsRow.get enC_size (hpl.es.below HP.bl).row (i := i2) (by omega)
  refine rg ?_
  refine H.v 104 (.slice BB2 (([p.channel, p.num, p.den, p.offset, (p.sh.length : Int)] ++ p.sh.flatMap altNs ++ [p.epoch, p.regions, p.length, p.fill, (p.its.length : Int)] ++ p.its.flatMap itNs ++ [(p.es.length : Int)] ++ (p.es.take i2).flatMap enNs).length) cc2) fun a H => H.v 105 (pt b_1 10) fun a H => H.u 106 (.slice p.EA p.es.length p.ec) (ex_l1 (HP.cell 3 rfl 10 rfl)) fun a H => H.v 107 (ii i2) fun a H => H.u 108 (.pointer (some ⟨bu_47, ou_48 + i2 * 7, none⟩)) (ex_indexA (b := bu_47) (off := ou_48) (len := p.es.length) (cap := p.ec) (e := 43) (k := 7) (ik := .i64) (i := (i2 : Int)) (m := i2) hA_49 (by kernel_rfl) (by kernel_rfl) (by omega) (by omega) (by kernel_rfl) (by kernel_rfl)) fun a H => H.u 109 (enV x_46) (ex_lN (enL x_46) (IsRow.cells enC_size (hpl.es.below HP.bl).row hA_49 hx_50)) fun a H => ?_
  refine H.cl 110 (Tryz.call94 _ _) (rentryNs_any x_46 w_45 ((hpl.es.below HP.bl).ok _ hm_52) (hal _ hm_52)) ?_
  rintro e w_53 ⟨br, cr, rfl, hrd, hb⟩
  refine ⟨_, rfl, ?_⟩
  intro a H
  have HP := HP.next hb
  refine H.appR HP 111 2 (v := (.slice BB2 (([p.channel, p.num, p.den, p.offset, (p.sh.length : Int)] ++ p.sh.flatMap altNs ++ [p.epoch, p.regions, p.length, p.fill, (p.its.length : Int)] ++ p.its.flatMap itNs ++ [(p.es.length : Int)] ++ (p.es.take i2).flatMap enNs).length) cc2)) (xs := ints ([p.channel, p.num, p.den, p.offset, (p.sh.length : Int)] ++ p.sh.flatMap altNs ++ [p.epoch, p.regions, p.length, p.fill, (p.its.length : Int)] ++ p.its.flatMap itNs ++ [(p.es.length : Int)] ++ (p.es.take i2).flatMap enNs)) 3 (z := .int .i64 0) (bytes := 8) (some ⟨br, 0, none⟩) ((enNs x_46).length) (cr) (ints (enNs x_46)) (by kernel_rfl) (by kernel_rfl) (by kernel_rfl) (by kernel_rfl) (by kernel_rfl) rfl (by kernel_rfl) (fun h => by cases h) (hrd) (ints_one1 _) (app_b1 (Z := [p.channel, p.num, p.den, p.offset, (p.sh.length : Int)] ++ p.sh.flatMap altNs ++ [p.epoch, p.regions, p.length, p.fill, (p.its.length : Int)] ++ p.its.flatMap itNs ++ [(p.es.length : Int)] ++ (p.es.take i2).flatMap enNs) (new := enNs x_46) (fl_bd hx_50 hz2) rfl) (app_b2 (Z := [p.channel, p.num, p.den, p.offset, (p.sh.length : Int)] ++ p.sh.flatMap altNs ++ [p.epoch, p.regions, p.length, p.fill, (p.its.length : Int)] ++ p.its.flatMap itNs ++ [(p.es.length : Int)] ++ (p.es.take i2).flatMap enNs) (new := enNs x_46) (fl_bd hx_50 hz2) rfl) fun B_54 c_55 w_56 a H HP => ?_
  have e1 : (ints ([p.channel, p.num, p.den, p.offset, (p.sh.length : Int)] ++ p.sh.flatMap altNs ++ [p.epoch, p.regions, p.length, p.fill, (p.its.length : Int)] ++ p.its.flatMap itNs ++ [(p.es.length : Int)] ++ (p.es.take i2).flatMap enNs)).length + (enNs x_46).length = ([p.channel, p.num, p.den, p.offset, (p.sh.length : Int)] ++ p.sh.flatMap altNs ++ [p.epoch, p.regions, p.length, p.fill, (p.its.length : Int)] ++ p.its.flatMap itNs ++ [(p.es.length : Int)] ++ (p.es.take i2).flatMap enNs ++ enNs x_46).length := app_len1 rfl
  have e2 : ints ([p.channel, p.num, p.den, p.offset, (p.sh.length : Int)] ++ p.sh.flatMap altNs ++ [p.epoch, p.regions, p.length, p.fill, (p.its.length : Int)] ++ p.its.flatMap itNs ++ [(p.es.length : Int)] ++ (p.es.take i2).flatMap enNs) ++ ints (enNs x_46) = ints ([p.channel, p.num, p.den, p.offset, (p.sh.length : Int)] ++ p.sh.flatMap altNs ++ [p.epoch, p.regions, p.length, p.fill, (p.its.length : Int)] ++ p.its.flatMap itNs ++ [(p.es.length : Int)] ++ (p.es.take i2).flatMap enNs ++ enNs x_46) := (List.map_append ..).symm
  have HP : Hp w w_56 [bx b_40 3 [(ii p.es.length)] true, bx b_19 3 [(ii p.epoch), (ii p.regions), (ii p.length), (ii p.fill), (ii p.its.length)] true, (ownR w.heap.size 3 (.slice B_54 (([p.channel, p.num, p.den, p.offset, (p.sh.length : Int)] ++ p.sh.flatMap altNs ++ [p.epoch, p.regions, p.length, p.fill, (p.its.length : Int)] ++ p.its.flatMap itNs ++ [(p.es.length : Int)] ++ (p.es.take i2).flatMap enNs ++ enNs x_46).length) c_55) (ints ([p.channel, p.num, p.den, p.offset, (p.sh.length : Int)] ++ p.sh.flatMap altNs ++ [p.epoch, p.regions, p.length, p.fill, (p.its.length : Int)] ++ p.its.flatMap itNs ++ [(p.es.length : Int)] ++ (p.es.take i2).flatMap enNs ++ enNs x_46))), bx b_1 32 (plL p) true] [] := by have hh := HP; simp only [List.set] at hh; rw [e1, e2] at hh; exact hh
  have H := H.as 111 (.slice B_54 (([p.channel, p.num, p.den, p.offset, (p.sh.length : Int)] ++ p.sh.flatMap altNs ++ [p.epoch, p.regions, p.length, p.fill, (p.its.length : Int)] ++ p.its.flatMap itNs ++ [(p.es.length : Int)] ++ (p.es.take i2).flatMap enNs ++ enNs x_46).length) c_55) rfl (by rw [e1])
  clear e1 e2
  refine H.v 3 (.slice B_54 (([p.channel, p.num, p.den, p.offset, (p.sh.length : Int)] ++ p.sh.flatMap altNs ++ [p.epoch, p.regions, p.length, p.fill, (p.its.length : Int)] ++ p.its.flatMap itNs ++ [(p.es.length : Int)] ++ (p.es.take i2).flatMap enNs ++ enNs x_46).length) c_55) fun a H => ?_
  refine nl (ibn (tn (rg ?_)))
  refine H.v 102 (ii i2) fun a H => H.valE 103 (ii (IntKind.i64.wrap ((i2 : Int) + 1))) (ii ((i2 : Int) + 1)) (by kernel_rfl) (by kernel_rfl) ((by rw [wrap_ini64 _ (by omega)])) fun a H => H.v 7 (ii ((i2 : Int) + 1)) fun a H => ?_
  refine nl (tn ?_)
  have e0 := fl_snoc (Z := ([p.channel, p.num, p.den, p.offset, (p.sh.length : Int)] ++ p.sh.flatMap altNs ++ [p.epoch, p.regions, p.length, p.fill, (p.its.length : Int)] ++ p.its.flatMap itNs ++ [(p.es.length : Int)])) (f := enNs) hx_50
  have HP : Hp w w_56 [bx b_40 3 [(ii p.es.length)] true, bx b_19 3 [(ii p.epoch), (ii p.regions), (ii p.length), (ii p.fill), (ii p.its.length)] true, (ownR w.heap.size 3 (.slice B_54 (([p.channel, p.num, p.den, p.offset, (p.sh.length : Int)] ++ p.sh.flatMap altNs ++ [p.epoch, p.regions, p.length, p.fill, (p.its.length : Int)] ++ p.its.flatMap itNs ++ [(p.es.length : Int)] ++ (p.es.take (i2 + 1)).flatMap enNs).length) c_55) (ints ([p.channel, p.num, p.den, p.offset, (p.sh.length : Int)] ++ p.sh.flatMap altNs ++ [p.epoch, p.regions, p.length, p.fill, (p.its.length : Int)] ++ p.its.flatMap itNs ++ [(p.es.length : Int)] ++ (p.es.take (i2 + 1)).flatMap enNs))), bx b_1 32 (plL p) true] [] := by rw [← e0]; exact HP
  have H := H.as 3 (.slice B_54 (([p.channel, p.num, p.den, p.offset, (p.sh.length : Int)] ++ p.sh.flatMap altNs ++ [p.epoch, p.regions, p.length, p.fill, (p.its.length : Int)] ++ p.its.flatMap itNs ++ [(p.es.length : Int)] ++ (p.es.take (i2 + 1)).flatMap enNs).length) c_55) rfl (by rw [← e0])
  have H := H.as 7 (ii ((i2 + 1 : Nat) : Int)) rfl rfl
  refine ⟨_, ?_, i2 + 1, B_54, c_55, rfl, H.keep (by kernel_rfl), (HP.sub [0, 1, 2, 3] _ rfl (by kernel_rfl)), (by omega)⟩
  omega
 have g101p := of_decide_eq_false g101
 refine wp_exit (then_exit (then_exit ?_))
 refine w_exit_here ?_
 refine tn (sq ?_)
 have e0 : p.es.take i2 = p.es := List.take_of_length_le (by omega)
 have HP : Hp w w_45 [bx b_40 3 [(ii p.es.length)] true, bx b_19 3 [(ii p.epoch), (ii p.regions), (ii p.length), (ii p.fill), (ii p.its.length)] true, (ownR w.heap.size 3 (.slice BB2 (([p.channel, p.num, p.den, p.offset, (p.sh.length : Int)] ++ p.sh.flatMap altNs ++ [p.epoch, p.regions, p.length, p.fill, (p.its.length : Int)] ++ p.its.flatMap itNs ++ [(p.es.length : Int)] ++ p.es.flatMap enNs).length) cc2) (ints ([p.channel, p.num, p.den, p.offset, (p.sh.length : Int)] ++ p.sh.flatMap altNs ++ [p.epoch, p.regions, p.length, p.fill, (p.its.length : Int)] ++ p.its.flatMap itNs ++ [(p.es.length : Int)] ++ p.es.flatMap enNs))), bx b_1 32 (plL p) true] [] := by have hh := HP; rw [e0] at hh; exact hh
 have H := H.as 3 (.slice BB2 (([p.channel, p.num, p.den, p.offset, (p.sh.length : Int)] ++ p.sh.flatMap altNs ++ [p.epoch, p.regions, p.length, p.fill, (p.its.length : Int)] ++ p.its.flatMap itNs ++ [(p.es.length : Int)] ++ p.es.flatMap enNs).length) cc2) rfl (by rw [e0])
 refine rg ?_
 refine H.v 112 (.slice BB2 (([p.channel, p.num, p.den, p.offset, (p.sh.length : Int)] ++ p.sh.flatMap altNs ++ [p.epoch, p.regions, p.length, p.fill, (p.its.length : Int)] ++ p.its.flatMap itNs ++ [(p.es.length : Int)] ++ p.es.flatMap enNs).length) cc2) fun a H => H.v 113 (pt b_1 11) fun a H => H.u 114 (.slice p.BA p.bs.length p.bc) (ex_l1 (HP.cell 3 rfl 11 rfl)) fun a H => H.v 115 (ii p.bs.length) fun a H => H.alloc HP 116 (fun b => (.slice (some ⟨b, 0, none⟩) 1 1)) 3 [(ii p.bs.length)] (by kernel_rfl) (fun w => by kernel_rfl) fun b_57 w_58 a H HP => ?_
 refine H.appR HP 117 3 (v := (.slice BB2 (([p.channel, p.num, p.den, p.offset, (p.sh.length : Int)] ++ p.sh.flatMap altNs ++ [p.epoch, p.regions, p.length, p.fill, (p.its.length : Int)] ++ p.its.flatMap itNs ++ [(p.es.length : Int)] ++ p.es.flatMap enNs).length) cc2)) (xs := ints ([p.channel, p.num, p.den, p.offset, (p.sh.length : Int)] ++ p.sh.flatMap altNs ++ [p.epoch, p.regions, p.length, p.fill, (p.its.length : Int)] ++ p.its.flatMap itNs ++ [(p.es.length : Int)] ++ p.es.flatMap enNs)) 3 (z := .int .i64 0) (bytes := 8) (some ⟨b_57, 0, none⟩) (1) (1) (ints ([(p.bs.length : Int)])) (by kernel_rfl) (by kernel_rfl) (by kernel_rfl) (by kernel_rfl) (by kernel_rfl) rfl (by kernel_rfl) (fun h => by cases h) (Rd.of_box (HP.at_ 0 rfl) rfl) (ints_one1 _) (app_b1 (Z := [p.channel, p.num, p.den, p.offset, (p.sh.length : Int)] ++ p.sh.flatMap altNs ++ [p.epoch, p.regions, p.length, p.fill, (p.its.length : Int)] ++ p.its.flatMap itNs ++ [(p.es.length : Int)] ++ p.es.flatMap enNs) (new := [(p.bs.length : Int)]) (by have hc := hcnt; simp only [numsP, List.length_append, List.length_cons, List.length_nil] at hc ⊢; omega) rfl) (app_b2 (Z := [p.channel, p.num, p.den, p.offset, (p.sh.length : Int)] ++ p.sh.flatMap altNs ++ [p.epoch, p.regions, p.length, p.fill, (p.its.length : Int)] ++ p.its.flatMap itNs ++ [(p.es.length : Int)] ++ p.es.flatMap enNs) (new := [(p.bs.length : Int)]) (by have hc := hcnt; simp only [numsP, List.length_append, List.length_cons, List.length_nil] at hc ⊢; omega) rfl) fun B_59 c_60 w_61 a H HP => ?_
 have e1 : (ints ([p.channel, p.num, p.den, p.offset, (p.sh.length : Int)] ++ p.sh.flatMap altNs ++ [p.epoch, p.regions, p.length, p.fill, (p.its.length : Int)] ++ p.its.flatMap itNs ++ [(p.es.length : Int)] ++ p.es.flatMap enNs)).length + 1 = ([p.channel, p.num, p.den, p.offset, (p.sh.length : Int)] ++ p.sh.flatMap altNs ++ [p.epoch, p.regions, p.length, p.fill, (p.its.length : Int)] ++ p.its.flatMap itNs ++ [(p.es.length : Int)] ++ p.es.flatMap enNs ++ [(p.bs.length : Int)]).length := app_len1 rfl
 have e2 : ints ([p.channel, p.num, p.den, p.offset, (p.sh.length : Int)] ++ p.sh.flatMap altNs ++ [p.epoch, p.regions, p.length, p.fill, (p.its.length : Int)] ++ p.its.flatMap itNs ++ [(p.es.length : Int)] ++ p.es.flatMap enNs) ++ ints ([(p.bs.length : Int)]) = ints ([p.channel, p.num, p.den, p.offset, (p.sh.length : Int)] ++ p.sh.flatMap altNs ++ [p.epoch, p.regions, p.length, p.fill, (p.its.length : Int)] ++ p.its.flatMap itNs ++ [(p.es.length : Int)] ++ p.es.flatMap enNs ++ [(p.bs.length : Int)]) := (List.map_append ..).symm
 have HP : Hp w w_61 [bx b_57 3 [(ii p.bs.length)] true, bx b_40 3 [(ii p.es.length)] true, bx b_19 3 [(ii p.epoch), (ii p.regions), (ii p.length), (ii p.fill), (ii p.its.length)] true, (ownR w.heap.size 3 (.slice B_59 (([p.channel, p.num, p.den, p.offset, (p.sh.length : Int)] ++ p.sh.flatMap altNs ++ [p.epoch, p.regions, p.length, p.fill, (p.its.length : Int)] ++ p.its.flatMap itNs ++ [(p.es.length : Int)] ++ p.es.flatMap enNs ++ [(p.bs.length : Int)]).length) c_60) (ints ([p.channel, p.num, p.den, p.offset, (p.sh.length : Int)] ++ p.sh.flatMap altNs ++ [p.epoch, p.regions, p.length, p.fill, (p.its.length : Int)] ++ p.its.flatMap itNs ++ [(p.es.length : Int)] ++ p.es.flatMap enNs ++ [(p.bs.length : Int)]))), bx b_1 32 (plL p) true] [] := by have hh := HP; simp only [List.set] at hh; rw [e1, e2] at hh; exact hh
 have H := H.as 117 (.slice B_59 (([p.channel, p.num, p.den, p.offset, (p.sh.length : Int)] ++ p.sh.flatMap altNs ++ [p.epoch, p.regions, p.length, p.fill, (p.its.length : Int)] ++ p.its.flatMap itNs ++ [(p.es.length : Int)] ++ p.es.flatMap enNs ++ [(p.bs.length : Int)]).length) c_60) rfl (by rw [e1])
 clear e1 e2
 refine H.v 3 (.slice B_59 (([p.channel, p.num, p.den, p.offset, (p.sh.length : Int)] ++ p.sh.flatMap altNs ++ [p.epoch, p.regions, p.length, p.fill, (p.its.length : Int)] ++ p.its.flatMap itNs ++ [(p.es.length : Int)] ++ p.es.flatMap enNs ++ [(p.bs.length : Int)]).length) c_60) fun a H => ?_
 refine nl (tn (sq (sq (rg ?_))))
 refine H.v 8 (ii 0) fun a H => ?_
 refine nl (tn (bk ?_))
 have hz3 : ([p.channel, p.num, p.den, p.offset, (p.sh.length : Int)] ++ p.sh.flatMap altNs ++ [p.epoch, p.regions, p.length, p.fill, (p.its.length : Int)] ++ p.its.flatMap itNs ++ [(p.es.length : Int)] ++ p.es.flatMap enNs ++ [(p.bs.length : Int)] ++ p.bs.flatMap bkNs).length ≤ 1000000 := by have hc := hcnt; simp only [numsP, List.length_append, List.length_cons, List.length_nil] at hc ⊢; omega
 have e0 : [p.channel, p.num, p.den, p.offset, (p.sh.length : Int)] ++ p.sh.flatMap altNs ++ [p.epoch, p.regions, p.length, p.fill, (p.its.length : Int)] ++ p.its.flatMap itNs ++ [(p.es.length : Int)] ++ p.es.flatMap enNs ++ [(p.bs.length : Int)] = [p.channel, p.num, p.den, p.offset, (p.sh.length : Int)] ++ p.sh.flatMap altNs ++ [p.epoch, p.regions, p.length, p.fill, (p.its.length : Int)] ++ p.its.flatMap itNs ++ [(p.es.length : Int)] ++ p.es.flatMap enNs ++ [(p.bs.length : Int)] ++ (p.bs.take 0).flatMap bkNs := by simp only [List.take_zero, List.flatMap_nil, List.append_nil]
 have HP : Hp w w_61 [bx b_57 3 [(ii p.bs.length)] true, bx b_40 3 [(ii p.es.length)] true, bx b_19 3 [(ii p.epoch), (ii p.regions), (ii p.length), (ii p.fill), (ii p.its.length)] true, (ownR w.heap.size 3 (.slice B_59 (([p.channel, p.num, p.den, p.offset, (p.sh.length : Int)] ++ p.sh.flatMap altNs ++ [p.epoch, p.regions, p.length, p.fill, (p.its.length : Int)] ++ p.its.flatMap itNs ++ [(p.es.length : Int)] ++ p.es.flatMap enNs ++ [(p.bs.length : Int)] ++ (p.bs.take 0).flatMap bkNs).length) c_60) (ints ([p.channel, p.num, p.den, p.offset, (p.sh.length : Int)] ++ p.sh.flatMap altNs ++ [p.epoch, p.regions, p.length, p.fill, (p.its.length : Int)] ++ p.its.flatMap itNs ++ [(p.es.length : Int)] ++ p.es.flatMap enNs ++ [(p.bs.length : Int)] ++ (p.bs.take 0).flatMap bkNs))), bx b_1 32 (plL p) true] [] := by rw [← e0]; exact HP
 have H := H.as 3 (.slice B_59 (([p.channel, p.num, p.den, p.offset, (p.sh.length : Int)] ++ p.sh.flatMap altNs ++ [p.epoch, p.regions, p.length, p.fill, (p.its.length : Int)] ++ p.its.flatMap itNs ++ [(p.es.length : Int)] ++ p.es.flatMap enNs ++ [(p.bs.length : Int)] ++ (p.bs.take 0).flatMap bkNs).length) c_60) rfl (by rw [← e0])
 refine w_loop (fun mm a wv => ∃ (i3 : Nat), ∃ (BB3 : Option Addr), ∃ (cc3 : Nat), p.bs.length - i3 = mm ∧ Sl 170 [(8, (ii i3)), (3, (.slice BB3 (([p.channel, p.num, p.den, p.offset, (p.sh.length : Int)] ++ p.sh.flatMap altNs ++ [p.epoch, p.regions, p.length, p.fill, (p.its.length : Int)] ++ p.its.flatMap itNs ++ [(p.es.length : Int)] ++ p.es.flatMap enNs ++ [(p.bs.length : Int)] ++ (p.bs.take i3).flatMap bkNs).length) cc3)), (1, (pt b_1 0))] a ∧ Hp w wv [bx b_57 3 [(ii p.bs.length)] true, bx b_40 3 [(ii p.es.length)] true, bx b_19 3 [(ii p.epoch), (ii p.regions), (ii p.length), (ii p.fill), (ii p.its.length)] true, (ownR w.heap.size 3 (.slice BB3 (([p.channel, p.num, p.den, p.offset, (p.sh.length : Int)] ++ p.sh.flatMap altNs ++ [p.epoch, p.regions, p.length, p.fill, (p.its.length : Int)] ++ p.its.flatMap itNs ++ [(p.es.length : Int)] ++ p.es.flatMap enNs ++ [(p.bs.length : Int)] ++ (p.bs.take i3).flatMap bkNs).length) cc3) (ints ([p.channel, p.num, p.den, p.offset, (p.sh.length : Int)] ++ p.sh.flatMap altNs ++ [p.epoch, p.regions, p.length, p.fill, (p.its.length : Int)] ++ p.its.flatMap itNs ++ [(p.es.length : Int)] ++ p.es.flatMap enNs ++ [(p.bs.length : Int)] ++ (p.bs.take i3).flatMap bkNs))), bx b_1 32 (plL p) true] [] ∧ (i3 ≤ p.bs.length)) (p.bs.length - 0) ?_ ?_
 ·exact ⟨0, B_59, c_60, (by omega), H.keep (by kernel_rfl), HP, (Nat.zero_le _)⟩
 rintro mm a w_62 ⟨i3, BB3, cc3, hmeas, H, HP, hib3⟩
 refine sq (sq (rg ?_))
 refine H.v 118 (ii i3) fun a H => H.v 119 (pt b_1 11) fun a H => H.u 120 (.slice p.BA p.bs.length p.bc) (ex_l1 (HP.cell 4 rfl 11 rfl)) fun a H => H.v 121 (ii p.bs.length) fun a H => H.v 122 (.bool (decide ((i3 : Int) < (p.bs.length : Int)))) fun a H => ?_
 refine nl (tn ?_)
 refine w_if H rfl (fun g122 => ?_) (fun g122 => ?_)
 ·have g122p := of_decide_eq_true g122
  refine sk (tn (sq (bk (sq ?_))))
  obtain ⟨bu_64, ou_65, x_63, hA_66, _, hd_68, hx_67, hm_69, _⟩ := IsRow.get bkC_size (hpl.bs.below HP.bl) (i := i3) (by omega)
  refine rg ?_
  refine H.v 125 (pt b_1 11) fun a H => H.u 126 (.slice p.BA p.bs.length p.bc) (ex_l1 (HP.cell 4 rfl 11 rfl)) fun a H => H.v 127 (ii i3) fun a H => H.u 128 (.pointer (some ⟨bu_64, ou_65 + i3 * 7, none⟩)) (ex_indexA (b := bu_64) (off := ou_65) (len := p.bs.length) (cap := p.bc) (e := 47) (k := 7) (ik := .i64) (i := (i3 : Int)) (m := i3) hA_66 (by kernel_rfl) (by kernel_rfl) (by omega) (by omega) (by kernel_rfl) (by kernel_rfl)) fun a H => H.u 129 (bkV x_63) (ex_lN (bkL x_63) (IsRow.cells bkC_size (hpl.bs.below HP.bl) hA_66 hx_67)) fun a H => H.al HP 9 47 [(ii 0), (ii 0), (ii 0), (ii 0), (ii 0), (ii 0), (ii 0)] fun b_70 w_71 a H HP => H.st HP 0 b_70 0 7 47 true (bkV x_63) [bx b_70 47 (bkL x_63) true, bx b_57 3 [(ii p.bs.length)] true, bx b_40 3 [(ii p.es.length)] true, bx b_19 3 [(ii p.epoch), (ii p.regions), (ii p.length), (ii p.fill), (ii p.its.length)] true, (ownR w.heap.size 3 (.slice BB3 (([p.channel, p.num, p.den, p.offset, (p.sh.length : Int)] ++ p.sh.flatMap altNs ++ [p.epoch, p.regions, p.length, p.fill, (p.its.length : Int)] ++ p.its.flatMap itNs ++ [(p.es.length : Int)] ++ p.es.flatMap enNs ++ [(p.bs.length : Int)] ++ (p.bs.take i3).flatMap bkNs).length) cc3) (ints ([p.channel, p.num, p.den, p.offset, (p.sh.length : Int)] ++ p.sh.flatMap altNs ++ [p.epoch, p.regions, p.length, p.fill, (p.its.length : Int)] ++ p.its.flatMap itNs ++ [(p.es.length : Int)] ++ p.es.flatMap enNs ++ [(p.bs.length : Int)] ++ (p.bs.take i3).flatMap bkNs))), bx b_1 32 (plL p) true] rfl fun w_72 a H HP => ?_
  refine nl (tn (rg ?_))
  refine H.v 130 (.slice BB3 (([p.channel, p.num, p.den, p.offset, (p.sh.length : Int)] ++ p.sh.flatMap altNs ++ [p.epoch, p.regions, p.length, p.fill, (p.its.length : Int)] ++ p.its.flatMap itNs ++ [(p.es.length : Int)] ++ p.es.flatMap enNs ++ [(p.bs.length : Int)] ++ (p.bs.take i3).flatMap bkNs).length) cc3) fun a H => H.v 131 (pt b_70 0) fun a H => H.u 132 (ii x_63.id) (ex_l1 (HP.cell 0 rfl 0 rfl)) fun a H => H.v 133 (pt b_70 1) fun a H => H.u 134 (ii x_63.item) (ex_l1 (HP.cell 0 rfl 1 rfl)) fun a H => H.v 135 (pt b_70 2) fun a H => H.u 136 (ii x_63.region) (ex_l1 (HP.cell 0 rfl 2 rfl)) fun a H => H.v 137 (pt b_70 3) fun a H => H.u 138 (ii x_63.from_) (ex_l1 (HP.cell 0 rfl 3 rfl)) fun a H => H.v 139 (pt b_70 4) fun a H => H.u 140 (ii x_63.to_) (ex_l1 (HP.cell 0 rfl 4 rfl)) fun a H => H.v 141 (pt b_70 5) fun a H => H.u 142 (ii x_63.until_) (ex_l1 (HP.cell 0 rfl 5 rfl)) fun a H => H.v 143 (pt b_70 6) fun a H => H.u 144 (ii x_63.price) (ex_l1 (HP.cell 0 rfl 6 rfl)) fun a H => H.alloc HP 145 (fun b => (.slice (some ⟨b, 0, none⟩) 7 7)) 3 (bkL x_63) (by kernel_rfl) (fun w => by kernel_rfl) fun b_73 w_74 a H HP => ?_
  refine H.appR HP 146 5 (v := (.slice BB3 (([p.channel, p.num, p.den, p.offset, (p.sh.length : Int)] ++ p.sh.flatMap altNs ++ [p.epoch, p.regions, p.length, p.fill, (p.its.length : Int)] ++ p.its.flatMap itNs ++ [(p.es.length : Int)] ++ p.es.flatMap enNs ++ [(p.bs.length : Int)] ++ (p.bs.take i3).flatMap bkNs).length) cc3)) (xs := ints ([p.channel, p.num, p.den, p.offset, (p.sh.length : Int)] ++ p.sh.flatMap altNs ++ [p.epoch, p.regions, p.length, p.fill, (p.its.length : Int)] ++ p.its.flatMap itNs ++ [(p.es.length : Int)] ++ p.es.flatMap enNs ++ [(p.bs.length : Int)] ++ (p.bs.take i3).flatMap bkNs)) 3 (z := .int .i64 0) (bytes := 8) (some ⟨b_73, 0, none⟩) (7) (7) (ints (bkNs x_63)) (by kernel_rfl) (by kernel_rfl) (by kernel_rfl) (by kernel_rfl) (by kernel_rfl) rfl (by kernel_rfl) (fun h => by cases h) (Rd.of_box (HP.at_ 0 rfl) rfl) (ints_one1 _) (app_b1 (Z := [p.channel, p.num, p.den, p.offset, (p.sh.length : Int)] ++ p.sh.flatMap altNs ++ [p.epoch, p.regions, p.length, p.fill, (p.its.length : Int)] ++ p.its.flatMap itNs ++ [(p.es.length : Int)] ++ p.es.flatMap enNs ++ [(p.bs.length : Int)] ++ (p.bs.take i3).flatMap bkNs) (new := bkNs x_63) (fl_bd hx_67 hz3) rfl) (app_b2 (Z := [p.channel, p.num, p.den, p.offset, (p.sh.length : Int)] ++ p.sh.flatMap altNs ++ [p.epoch, p.regions, p.length, p.fill, (p.its.length : Int)] ++ p.its.flatMap itNs ++ [(p.es.length : Int)] ++ p.es.flatMap enNs ++ [(p.bs.length : Int)] ++ (p.bs.take i3).flatMap bkNs) (new := bkNs x_63) (fl_bd hx_67 hz3) rfl) fun B_75 c_76 w_77 a H HP => ?_
  have e1 : (ints ([p.channel, p.num, p.den, p.offset, (p.sh.length : Int)] ++ p.sh.flatMap altNs ++ [p.epoch, p.regions, p.length, p.fill, (p.its.length : Int)] ++ p.its.flatMap itNs ++ [(p.es.length : Int)] ++ p.es.flatMap enNs ++ [(p.bs.length : Int)] ++ (p.bs.take i3).flatMap bkNs)).length + 7 = ([p.channel, p.num, p.den, p.offset, (p.sh.length : Int)] ++ p.sh.flatMap altNs ++ [p.epoch, p.regions, p.length, p.fill, (p.its.length : Int)] ++ p.its.flatMap itNs ++ [(p.es.length : Int)] ++ p.es.flatMap enNs ++ [(p.bs.length : Int)] ++ (p.bs.take i3).flatMap bkNs ++ bkNs x_63).length := app_len1 rfl
  have e2 : ints ([p.channel, p.num, p.den, p.offset, (p.sh.length : Int)] ++ p.sh.flatMap altNs ++ [p.epoch, p.regions, p.length, p.fill, (p.its.length : Int)] ++ p.its.flatMap itNs ++ [(p.es.length : Int)] ++ p.es.flatMap enNs ++ [(p.bs.length : Int)] ++ (p.bs.take i3).flatMap bkNs) ++ ints (bkNs x_63) = ints ([p.channel, p.num, p.den, p.offset, (p.sh.length : Int)] ++ p.sh.flatMap altNs ++ [p.epoch, p.regions, p.length, p.fill, (p.its.length : Int)] ++ p.its.flatMap itNs ++ [(p.es.length : Int)] ++ p.es.flatMap enNs ++ [(p.bs.length : Int)] ++ (p.bs.take i3).flatMap bkNs ++ bkNs x_63) := (List.map_append ..).symm
  have HP : Hp w w_77 [bx b_73 3 (bkL x_63) true, bx b_70 47 (bkL x_63) true, bx b_57 3 [(ii p.bs.length)] true, bx b_40 3 [(ii p.es.length)] true, bx b_19 3 [(ii p.epoch), (ii p.regions), (ii p.length), (ii p.fill), (ii p.its.length)] true, (ownR w.heap.size 3 (.slice B_75 (([p.channel, p.num, p.den, p.offset, (p.sh.length : Int)] ++ p.sh.flatMap altNs ++ [p.epoch, p.regions, p.length, p.fill, (p.its.length : Int)] ++ p.its.flatMap itNs ++ [(p.es.length : Int)] ++ p.es.flatMap enNs ++ [(p.bs.length : Int)] ++ (p.bs.take i3).flatMap bkNs ++ bkNs x_63).length) c_76) (ints ([p.channel, p.num, p.den, p.offset, (p.sh.length : Int)] ++ p.sh.flatMap altNs ++ [p.epoch, p.regions, p.length, p.fill, (p.its.length : Int)] ++ p.its.flatMap itNs ++ [(p.es.length : Int)] ++ p.es.flatMap enNs ++ [(p.bs.length : Int)] ++ (p.bs.take i3).flatMap bkNs ++ bkNs x_63))), bx b_1 32 (plL p) true] [] := by have hh := HP; simp only [List.set] at hh; rw [e1, e2] at hh; exact hh
  have H := H.as 146 (.slice B_75 (([p.channel, p.num, p.den, p.offset, (p.sh.length : Int)] ++ p.sh.flatMap altNs ++ [p.epoch, p.regions, p.length, p.fill, (p.its.length : Int)] ++ p.its.flatMap itNs ++ [(p.es.length : Int)] ++ p.es.flatMap enNs ++ [(p.bs.length : Int)] ++ (p.bs.take i3).flatMap bkNs ++ bkNs x_63).length) c_76) rfl (by rw [e1])
  clear e1 e2
  refine H.v 3 (.slice B_75 (([p.channel, p.num, p.den, p.offset, (p.sh.length : Int)] ++ p.sh.flatMap altNs ++ [p.epoch, p.regions, p.length, p.fill, (p.its.length : Int)] ++ p.its.flatMap itNs ++ [(p.es.length : Int)] ++ p.es.flatMap enNs ++ [(p.bs.length : Int)] ++ (p.bs.take i3).flatMap bkNs ++ bkNs x_63).length) c_76) fun a H => ?_
  refine nl (ibn (tn (rg ?_)))
  refine H.v 123 (ii i3) fun a H => H.valE 124 (ii (IntKind.i64.wrap ((i3 : Int) + 1))) (ii ((i3 : Int) + 1)) (by kernel_rfl) (by kernel_rfl) ((by rw [wrap_ini64 _ (by omega)])) fun a H => H.v 8 (ii ((i3 : Int) + 1)) fun a H => ?_
  refine nl (tn ?_)
  have e0 := fl_snoc (Z := ([p.channel, p.num, p.den, p.offset, (p.sh.length : Int)] ++ p.sh.flatMap altNs ++ [p.epoch, p.regions, p.length, p.fill, (p.its.length : Int)] ++ p.its.flatMap itNs ++ [(p.es.length : Int)] ++ p.es.flatMap enNs ++ [(p.bs.length : Int)])) (f := bkNs) hx_67
  have HP : Hp w w_77 [bx b_73 3 (bkL x_63) true, bx b_70 47 (bkL x_63) true, bx b_57 3 [(ii p.bs.length)] true, bx b_40 3 [(ii p.es.length)] true, bx b_19 3 [(ii p.epoch), (ii p.regions), (ii p.length), (ii p.fill), (ii p.its.length)] true, (ownR w.heap.size 3 (.slice B_75 (([p.channel, p.num, p.den, p.offset, (p.sh.length : Int)] ++ p.sh.flatMap altNs ++ [p.epoch, p.regions, p.length, p.fill, (p.its.length : Int)] ++ p.its.flatMap itNs ++ [(p.es.length : Int)] ++ p.es.flatMap enNs ++ [(p.bs.length : Int)] ++ (p.bs.take (i3 + 1)).flatMap bkNs).length) c_76) (ints ([p.channel, p.num, p.den, p.offset, (p.sh.length : Int)] ++ p.sh.flatMap altNs ++ [p.epoch, p.regions, p.length, p.fill, (p.its.length : Int)] ++ p.its.flatMap itNs ++ [(p.es.length : Int)] ++ p.es.flatMap enNs ++ [(p.bs.length : Int)] ++ (p.bs.take (i3 + 1)).flatMap bkNs))), bx b_1 32 (plL p) true] [] := by rw [← e0]; exact HP
  have H := H.as 3 (.slice B_75 (([p.channel, p.num, p.den, p.offset, (p.sh.length : Int)] ++ p.sh.flatMap altNs ++ [p.epoch, p.regions, p.length, p.fill, (p.its.length : Int)] ++ p.its.flatMap itNs ++ [(p.es.length : Int)] ++ p.es.flatMap enNs ++ [(p.bs.length : Int)] ++ (p.bs.take (i3 + 1)).flatMap bkNs).length) c_76) rfl (by rw [← e0])
  have H := H.as 8 (ii ((i3 + 1 : Nat) : Int)) rfl rfl
  refine ⟨_, ?_, i3 + 1, B_75, c_76, rfl, H.keep (by kernel_rfl), (HP.sub [2, 3, 4, 5, 6] _ rfl (by kernel_rfl)), (by omega)⟩
  omega
 have g122p := of_decide_eq_false g122
 refine wp_exit (then_exit (then_exit ?_))
 refine w_exit_here ?_
 refine tn (sq ?_)
 have e0 : p.bs.take i3 = p.bs := List.take_of_length_le (by omega)
 have HP : Hp w w_62 [bx b_57 3 [(ii p.bs.length)] true, bx b_40 3 [(ii p.es.length)] true, bx b_19 3 [(ii p.epoch), (ii p.regions), (ii p.length), (ii p.fill), (ii p.its.length)] true, (ownR w.heap.size 3 (.slice BB3 (([p.channel, p.num, p.den, p.offset, (p.sh.length : Int)] ++ p.sh.flatMap altNs ++ [p.epoch, p.regions, p.length, p.fill, (p.its.length : Int)] ++ p.its.flatMap itNs ++ [(p.es.length : Int)] ++ p.es.flatMap enNs ++ [(p.bs.length : Int)] ++ p.bs.flatMap bkNs).length) cc3) (ints ([p.channel, p.num, p.den, p.offset, (p.sh.length : Int)] ++ p.sh.flatMap altNs ++ [p.epoch, p.regions, p.length, p.fill, (p.its.length : Int)] ++ p.its.flatMap itNs ++ [(p.es.length : Int)] ++ p.es.flatMap enNs ++ [(p.bs.length : Int)] ++ p.bs.flatMap bkNs))), bx b_1 32 (plL p) true] [] := by have hh := HP; rw [e0] at hh; exact hh
 have H := H.as 3 (.slice BB3 (([p.channel, p.num, p.den, p.offset, (p.sh.length : Int)] ++ p.sh.flatMap altNs ++ [p.epoch, p.regions, p.length, p.fill, (p.its.length : Int)] ++ p.its.flatMap itNs ++ [(p.es.length : Int)] ++ p.es.flatMap enNs ++ [(p.bs.length : Int)] ++ p.bs.flatMap bkNs).length) cc3) rfl (by rw [e0])
 refine rg ?_
 refine H.v 147 (.slice BB3 (([p.channel, p.num, p.den, p.offset, (p.sh.length : Int)] ++ p.sh.flatMap altNs ++ [p.epoch, p.regions, p.length, p.fill, (p.its.length : Int)] ++ p.its.flatMap itNs ++ [(p.es.length : Int)] ++ p.es.flatMap enNs ++ [(p.bs.length : Int)] ++ p.bs.flatMap bkNs).length) cc3) fun a H => H.v 148 (pt b_1 12) fun a H => H.u 149 (.slice p.CA p.cs.length p.cc) (ex_l1 (HP.cell 4 rfl 12 rfl)) fun a H => H.v 150 (ii p.cs.length) fun a H => H.alloc HP 151 (fun b => (.slice (some ⟨b, 0, none⟩) 1 1)) 3 [(ii p.cs.length)] (by kernel_rfl) (fun w => by kernel_rfl) fun b_78 w_79 a H HP => ?_
 refine H.appR HP 152 4 (v := (.slice BB3 (([p.channel, p.num, p.den, p.offset, (p.sh.length : Int)] ++ p.sh.flatMap altNs ++ [p.epoch, p.regions, p.length, p.fill, (p.its.length : Int)] ++ p.its.flatMap itNs ++ [(p.es.length : Int)] ++ p.es.flatMap enNs ++ [(p.bs.length : Int)] ++ p.bs.flatMap bkNs).length) cc3)) (xs := ints ([p.channel, p.num, p.den, p.offset, (p.sh.length : Int)] ++ p.sh.flatMap altNs ++ [p.epoch, p.regions, p.length, p.fill, (p.its.length : Int)] ++ p.its.flatMap itNs ++ [(p.es.length : Int)] ++ p.es.flatMap enNs ++ [(p.bs.length : Int)] ++ p.bs.flatMap bkNs)) 3 (z := .int .i64 0) (bytes := 8) (some ⟨b_78, 0, none⟩) (1) (1) (ints ([(p.cs.length : Int)])) (by kernel_rfl) (by kernel_rfl) (by kernel_rfl) (by kernel_rfl) (by kernel_rfl) rfl (by kernel_rfl) (fun h => by cases h) (Rd.of_box (HP.at_ 0 rfl) rfl) (ints_one1 _) (app_b1 (Z := [p.channel, p.num, p.den, p.offset, (p.sh.length : Int)] ++ p.sh.flatMap altNs ++ [p.epoch, p.regions, p.length, p.fill, (p.its.length : Int)] ++ p.its.flatMap itNs ++ [(p.es.length : Int)] ++ p.es.flatMap enNs ++ [(p.bs.length : Int)] ++ p.bs.flatMap bkNs) (new := [(p.cs.length : Int)]) (by have hc := hcnt; simp only [numsP, List.length_append, List.length_cons, List.length_nil] at hc ⊢; omega) rfl) (app_b2 (Z := [p.channel, p.num, p.den, p.offset, (p.sh.length : Int)] ++ p.sh.flatMap altNs ++ [p.epoch, p.regions, p.length, p.fill, (p.its.length : Int)] ++ p.its.flatMap itNs ++ [(p.es.length : Int)] ++ p.es.flatMap enNs ++ [(p.bs.length : Int)] ++ p.bs.flatMap bkNs) (new := [(p.cs.length : Int)]) (by have hc := hcnt; simp only [numsP, List.length_append, List.length_cons, List.length_nil] at hc ⊢; omega) rfl) fun B_80 c_81 w_82 a H HP => ?_
 have e1 : (ints ([p.channel, p.num, p.den, p.offset, (p.sh.length : Int)] ++ p.sh.flatMap altNs ++ [p.epoch, p.regions, p.length, p.fill, (p.its.length : Int)] ++ p.its.flatMap itNs ++ [(p.es.length : Int)] ++ p.es.flatMap enNs ++ [(p.bs.length : Int)] ++ p.bs.flatMap bkNs)).length + 1 = ([p.channel, p.num, p.den, p.offset, (p.sh.length : Int)] ++ p.sh.flatMap altNs ++ [p.epoch, p.regions, p.length, p.fill, (p.its.length : Int)] ++ p.its.flatMap itNs ++ [(p.es.length : Int)] ++ p.es.flatMap enNs ++ [(p.bs.length : Int)] ++ p.bs.flatMap bkNs ++ [(p.cs.length : Int)]).length := app_len1 rfl
 have e2 : ints ([p.channel, p.num, p.den, p.offset, (p.sh.length : Int)] ++ p.sh.flatMap altNs ++ [p.epoch, p.regions, p.length, p.fill, (p.its.length : Int)] ++ p.its.flatMap itNs ++ [(p.es.length : Int)] ++ p.es.flatMap enNs ++ [(p.bs.length : Int)] ++ p.bs.flatMap bkNs) ++ ints ([(p.cs.length : Int)]) = ints ([p.channel, p.num, p.den, p.offset, (p.sh.length : Int)] ++ p.sh.flatMap altNs ++ [p.epoch, p.regions, p.length, p.fill, (p.its.length : Int)] ++ p.its.flatMap itNs ++ [(p.es.length : Int)] ++ p.es.flatMap enNs ++ [(p.bs.length : Int)] ++ p.bs.flatMap bkNs ++ [(p.cs.length : Int)]) := (List.map_append ..).symm
 have HP : Hp w w_82 [bx b_78 3 [(ii p.cs.length)] true, bx b_57 3 [(ii p.bs.length)] true, bx b_40 3 [(ii p.es.length)] true, bx b_19 3 [(ii p.epoch), (ii p.regions), (ii p.length), (ii p.fill), (ii p.its.length)] true, (ownR w.heap.size 3 (.slice B_80 (([p.channel, p.num, p.den, p.offset, (p.sh.length : Int)] ++ p.sh.flatMap altNs ++ [p.epoch, p.regions, p.length, p.fill, (p.its.length : Int)] ++ p.its.flatMap itNs ++ [(p.es.length : Int)] ++ p.es.flatMap enNs ++ [(p.bs.length : Int)] ++ p.bs.flatMap bkNs ++ [(p.cs.length : Int)]).length) c_81) (ints ([p.channel, p.num, p.den, p.offset, (p.sh.length : Int)] ++ p.sh.flatMap altNs ++ [p.epoch, p.regions, p.length, p.fill, (p.its.length : Int)] ++ p.its.flatMap itNs ++ [(p.es.length : Int)] ++ p.es.flatMap enNs ++ [(p.bs.length : Int)] ++ p.bs.flatMap bkNs ++ [(p.cs.length : Int)]))), bx b_1 32 (plL p) true] [] := by have hh := HP; simp only [List.set] at hh; rw [e1, e2] at hh; exact hh
 have H := H.as 152 (.slice B_80 (([p.channel, p.num, p.den, p.offset, (p.sh.length : Int)] ++ p.sh.flatMap altNs ++ [p.epoch, p.regions, p.length, p.fill, (p.its.length : Int)] ++ p.its.flatMap itNs ++ [(p.es.length : Int)] ++ p.es.flatMap enNs ++ [(p.bs.length : Int)] ++ p.bs.flatMap bkNs ++ [(p.cs.length : Int)]).length) c_81) rfl (by rw [e1])
 clear e1 e2
 refine H.v 3 (.slice B_80 (([p.channel, p.num, p.den, p.offset, (p.sh.length : Int)] ++ p.sh.flatMap altNs ++ [p.epoch, p.regions, p.length, p.fill, (p.its.length : Int)] ++ p.its.flatMap itNs ++ [(p.es.length : Int)] ++ p.es.flatMap enNs ++ [(p.bs.length : Int)] ++ p.bs.flatMap bkNs ++ [(p.cs.length : Int)]).length) c_81) fun a H => ?_
 refine nl (tn (sq (sq (rg ?_))))
 refine H.v 10 (ii 0) fun a H => ?_
 refine nl (tn (bk ?_))
 have hz4 : ([p.channel, p.num, p.den, p.offset, (p.sh.length : Int)] ++ p.sh.flatMap altNs ++ [p.epoch, p.regions, p.length, p.fill, (p.its.length : Int)] ++ p.its.flatMap itNs ++ [(p.es.length : Int)] ++ p.es.flatMap enNs ++ [(p.bs.length : Int)] ++ p.bs.flatMap bkNs ++ [(p.cs.length : Int)] ++ p.cs.flatMap clNs).length ≤ 1000000 := by have hc := hcnt; simp only [numsP, List.length_append, List.length_cons, List.length_nil] at hc ⊢; omega
 have e0 : [p.channel, p.num, p.den, p.offset, (p.sh.length : Int)] ++ p.sh.flatMap altNs ++ [p.epoch, p.regions, p.length, p.fill, (p.its.length : Int)] ++ p.its.flatMap itNs ++ [(p.es.length : Int)] ++ p.es.flatMap enNs ++ [(p.bs.length : Int)] ++ p.bs.flatMap bkNs ++ [(p.cs.length : Int)] = [p.channel, p.num, p.den, p.offset, (p.sh.length : Int)] ++ p.sh.flatMap altNs ++ [p.epoch, p.regions, p.length, p.fill, (p.its.length : Int)] ++ p.its.flatMap itNs ++ [(p.es.length : Int)] ++ p.es.flatMap enNs ++ [(p.bs.length : Int)] ++ p.bs.flatMap bkNs ++ [(p.cs.length : Int)] ++ (p.cs.take 0).flatMap clNs := by simp only [List.take_zero, List.flatMap_nil, List.append_nil]
 have HP : Hp w w_82 [bx b_78 3 [(ii p.cs.length)] true, bx b_57 3 [(ii p.bs.length)] true, bx b_40 3 [(ii p.es.length)] true, bx b_19 3 [(ii p.epoch), (ii p.regions), (ii p.length), (ii p.fill), (ii p.its.length)] true, (ownR w.heap.size 3 (.slice B_80 (([p.channel, p.num, p.den, p.offset, (p.sh.length : Int)] ++ p.sh.flatMap altNs ++ [p.epoch, p.regions, p.length, p.fill, (p.its.length : Int)] ++ p.its.flatMap itNs ++ [(p.es.length : Int)] ++ p.es.flatMap enNs ++ [(p.bs.length : Int)] ++ p.bs.flatMap bkNs ++ [(p.cs.length : Int)] ++ (p.cs.take 0).flatMap clNs).length) c_81) (ints ([p.channel, p.num, p.den, p.offset, (p.sh.length : Int)] ++ p.sh.flatMap altNs ++ [p.epoch, p.regions, p.length, p.fill, (p.its.length : Int)] ++ p.its.flatMap itNs ++ [(p.es.length : Int)] ++ p.es.flatMap enNs ++ [(p.bs.length : Int)] ++ p.bs.flatMap bkNs ++ [(p.cs.length : Int)] ++ (p.cs.take 0).flatMap clNs))), bx b_1 32 (plL p) true] [] := by rw [← e0]; exact HP
 have H := H.as 3 (.slice B_80 (([p.channel, p.num, p.den, p.offset, (p.sh.length : Int)] ++ p.sh.flatMap altNs ++ [p.epoch, p.regions, p.length, p.fill, (p.its.length : Int)] ++ p.its.flatMap itNs ++ [(p.es.length : Int)] ++ p.es.flatMap enNs ++ [(p.bs.length : Int)] ++ p.bs.flatMap bkNs ++ [(p.cs.length : Int)] ++ (p.cs.take 0).flatMap clNs).length) c_81) rfl (by rw [← e0])
 refine w_loop (fun mm a wv => ∃ (i4 : Nat), ∃ (BB4 : Option Addr), ∃ (cc4 : Nat), p.cs.length - i4 = mm ∧ Sl 170 [(10, (ii i4)), (3, (.slice BB4 (([p.channel, p.num, p.den, p.offset, (p.sh.length : Int)] ++ p.sh.flatMap altNs ++ [p.epoch, p.regions, p.length, p.fill, (p.its.length : Int)] ++ p.its.flatMap itNs ++ [(p.es.length : Int)] ++ p.es.flatMap enNs ++ [(p.bs.length : Int)] ++ p.bs.flatMap bkNs ++ [(p.cs.length : Int)] ++ (p.cs.take i4).flatMap clNs).length) cc4)), (1, (pt b_1 0))] a ∧ Hp w wv [bx b_78 3 [(ii p.cs.length)] true, bx b_57 3 [(ii p.bs.length)] true, bx b_40 3 [(ii p.es.length)] true, bx b_19 3 [(ii p.epoch), (ii p.regions), (ii p.length), (ii p.fill), (ii p.its.length)] true, (ownR w.heap.size 3 (.slice BB4 (([p.channel, p.num, p.den, p.offset, (p.sh.length : Int)] ++ p.sh.flatMap altNs ++ [p.epoch, p.regions, p.length, p.fill, (p.its.length : Int)] ++ p.its.flatMap itNs ++ [(p.es.length : Int)] ++ p.es.flatMap enNs ++ [(p.bs.length : Int)] ++ p.bs.flatMap bkNs ++ [(p.cs.length : Int)] ++ (p.cs.take i4).flatMap clNs).length) cc4) (ints ([p.channel, p.num, p.den, p.offset, (p.sh.length : Int)] ++ p.sh.flatMap altNs ++ [p.epoch, p.regions, p.length, p.fill, (p.its.length : Int)] ++ p.its.flatMap itNs ++ [(p.es.length : Int)] ++ p.es.flatMap enNs ++ [(p.bs.length : Int)] ++ p.bs.flatMap bkNs ++ [(p.cs.length : Int)] ++ (p.cs.take i4).flatMap clNs))), bx b_1 32 (plL p) true] [] ∧ (i4 ≤ p.cs.length)) (p.cs.length - 0) ?_ ?_
 ·exact ⟨0, B_80, c_81, (by omega), H.keep (by kernel_rfl), HP, (Nat.zero_le _)⟩
 rintro mm a w_83 ⟨i4, BB4, cc4, hmeas, H, HP, hib4⟩
 refine sq (sq (rg ?_))
 refine H.v 153 (ii i4) fun a H => H.v 154 (pt b_1 12) fun a H => H.u 155 (.slice p.CA p.cs.length p.cc) (ex_l1 (HP.cell 5 rfl 12 rfl)) fun a H => H.v 156 (ii p.cs.length) fun a H => H.v 157 (.bool (decide ((i4 : Int) < (p.cs.length : Int)))) fun a H => ?_
 refine nl (tn ?_)
 refine w_if H rfl (fun g157 => ?_) (fun g157 => ?_)
 ·have g157p := of_decide_eq_true g157
  refine sk (tn (sq (bk ?_)))
  obtain ⟨bu_85, ou_86, x_84, hA_87, _, hd_89, hx_88, hm_90, _⟩ := IsRow.get clC_size (hpl.cs.below HP.bl) (i := i4) (by omega)
  refine rg ?_
  refine H.v 160 (.slice BB4 (([p.channel, p.num, p.den, p.offset, (p.sh.length : Int)] ++ p.sh.flatMap altNs ++ [p.epoch, p.regions, p.length, p.fill, (p.its.length : Int)] ++ p.its.flatMap itNs ++ [(p.es.length : Int)] ++ p.es.flatMap enNs ++ [(p.bs.length : Int)] ++ p.bs.flatMap bkNs ++ [(p.cs.length : Int)] ++ (p.cs.take i4).flatMap clNs).length) cc4) fun a H => H.v 161 (pt b_1 12) fun a H => H.u 162 (.slice p.CA p.cs.length p.cc) (ex_l1 (HP.cell 5 rfl 12 rfl)) fun a H => H.v 163 (ii i4) fun a H => H.u 164 (.pointer (some ⟨bu_85, ou_86 + i4 * 8, none⟩)) (ex_indexA (b := bu_85) (off := ou_86) (len := p.cs.length) (cap := p.cc) (e := 73) (k := 8) (ik := .i64) (i := (i4 : Int)) (m := i4) hA_87 (by kernel_rfl) (by kernel_rfl) (by omega) (by omega) (by kernel_rfl) (by kernel_rfl)) fun a H => H.u 165 (clV x_84) (ex_lN (clL x_84) (IsRow.cells clC_size (hpl.cs.below HP.bl) hA_87 hx_88)) fun a H => ?_
  refine H.cl 166 (Tryz.call95 _ _) (rclauseNs_any x_84 w_83) ?_
  rintro e w_91 ⟨br, rfl, hrd, hb⟩
  refine ⟨_, rfl, ?_⟩
  intro a H
  have HP := HP.next hb
  refine H.appR HP 167 4 (v := (.slice BB4 (([p.channel, p.num, p.den, p.offset, (p.sh.length : Int)] ++ p.sh.flatMap altNs ++ [p.epoch, p.regions, p.length, p.fill, (p.its.length : Int)] ++ p.its.flatMap itNs ++ [(p.es.length : Int)] ++ p.es.flatMap enNs ++ [(p.bs.length : Int)] ++ p.bs.flatMap bkNs ++ [(p.cs.length : Int)] ++ (p.cs.take i4).flatMap clNs).length) cc4)) (xs := ints ([p.channel, p.num, p.den, p.offset, (p.sh.length : Int)] ++ p.sh.flatMap altNs ++ [p.epoch, p.regions, p.length, p.fill, (p.its.length : Int)] ++ p.its.flatMap itNs ++ [(p.es.length : Int)] ++ p.es.flatMap enNs ++ [(p.bs.length : Int)] ++ p.bs.flatMap bkNs ++ [(p.cs.length : Int)] ++ (p.cs.take i4).flatMap clNs)) 3 (z := .int .i64 0) (bytes := 8) (some ⟨br, 0, none⟩) (8) (8) (ints (clNs x_84)) (by kernel_rfl) (by kernel_rfl) (by kernel_rfl) (by kernel_rfl) (by kernel_rfl) rfl (by kernel_rfl) (fun h => by cases h) (hrd) (ints_one1 _) (app_b1 (Z := [p.channel, p.num, p.den, p.offset, (p.sh.length : Int)] ++ p.sh.flatMap altNs ++ [p.epoch, p.regions, p.length, p.fill, (p.its.length : Int)] ++ p.its.flatMap itNs ++ [(p.es.length : Int)] ++ p.es.flatMap enNs ++ [(p.bs.length : Int)] ++ p.bs.flatMap bkNs ++ [(p.cs.length : Int)] ++ (p.cs.take i4).flatMap clNs) (new := clNs x_84) (fl_bd hx_88 hz4) rfl) (app_b2 (Z := [p.channel, p.num, p.den, p.offset, (p.sh.length : Int)] ++ p.sh.flatMap altNs ++ [p.epoch, p.regions, p.length, p.fill, (p.its.length : Int)] ++ p.its.flatMap itNs ++ [(p.es.length : Int)] ++ p.es.flatMap enNs ++ [(p.bs.length : Int)] ++ p.bs.flatMap bkNs ++ [(p.cs.length : Int)] ++ (p.cs.take i4).flatMap clNs) (new := clNs x_84) (fl_bd hx_88 hz4) rfl) fun B_92 c_93 w_94 a H HP => ?_
  have e1 : (ints ([p.channel, p.num, p.den, p.offset, (p.sh.length : Int)] ++ p.sh.flatMap altNs ++ [p.epoch, p.regions, p.length, p.fill, (p.its.length : Int)] ++ p.its.flatMap itNs ++ [(p.es.length : Int)] ++ p.es.flatMap enNs ++ [(p.bs.length : Int)] ++ p.bs.flatMap bkNs ++ [(p.cs.length : Int)] ++ (p.cs.take i4).flatMap clNs)).length + 8 = ([p.channel, p.num, p.den, p.offset, (p.sh.length : Int)] ++ p.sh.flatMap altNs ++ [p.epoch, p.regions, p.length, p.fill, (p.its.length : Int)] ++ p.its.flatMap itNs ++ [(p.es.length : Int)] ++ p.es.flatMap enNs ++ [(p.bs.length : Int)] ++ p.bs.flatMap bkNs ++ [(p.cs.length : Int)] ++ (p.cs.take i4).flatMap clNs ++ clNs x_84).length := app_len1 rfl
  have e2 : ints ([p.channel, p.num, p.den, p.offset, (p.sh.length : Int)] ++ p.sh.flatMap altNs ++ [p.epoch, p.regions, p.length, p.fill, (p.its.length : Int)] ++ p.its.flatMap itNs ++ [(p.es.length : Int)] ++ p.es.flatMap enNs ++ [(p.bs.length : Int)] ++ p.bs.flatMap bkNs ++ [(p.cs.length : Int)] ++ (p.cs.take i4).flatMap clNs) ++ ints (clNs x_84) = ints ([p.channel, p.num, p.den, p.offset, (p.sh.length : Int)] ++ p.sh.flatMap altNs ++ [p.epoch, p.regions, p.length, p.fill, (p.its.length : Int)] ++ p.its.flatMap itNs ++ [(p.es.length : Int)] ++ p.es.flatMap enNs ++ [(p.bs.length : Int)] ++ p.bs.flatMap bkNs ++ [(p.cs.length : Int)] ++ (p.cs.take i4).flatMap clNs ++ clNs x_84) := (List.map_append ..).symm
  have HP : Hp w w_94 [bx b_78 3 [(ii p.cs.length)] true, bx b_57 3 [(ii p.bs.length)] true, bx b_40 3 [(ii p.es.length)] true, bx b_19 3 [(ii p.epoch), (ii p.regions), (ii p.length), (ii p.fill), (ii p.its.length)] true, (ownR w.heap.size 3 (.slice B_92 (([p.channel, p.num, p.den, p.offset, (p.sh.length : Int)] ++ p.sh.flatMap altNs ++ [p.epoch, p.regions, p.length, p.fill, (p.its.length : Int)] ++ p.its.flatMap itNs ++ [(p.es.length : Int)] ++ p.es.flatMap enNs ++ [(p.bs.length : Int)] ++ p.bs.flatMap bkNs ++ [(p.cs.length : Int)] ++ (p.cs.take i4).flatMap clNs ++ clNs x_84).length) c_93) (ints ([p.channel, p.num, p.den, p.offset, (p.sh.length : Int)] ++ p.sh.flatMap altNs ++ [p.epoch, p.regions, p.length, p.fill, (p.its.length : Int)] ++ p.its.flatMap itNs ++ [(p.es.length : Int)] ++ p.es.flatMap enNs ++ [(p.bs.length : Int)] ++ p.bs.flatMap bkNs ++ [(p.cs.length : Int)] ++ (p.cs.take i4).flatMap clNs ++ clNs x_84))), bx b_1 32 (plL p) true] [] := by have hh := HP; simp only [List.set] at hh; rw [e1, e2] at hh; exact hh
  have H := H.as 167 (.slice B_92 (([p.channel, p.num, p.den, p.offset, (p.sh.length : Int)] ++ p.sh.flatMap altNs ++ [p.epoch, p.regions, p.length, p.fill, (p.its.length : Int)] ++ p.its.flatMap itNs ++ [(p.es.length : Int)] ++ p.es.flatMap enNs ++ [(p.bs.length : Int)] ++ p.bs.flatMap bkNs ++ [(p.cs.length : Int)] ++ (p.cs.take i4).flatMap clNs ++ clNs x_84).length) c_93) rfl (by rw [e1])
  clear e1 e2
  refine H.v 3 (.slice B_92 (([p.channel, p.num, p.den, p.offset, (p.sh.length : Int)] ++ p.sh.flatMap altNs ++ [p.epoch, p.regions, p.length, p.fill, (p.its.length : Int)] ++ p.its.flatMap itNs ++ [(p.es.length : Int)] ++ p.es.flatMap enNs ++ [(p.bs.length : Int)] ++ p.bs.flatMap bkNs ++ [(p.cs.length : Int)] ++ (p.cs.take i4).flatMap clNs ++ clNs x_84).length) c_93) fun a H => ?_
  refine nl (ibn (tn (rg ?_)))
  refine H.v 158 (ii i4) fun a H => H.valE 159 (ii (IntKind.i64.wrap ((i4 : Int) + 1))) (ii ((i4 : Int) + 1)) (by kernel_rfl) (by kernel_rfl) ((by rw [wrap_ini64 _ (by omega)])) fun a H => H.v 10 (ii ((i4 : Int) + 1)) fun a H => ?_
  refine nl (tn ?_)
  have e0 := fl_snoc (Z := ([p.channel, p.num, p.den, p.offset, (p.sh.length : Int)] ++ p.sh.flatMap altNs ++ [p.epoch, p.regions, p.length, p.fill, (p.its.length : Int)] ++ p.its.flatMap itNs ++ [(p.es.length : Int)] ++ p.es.flatMap enNs ++ [(p.bs.length : Int)] ++ p.bs.flatMap bkNs ++ [(p.cs.length : Int)])) (f := clNs) hx_88
  have HP : Hp w w_94 [bx b_78 3 [(ii p.cs.length)] true, bx b_57 3 [(ii p.bs.length)] true, bx b_40 3 [(ii p.es.length)] true, bx b_19 3 [(ii p.epoch), (ii p.regions), (ii p.length), (ii p.fill), (ii p.its.length)] true, (ownR w.heap.size 3 (.slice B_92 (([p.channel, p.num, p.den, p.offset, (p.sh.length : Int)] ++ p.sh.flatMap altNs ++ [p.epoch, p.regions, p.length, p.fill, (p.its.length : Int)] ++ p.its.flatMap itNs ++ [(p.es.length : Int)] ++ p.es.flatMap enNs ++ [(p.bs.length : Int)] ++ p.bs.flatMap bkNs ++ [(p.cs.length : Int)] ++ (p.cs.take (i4 + 1)).flatMap clNs).length) c_93) (ints ([p.channel, p.num, p.den, p.offset, (p.sh.length : Int)] ++ p.sh.flatMap altNs ++ [p.epoch, p.regions, p.length, p.fill, (p.its.length : Int)] ++ p.its.flatMap itNs ++ [(p.es.length : Int)] ++ p.es.flatMap enNs ++ [(p.bs.length : Int)] ++ p.bs.flatMap bkNs ++ [(p.cs.length : Int)] ++ (p.cs.take (i4 + 1)).flatMap clNs))), bx b_1 32 (plL p) true] [] := by rw [← e0]; exact HP
  have H := H.as 3 (.slice B_92 (([p.channel, p.num, p.den, p.offset, (p.sh.length : Int)] ++ p.sh.flatMap altNs ++ [p.epoch, p.regions, p.length, p.fill, (p.its.length : Int)] ++ p.its.flatMap itNs ++ [(p.es.length : Int)] ++ p.es.flatMap enNs ++ [(p.bs.length : Int)] ++ p.bs.flatMap bkNs ++ [(p.cs.length : Int)] ++ (p.cs.take (i4 + 1)).flatMap clNs).length) c_93) rfl (by rw [← e0])
  have H := H.as 10 (ii ((i4 + 1 : Nat) : Int)) rfl rfl
  refine ⟨_, ?_, i4 + 1, B_92, c_93, rfl, H.keep (by kernel_rfl), (HP.sub [0, 1, 2, 3, 4, 5] _ rfl (by kernel_rfl)), (by omega)⟩
  omega
 have g157p := of_decide_eq_false g157
 refine wp_exit (then_exit (then_exit ?_))
 refine w_exit_here ?_
 refine tn (sq ?_)
 have e0 : p.cs.take i4 = p.cs := List.take_of_length_le (by omega)
 have HP : Hp w w_83 [bx b_78 3 [(ii p.cs.length)] true, bx b_57 3 [(ii p.bs.length)] true, bx b_40 3 [(ii p.es.length)] true, bx b_19 3 [(ii p.epoch), (ii p.regions), (ii p.length), (ii p.fill), (ii p.its.length)] true, (ownR w.heap.size 3 (.slice BB4 (([p.channel, p.num, p.den, p.offset, (p.sh.length : Int)] ++ p.sh.flatMap altNs ++ [p.epoch, p.regions, p.length, p.fill, (p.its.length : Int)] ++ p.its.flatMap itNs ++ [(p.es.length : Int)] ++ p.es.flatMap enNs ++ [(p.bs.length : Int)] ++ p.bs.flatMap bkNs ++ [(p.cs.length : Int)] ++ p.cs.flatMap clNs).length) cc4) (ints ([p.channel, p.num, p.den, p.offset, (p.sh.length : Int)] ++ p.sh.flatMap altNs ++ [p.epoch, p.regions, p.length, p.fill, (p.its.length : Int)] ++ p.its.flatMap itNs ++ [(p.es.length : Int)] ++ p.es.flatMap enNs ++ [(p.bs.length : Int)] ++ p.bs.flatMap bkNs ++ [(p.cs.length : Int)] ++ p.cs.flatMap clNs))), bx b_1 32 (plL p) true] [] := by have hh := HP; rw [e0] at hh; exact hh
 have H := H.as 3 (.slice BB4 (([p.channel, p.num, p.den, p.offset, (p.sh.length : Int)] ++ p.sh.flatMap altNs ++ [p.epoch, p.regions, p.length, p.fill, (p.its.length : Int)] ++ p.its.flatMap itNs ++ [(p.es.length : Int)] ++ p.es.flatMap enNs ++ [(p.bs.length : Int)] ++ p.bs.flatMap bkNs ++ [(p.cs.length : Int)] ++ p.cs.flatMap clNs).length) cc4) rfl (by rw [e0])
 obtain ⟨bn, hbn⟩ := own_some (HP.held 4 rfl) (by simp)
 subst hbn
 have ez : [p.channel, p.num, p.den, p.offset, (p.sh.length : Int)] ++ p.sh.flatMap altNs ++ [p.epoch, p.regions, p.length, p.fill, (p.its.length : Int)] ++ p.its.flatMap itNs ++ [(p.es.length : Int)] ++ p.es.flatMap enNs ++ [(p.bs.length : Int)] ++ p.bs.flatMap bkNs ++ [(p.cs.length : Int)] ++ p.cs.flatMap clNs = numsP p := by simp only [numsP, List.append_assoc, List.cons_append, List.nil_append]
 have HP : Hp w w_83 [bx b_78 3 [(ii p.cs.length)] true, bx b_57 3 [(ii p.bs.length)] true, bx b_40 3 [(ii p.es.length)] true, bx b_19 3 [(ii p.epoch), (ii p.regions), (ii p.length), (ii p.fill), (ii p.its.length)] true, (ownR w.heap.size 3 (.slice (some ⟨bn, 0, none⟩) ((numsP p).length) cc4) (ints (numsP p))), bx b_1 32 (plL p) true] [] := by have hh := HP; rw [ez] at hh; exact hh
 have H := H.as 3 (.slice (some ⟨bn, 0, none⟩) ((numsP p).length) cc4) rfl (by rw [ez])
 refine rg ?_
 refine H.v 168 (.slice (some ⟨bn, 0, none⟩) ((numsP p).length) cc4) fun a H => H.cb HP 169 (Tryz.call96 _ _) (rnumbers_any bn cc4 (numsP p) w_83 (by have q := ownR_rd (HP.held 4 rfl); rw [ints_len] at q; exact q) hzs hcnt) fun w_95 hb a H HP => H.v 2 (.string (bstr (encInts (numsP p)))) fun a H => ?_
 refine nl (tn (rt ?_))
 refine H.r1 (.string (bstr (encInts (numsP p)))) Tryz.results58 ?_
 exact ⟨rfl, HP.bl⟩
theorem rencode_any (p : Pln) (w : World) (hpl : IsPln w p) : Calls Tryz.prog 26 #[(plV p)] w fun e w' => e = .returned (encV p) ∧ Below w.heap.size w w' := by
 have HP := Hp.start w
 refine w_enter 11 [(0, (plV p))] Tryz.func26 rfl Tryz.ntmps26 (by kernel_rfl) (by kernel_rfl) fun a H => ?_
 refine sq (rg ?_)
 refine H.al HP 1 32 (plL p) fun b_1 w_2 a H HP => H.v 2 (.string (bstr ([]))) fun a H => H.v 3 (ii 0) fun a H => ?_
 refine nl (tn (sq (rg ?_)))
 refine H.u 5 (plV p) (ex_lN (plL p) (HP.cells 0 rfl 0 13 (by kernel_rfl))) fun a H => H.cb HP 6 (Tryz.call15 _ _) (rvalid_any p w_2 (hpl.below HP.bl)) fun w_3 hb a H HP => H.v 4 (.bool (validPl p)) fun a H => ?_
 refine nl (tn (sq (sq (rg ?_))))
 refine H.v 7 (.bool (validPl p)) fun a H => H.v 8 (.bool (!(validPl p))) fun a H => ?_
 refine nl (tn ?_)
 refine w_if H rfl (fun g8 => ?_) (fun g8 => ?_)
 ·have g8p := not_is_true g8
  refine sq (rg ?_)
  refine H.v 2 (.string (bstr ([]))) fun a H => H.v 3 (ii 80) fun a H => ?_
  refine nl (tn (rt (tr ?_)))
  refine H.ret2 (fn := Tryz.f26) Tryz.results26 (RV.tmp_ (v := (.string (bstr ([])))) (by kernel_rfl)) (RV.tmp_ (v := (ii 80)) (by kernel_rfl)) ?_
  exact ⟨by unfold encV; rw [show validPl p = false from g8p]; rfl, HP.bl⟩
 have g8p := not_is_false g8
 refine sk (tn (sq ?_))
 obtain ⟨hzs, hcnt⟩ := valid_nums g8p
 refine rg ?_
 refine H.u 9 (plV p) (ex_lN (plL p) (HP.cells 0 rfl 0 13 (by kernel_rfl))) fun a H => H.cb HP 10 (Tryz.call58 _ _) (rwritten_any p w_3 (hpl.below HP.bl) hzs hcnt (valid_alts g8p)) fun w_4 hb a H HP => H.v 2 (.string (bstr (encInts (numsP p)))) fun a H => H.v 3 (ii 0) fun a H => ?_
 refine nl (tn (rt ?_))
 refine H.ret2 (fn := Tryz.f26) Tryz.results26 (RV.tmp_ (v := (.string (bstr (encInts (numsP p))))) (by kernel_rfl)) (RV.tmp_ (v := (ii 0)) (by kernel_rfl)) ?_
 exact ⟨by unfold encV; rw [show validPl p = true from g8p]; rfl, HP.bl⟩
end Go.Proofs.YteeillphhiaopaaGreatDoor
namespace Go.Proofs.YteeillphhiaopaaGreatDoor
set_option maxRecDepth 100000
set_option maxHeartbeats 4000000
open Go.ChangeShapes Go.WideShapes Go.ChangeAt Go.RowKit
set_option linter.unusedVariables false
set_option linter.unusedSimpArgs false
theorem wint_none (s : List UInt8) (k : Nat) (w : World) (hl : s.length ≤ 1000000) (hk : k ≤ s.length) (hR : rdInt s k = none) :
    Calls Tryz.prog 134 #[.string (bstr s), .int .i64 ((k : Nat) : Int)] w fun e w' => e = .returned (.tuple #[.int .i64 0, .int .i64 0, .int .i64 10]) ∧ Below w.heap.size w w' := by
  refine (wint_any (bstr s) k w (by rw [bstr_size]; omega) (by rw [bstr_size]; exact hk)).mono ?_
  rintro e w' ⟨rfl, rfl⟩
  refine ⟨?_, Below.refl _ _⟩
  rw [show (bstr s).data.toList = s by simp, hR]
  rfl
theorem wint_some (s : List UInt8) (k : Nat) (w : World) (hl : s.length ≤ 1000000) (hk : k ≤ s.length) (n : Int) (k1 : Nat) (hR : rdInt s k = some (n, k1)) :
    Calls Tryz.prog 134 #[.string (bstr s), .int .i64 ((k : Nat) : Int)] w fun e w' => e = .returned (.tuple #[.int .i64 n, .int .i64 ((k1 : Nat) : Int), .int .i64 0]) ∧ Below w.heap.size w w' := by
  refine (wint_any (bstr s) k w (by rw [bstr_size]; omega) (by rw [bstr_size]; exact hk)).mono ?_
  rintro e w' ⟨rfl, rfl⟩
  refine ⟨?_, Below.refl _ _⟩
  rw [show (bstr s).data.toList = s by simp, hR]
  rfl
def rC (s : List UInt8) (k : Nat) : List Value := [.string (bstr s), .int .i64 ((k : Nat) : Int)]
abbrev pan (a0 a1 : Addr) (E : Int) : List PanicEntry := panicOf (if E = 10 then a0 else a1)
theorem Hp.own2 {w : World} {b c t u : Nat} {vs us : List Value} (h : Box w b t vs.toArray) (h' : Box w c u us.toArray) (hne : b ≠ c) : Hp w w [bx b t vs false, bx c u us false] [] :=
  (Hp.own h').add (bx b t vs false) h (bx_ok _ _ _ _) (fun k hk => by cases hk; exact h.lt) (fun k hk => ⟨fun y hy hyk => by rcases List.mem_singleton.1 hy with rfl; cases hk; exact hne hyk, fun _ h => by cases h⟩) fun h => by cases h
theorem Hp.grow {w0 w : World} {L : List HB} {K : List FK} (H : Hp w0 w L K) (i : Nat) {x : HB} (hi : L[i]? = some x) (x' : HB) (L' : List HB) (hL : L.set i x' = L') (hF : x'.F w) (hok : x'.ok) (hall : ∀ k, x.fp k → x'.fp k)
    (hnew : ∀ k, x'.fp k → x.fp k ∨ (w0.heap.size ≤ k ∧ k < w.heap.size ∧ (∀ y ∈ L, ¬ y.fp k) ∧ ∀ q ∈ K, ¬ q.fp k)) (hfr : x'.fresh = x.fresh) : Hp w0 w L' K := by
  subst hL
  have hm := mem_set H.apart (x' := x') hi
  have hxm := List.mem_of_getElem? hi
  have hil := (List.getElem?_eq_some_iff.1 hi).1
  have hx'm : x' ∈ L.set i x' := List.mem_iff_getElem?.2 ⟨i, by rw [List.getElem?_set]; simp [hil]⟩
  have hback : ∀ y ∈ L, y = x ∨ y ∈ L.set i x' := by
    intro y hy
    obtain ⟨k, hk⟩ := List.mem_iff_getElem?.1 hy
    by_cases e : i = k
    · subst e; rw [hi] at hk; cases hk; exact .inl rfl
    · exact .inr (List.mem_iff_getElem?.2 ⟨k, by rw [List.getElem?_set_ne e]; exact hk⟩)
  have hnot : ∀ y ∈ L, ∀ k, x'.fp k → y.fp k → x.fp k := fun y hy k hk hy' => (hnew k hk).resolve_right fun h => h.2.2.1 y hy hy'
  refine ⟨H.os, H.tape, H.output, H.size, fun k hk hn => ?_, fun y hy => ?_, ?_, fun y hy hfy k hk => ?_, fun p hp => ?_⟩
  · have hx : ¬ x.fp k := fun h => hn x' hx'm (hall k h)
    refine H.old k hk fun y hy => ?_
    rcases hback y hy with rfl | hy
    · exact hx
    · exact hn y hy
  · rcases hm y hy with rfl | ⟨hy, hne⟩
    · exact ⟨hF, hok, fun k hk => by
        rcases hnew k hk with h | h
        · exact (H.res x hxm).2.2 k h
        · exact h.2.1⟩
    · exact H.res y hy
  · exact pairwise_set H.apart hi (fun z hz h k hk hk' => h k hk (hnot z hz k hk' hk)) (fun z hz h k hk hk' => h k (hnot z hz k hk hk') hk')
  · rcases hm y hy with rfl | ⟨hy, _⟩
    · rcases hnew k hk with h | h
      · exact H.fresh x hxm (hfr ▸ hfy) k h
      · exact h.1
    · exact H.fresh y hy hfy k hk
  · obtain ⟨k1, k2, k3⟩ := H.kept p hp
    refine ⟨k1, k2, fun k hk => ⟨(k3 k hk).1, fun y hy hy' => ?_⟩⟩
    rcases hm y hy with rfl | ⟨hy, _⟩
    · rcases hnew k hy' with h | h
      · exact (k3 k hk).2 x hxm h
      · exact h.2.2.2 p hp hk
    · exact (k3 k hk).2 y hy hy'
theorem box_ptr {w : World} {sb t i o tb : Nat} {os : List Nat} (h : Box w sb t (os.map (fun o => Value.pointer (some ⟨tb, o, none⟩))).toArray) (ho : os[i]? = some o) : w.cell? ⟨sb, 0 + i * 1, none⟩ = some (.pointer (some ⟨tb, o, none⟩)) := by
  refine h.cell ?_
  rw [Nat.zero_add, Nat.mul_one]
  simp [ho]
def NumPost (a0 a1 : Addr) (s : List UInt8) (k rb : Nat) (w : World) (e : Ending) (w' : World) : Prop :=
  Agree w w' (fun j => j = rb) ∧ ((rdInt s k = none ∧ e = .panicked (pan a0 a1 10) ∧ Box w' rb 103 (rC s k).toArray) ∨ (∃ n k1, rdInt s k = some (n, k1) ∧ k1 ≤ s.length ∧ e = .returned (.int .i64 n) ∧ Box w' rb 103 (rC s k1).toArray))
def NumsPost (a0 a1 : Addr) (s : List UInt8) (k rb tb ty : Nat) (us : List Value) (os : List Nat) (w : World) (e : Ending) (w' : World) : Prop :=
  Agree w w' (fun j => j = rb ∨ j = tb) ∧ ((∃ (k1 : Nat) (us1 : List Value), rdN s os.length k = .error 10 ∧ k1 ≤ s.length ∧ e = .panicked (pan a0 a1 10) ∧ Box w' rb 103 (rC s k1).toArray ∧ Box w' tb ty us1.toArray ∧ us1.length = us.length) ∨
    (∃ l k1, rdN s os.length k = .ok (l, k1) ∧ k1 ≤ s.length ∧ l.length = os.length ∧ e = .returned (.tuple #[]) ∧ Box w' rb 103 (rC s k1).toArray ∧ Box w' tb ty (putAt us os l).toArray))
theorem Agree.only {w w' : World} {b : Nat} (h : w.grownBy w' (some b)) : Agree w w' (fun j => j = b) := Agree.of_grown h fun k e => (Option.some.inj e).symm
theorem Hp.changed1 {w0 w w' : World} {L : List HB} {K : List FK} (H : Hp w0 w L K) (i : Nat) {b t : Nat} {vs : List Value} {f : Bool} (hi : L[i]? = some (bx b t vs f)) (vs' : List Value) (L' : List HB) (hL : L.set i (bx b t vs' f) = L') (hag : Agree w w' (fun k => k = b)) (h1 : Box w' b t vs'.toArray) : Hp w0 w' L' K :=
  H.mut i hi (bx b t vs' f) _ hL hag h1 (bx_ok _ _ _ _) (fun k hk => by cases hk; exact h1.lt) (fun k hk => .inl hk) (fun k _ hk => hk) rfl
end Go.Proofs.YteeillphhiaopaaGreatDoor
namespace Go.Proofs.YteeillphhiaopaaGreatDoor
set_option maxRecDepth 100000
set_option maxHeartbeats 4000000
open Go.ChangeShapes Go.WideShapes Go.ChangeAt Go.RowKit
set_option linter.unusedVariables false
set_option linter.unusedSimpArgs false
theorem number_none (a0 a1 : Addr) (s : List UInt8) (k rb : Nat) (w : World) (hL : LaidP a0 a1 w) (hsep : ∀ j, lpFp a0 a1 j → j ≠ rb) (h : Box w rb 103 (rC s k).toArray) (hl : s.length ≤ 1000000) (hk : k ≤ s.length) (hR : rdInt s k = none) : Calls Tryz.prog 128 #[.pointer (some ⟨rb, 0, none⟩)] w (NumPost a0 a1 s k rb w) := by
 have HP : Hp w w [bx rb 103 [.string (bstr s), .int .i64 (k : Int)] false] [laidK a0 a1] := (Hp.own h).keepF (laidK a0 a1) hL (laidK_ok _ _) (fun j hj => ⟨hL.lt j hj, by simpa [bx] using hsep j hj⟩)
 refine w_enter 27 [(0, (pt rb 0))] Tryz.func128 rfl Tryz.ntmps128 (by kernel_rfl) (by kernel_rfl) fun a H => ?_
 refine sq (rg ?_)
 refine H.v 2 (ii 0) fun a H => ?_
 refine nl (tn (sq ?_))
 refine An.start (fun v => Hp w v [bx rb 103 [(.string (bstr s)), (ii k)] false] [laidK a0 a1]) 16 16 HP wide_follows rfl fun w_1 HP => ?_
 refine An.p H (.inr HP) 0 7 (pt rb 0) fun a H => ?_
 refine An.p H (.inr HP) 1 8 (pt rb 0) fun a H => ?_
 refine An.p H (.inr HP) 2 9 (pt rb 0) fun a H => ?_
 refine An.vw H (HP) 3 10 (.string (bstr s)) (fun _ hS => ex_l1 (hS.cell 0 rfl 0 rfl)) fun a H => ?_
 refine An.p H (.inr HP) 4 11 (pt rb 0) fun a H => ?_
 refine An.p H (.inr HP) 5 12 (pt rb 0) fun a H => ?_
 refine An.p H (.inr HP) 6 13 (pt rb 1) fun a H => ?_
 refine An.vw H (HP) 7 14 (ii k) (fun _ hS => ex_l1 (hS.cell 0 rfl 1 rfl)) fun a H => ?_
 refine An.one 8 (by kernel_rfl) ?_
 refine Op.call H 15 rfl (by kernel_rfl) (Eq.trans (by kernel_rfl : _ = (callFunc 134 #[(.string (bstr s)), (ii k)]).run Tryz.prog w_1) (Tryz.call134 _ _)) (wint_none s k w_1 hl hk hR) ?_
 rintro e w_2 ⟨rfl, hb⟩
 refine ⟨_, rfl, ?_⟩
 intro a H
 have HP := HP.next hb
 refine ⟨.inr (HP), ?_⟩
 refine An.p H (.inr HP) 9 6 (.tuple #[(ii 0), (ii 0), (ii 10)]) fun a H => ?_
 refine An.p H (.inr HP) 10 16 (ii 0) fun a H => ?_
 refine An.p H (.inr HP) 11 17 (ii 0) fun a H => ?_
 refine An.p H (.inr HP) 12 18 (ii 10) fun a H => ?_
 refine An.p H (.inr HP) 13 3 (ii 0) fun a H => ?_
 refine An.p H (.inr HP) 14 4 (ii 0) fun a H => ?_
 refine An.p H (.inr HP) 15 5 (ii 10) fun a H => ?_
 refine An.done (by kernel_rfl) ?_
 refine tn (sq (sq (rg ?_)))
 refine H.v 19 (ii 10) fun a H => H.v 20 (.bool true) fun a H => ?_
 refine nl (tn ?_)
 refine w_ift H rfl ?_
 refine rg ?_
 refine H.u 21 (.iface 212 (.pointer (some a0))) (ex_l1 ((HP.fact 0 rfl : LaidP a0 a1 _).c0)) fun a H => ?_
 refine H.panic0 (v := (.iface 212 (.pointer (some a0)))) (w' := w_2) (by kernel_rfl) (by kernel_rfl) ?_
 refine then_panic ?_
 refine H.endP ?_
 exact ⟨HP.agree _ (by simp [bx]), .inl ⟨hR, rfl, HP.at_ 0 rfl⟩⟩
theorem number_some (a0 a1 : Addr) (s : List UInt8) (k rb : Nat) (w : World) (hL : LaidP a0 a1 w) (hsep : ∀ j, lpFp a0 a1 j → j ≠ rb) (h : Box w rb 103 (rC s k).toArray) (hl : s.length ≤ 1000000) (hk : k ≤ s.length) (n : Int) (k1 : Nat) (hR : rdInt s k = some (n, k1)) : Calls Tryz.prog 128 #[.pointer (some ⟨rb, 0, none⟩)] w (NumPost a0 a1 s k rb w) := by
 have HP : Hp w w [bx rb 103 [.string (bstr s), .int .i64 (k : Int)] false] [laidK a0 a1] := (Hp.own h).keepF (laidK a0 a1) hL (laidK_ok _ _) (fun j hj => ⟨hL.lt j hj, by simpa [bx] using hsep j hj⟩)
 refine w_enter 27 [(0, (pt rb 0))] Tryz.func128 rfl Tryz.ntmps128 (by kernel_rfl) (by kernel_rfl) fun a H => ?_
 refine sq (rg ?_)
 refine H.v 2 (ii 0) fun a H => ?_
 refine nl (tn (sq ?_))
 refine An.start (fun v => Hp w v [bx rb 103 [(.string (bstr s)), (ii k)] false] [laidK a0 a1]) 16 16 HP wide_follows rfl fun w_1 HP => ?_
 refine An.p H (.inr HP) 0 7 (pt rb 0) fun a H => ?_
 refine An.p H (.inr HP) 1 8 (pt rb 0) fun a H => ?_
 refine An.p H (.inr HP) 2 9 (pt rb 0) fun a H => ?_
 refine An.vw H (HP) 3 10 (.string (bstr s)) (fun _ hS => ex_l1 (hS.cell 0 rfl 0 rfl)) fun a H => ?_
 refine An.p H (.inr HP) 4 11 (pt rb 0) fun a H => ?_
 refine An.p H (.inr HP) 5 12 (pt rb 0) fun a H => ?_
 refine An.p H (.inr HP) 6 13 (pt rb 1) fun a H => ?_
 refine An.vw H (HP) 7 14 (ii k) (fun _ hS => ex_l1 (hS.cell 0 rfl 1 rfl)) fun a H => ?_
 refine An.one 8 (by kernel_rfl) ?_
 refine Op.call H 15 rfl (by kernel_rfl) (Eq.trans (by kernel_rfl : _ = (callFunc 134 #[(.string (bstr s)), (ii k)]).run Tryz.prog w_1) (Tryz.call134 _ _)) (wint_some s k w_1 hl hk n k1 hR) ?_
 rintro e w_2 ⟨rfl, hb⟩
 refine ⟨_, rfl, ?_⟩
 intro a H
 have HP := HP.next hb
 refine ⟨.inr (HP), ?_⟩
 refine An.p H (.inr HP) 9 6 (.tuple #[(ii n), (ii k1), (ii 0)]) fun a H => ?_
 refine An.p H (.inr HP) 10 16 (ii n) fun a H => ?_
 refine An.p H (.inr HP) 11 17 (ii k1) fun a H => ?_
 refine An.p H (.inr HP) 12 18 (ii 0) fun a H => ?_
 refine An.p H (.inr HP) 13 3 (ii n) fun a H => ?_
 refine An.p H (.inr HP) 14 4 (ii k1) fun a H => ?_
 refine An.p H (.inr HP) 15 5 (ii 0) fun a H => ?_
 refine An.done (by kernel_rfl) ?_
 refine tn (sq (sq (rg ?_)))
 refine H.v 19 (ii 0) fun a H => H.v 20 (.bool false) fun a H => ?_
 refine nl (tn ?_)
 refine w_iff H rfl ?_
 refine sk (tn (sq (rg ?_)))
 refine H.v 22 (pt rb 0) fun a H => H.v 23 (ii k1) fun a H => H.v 24 (pt rb 0) fun a H => H.v 25 (pt rb 1) fun a H => H.st HP 0 rb 1 1 103 false (ii k1) [bx rb 103 [(.string (bstr s)), (ii k1)] false] rfl fun w_3 a H HP => ?_
 refine nl (tn (sq (rg ?_)))
 refine H.v 26 (ii n) fun a H => H.v 2 (ii n) fun a H => ?_
 refine nl (tn (rt ?_))
 refine H.r1 (ii n) Tryz.results128 ?_
 exact ⟨HP.agree _ (by simp [bx]), .inr ⟨n, k1, hR, (rdInt_lt hk hR).2, rfl, HP.at_ 0 rfl⟩⟩
theorem number_any (a0 a1 : Addr) (s : List UInt8) (k rb : Nat) (w : World) (hL : LaidP a0 a1 w) (hsep : ∀ j, lpFp a0 a1 j → j ≠ rb) (h : Box w rb 103 (rC s k).toArray) (hl : s.length ≤ 1000000) (hk : k ≤ s.length) : Calls Tryz.prog 128 #[.pointer (some ⟨rb, 0, none⟩)] w (NumPost a0 a1 s k rb w) := by
 cases hR : rdInt s k with
 | none => exact number_none a0 a1 s k rb w hL hsep h hl hk hR
 | some p => exact number_some a0 a1 s k rb w hL hsep h hl hk p.1 p.2 hR
theorem numbers_any (a0 a1 : Addr) (s : List UInt8) (k rb tb ty sb : Nat) (us : List Value) (os : List Nat) (w : World) (hL : LaidP a0 a1 w) (hsep : ∀ j, lpFp a0 a1 j → j ≠ rb ∧ j ≠ tb) (h : Box w rb 103 (rC s k).toArray) (ht : Box w tb ty us.toArray) (hsb : Box w sb 150 (os.map (fun o => Value.pointer (some ⟨tb, o, none⟩))).toArray) (hne : rb ≠ tb) (hs : sb ≠ rb ∧ sb ≠ tb) (hos : ∀ o ∈ os, o < us.length) (hom : os.length ≤ 100) (hl : s.length ≤ 1000000) (hk : k ≤ s.length) :
  Calls Tryz.prog 99 #[.pointer (some ⟨rb, 0, none⟩), .slice (some ⟨sb, 0, none⟩) os.length os.length] w (NumsPost a0 a1 s k rb tb ty us os w) := by
 have HP0 : Hp w w [bx rb 103 (rC s k) false, bx tb ty (putAt us os []) false] [] := by rw [show putAt us os [] = us by cases os <;> rfl]; exact Hp.own2 h ht hne
 have HP : Hp w w [bx rb 103 (rC s k) false, bx tb ty (putAt us os []) false] [boxK sb 150 (os.map (fun o => Value.pointer (some ⟨tb, o, none⟩))), laidK a0 a1] :=
  (HP0.keepF (laidK a0 a1) hL (laidK_ok _ _) (fun j hj => ⟨hL.lt j hj, by simpa [bx] using hsep j hj⟩)).keepF _ hsb (boxK_ok _ _ _) (fun j hj => ⟨by cases hj; exact hsb.lt, by cases hj; simpa [bx] using hs⟩)
 refine w_enter 17 [(0, (pt rb 0)), (1, (.slice (some ⟨sb, 0, none⟩) os.length os.length))] Tryz.func99 rfl Tryz.ntmps99 (by kernel_rfl) (by kernel_rfl) fun a H => ?_
 refine sq (rg ?_)
 refine H.v 6 (.slice (some ⟨sb, 0, none⟩) os.length os.length) fun a H => H.v 7 (ii os.length) fun a H => H.v 8 (ii 0) fun a H => ?_
 refine nl (tn (bk ?_))
 refine w_loop (fun mm a wv => ∃ (i : Nat), ∃ (kq : Nat), ∃ (l : List Int), os.length - i = mm ∧ Sl 17 [(8, (ii i)), (7, (ii os.length)), (6, (.slice (some ⟨sb, 0, none⟩) os.length os.length)), (0, (pt rb 0)), (1, (.slice (some ⟨sb, 0, none⟩) os.length os.length))] a ∧ Hp w wv [bx rb 103 (rC s kq) false, bx tb ty (putAt us os l) false] [boxK sb 150 (os.map (fun o => Value.pointer (some ⟨tb, o, none⟩))), laidK a0 a1] ∧ (i ≤ os.length) ∧ (kq ≤ s.length) ∧ (l.length = i) ∧ (rdN s os.length k = pre l (rdN s (os.length - i) kq))) (os.length - 0) ?_ ?_
 ·exact ⟨0, k, [], (by omega), H.keep (by kernel_rfl), HP, (Nat.zero_le _), hk, rfl, (pre_nil _).symm⟩
 rintro mm a w_1 ⟨i, kq, l, hmeas, H, HP, hib, hkq, hll, hrel⟩
 refine sq (rg ?_)
 refine H.v 9 (.bool (decide ((i : Int) < (os.length : Int)))) fun a H => ?_
 refine nl (tn (sq ?_))
 refine w_if H rfl (fun g9 => ?_) (fun g9 => ?_)
 ·have g9p := of_decide_eq_true g9
  refine sk (tn (sq (bk (sq ?_))))
  obtain ⟨o, ho⟩ : ∃ o, os[i]? = some o := ⟨_, List.getElem?_eq_getElem (by omega)⟩
  have hou := hos o (List.mem_of_getElem? ho)
  refine rg ?_
  refine H.u 10 (.pointer (some ⟨sb, 0 + i * 1, none⟩)) (ex_index (b := sb) (off := 0) (len := os.length) (cap := os.length) (e := 150) (k := 1) (ik := .i64) (i := (i : Int)) (m := i) (by kernel_rfl) (by kernel_rfl) (by omega) (by omega) (by kernel_rfl) (by kernel_rfl)) fun a H => H.u 11 (pt tb o) (ex_l1 (box_ptr (HP.fact 0 rfl) ho)) fun a H => H.v 5 (pt tb o) fun a H => ?_
  refine nl (tn (rg ?_))
  refine H.v 12 (pt tb o) fun a H => H.v 13 (pt rb 0) fun a H => ?_
  refine H.callP 14 (by kernel_rfl) (Eq.trans (by kernel_rfl : _ = (callFunc 128 #[(pt rb 0)]).run Tryz.prog w_1) (Tryz.call128 _ _)) (number_any a0 a1 s kq rb w_1 (HP.fact 1 rfl) (fun j hj => (hsep j hj).1) (HP.at_ 0 rfl) hl hkq) ?_
  rintro e w_2 ⟨hag, (⟨hR, rfl, hbx⟩ | ⟨z, k2, hR, hk2, rfl, hbx⟩)⟩
  ·refine .inr ⟨_, rfl, ?_⟩
   intro a H
   have HP := HP.changed1 0 rfl (rC s kq) _ rfl hag hbx
   refine inb_panic ?_
   refine then_panic ?_
   refine then_panic ?_
   refine inb_panic ?_
   refine H.endP ?_
   exact ⟨HP.agree _ (by simp [bx]), .inl ⟨kq, _, by rw [hrel, show os.length - i = (os.length - (i + 1)) + 1 by omega]; exact rdN_none hR, hkq, rfl, HP.at_ 0 rfl, HP.at_ 1 rfl, putAt_len _ _ _⟩⟩
  refine .inl ⟨_, rfl, ?_⟩
  intro a H
  have HP := HP.changed1 0 rfl (rC s k2) _ rfl hag hbx
  refine H.v 15 (pt tb o) fun a H => H.store HP 1 tb o 1 ty _ false (ii z) [bx rb 103 (rC s k2) false, bx tb ty (putAt us os (l ++ [z])) false] (by kernel_rfl) (by kernel_rfl) (by kernel_rfl) rfl (by kernel_rfl) (by kernel_rfl) (by kernel_rfl) (by show Nat.ble (o + 1) _ = true; rw [Nat.ble_eq, putAt_len]; omega) (by rw [putAt_snoc us os l (by rw [hll]; exact ho)]; rfl) fun w_3 a H HP => ?_
  refine nl (ibn (tn (rg ?_)))
  refine H.valE 16 (ii (IntKind.i64.wrap ((i : Int) + 1))) (ii ((i : Int) + 1)) (by kernel_rfl) (by kernel_rfl) ((by rw [wrap_ini64 _ (by omega)])) fun a H => H.v 8 (ii ((i : Int) + 1)) fun a H => ?_
  refine nl (tn ?_)
  have H := H.as 8 (ii ((i + 1 : Nat) : Int)) rfl rfl
  refine ⟨_, ?_, i + 1, k2, l ++ [z], rfl, H.keep (by kernel_rfl), HP, (by omega), hk2, (by rw [List.length_append, hll]; rfl), (by rw [hrel, show os.length - i = (os.length - (i + 1)) + 1 by omega]; exact rdN_step hR)⟩
  omega
 have g9p := of_decide_eq_false g9
 refine wp_exit (then_exit (then_exit ?_))
 refine w_exit_here ?_
 refine H.end0 (fn := Tryz.f99) Tryz.results99  ?_
 exact ⟨HP.agree _ (by simp [bx]), .inr ⟨l, kq, by rw [hrel, show os.length - i = 0 by omega]; exact pre_ok _ _, hkq, by omega, rfl, HP.at_ 0 rfl, HP.at_ 1 rfl⟩⟩
end Go.Proofs.YteeillphhiaopaaGreatDoor
namespace Go.Proofs.YteeillphhiaopaaGreatDoor
set_option maxRecDepth 100000
set_option maxHeartbeats 4000000
open Go.ChangeShapes Go.WideShapes Go.ChangeAt Go.RowKit
set_option linter.unusedVariables false
set_option linter.unusedSimpArgs false
theorem len2 {l : List Int} (h : l.length = 2) : ∃ z0 z1, l = [z0, z1] := by
 match l, h with
 | [z0, z1], _ => exact ⟨z0, z1, rfl⟩
theorem len4 {l : List Int} (h : l.length = 4) : ∃ z0 z1 z2 z3, l = [z0, z1, z2, z3] := by
 match l, h with
 | [z0, z1, z2, z3], _ => exact ⟨z0, z1, z2, z3, rfl⟩
theorem len5 {l : List Int} (h : l.length = 5) : ∃ z0 z1 z2 z3 z4, l = [z0, z1, z2, z3, z4] := by
 match l, h with
 | [z0, z1, z2, z3, z4], _ => exact ⟨z0, z1, z2, z3, z4, rfl⟩
theorem len6 {l : List Int} (h : l.length = 6) : ∃ z0 z1 z2 z3 z4 z5, l = [z0, z1, z2, z3, z4, z5] := by
 match l, h with
 | [z0, z1, z2, z3, z4, z5], _ => exact ⟨z0, z1, z2, z3, z4, z5, rfl⟩
theorem len7 {l : List Int} (h : l.length = 7) : ∃ z0 z1 z2 z3 z4 z5 z6, l = [z0, z1, z2, z3, z4, z5, z6] := by
 match l, h with
 | [z0, z1, z2, z3, z4, z5, z6], _ => exact ⟨z0, z1, z2, z3, z4, z5, z6, rfl⟩
theorem len8 {l : List Int} (h : l.length = 8) : ∃ z0 z1 z2 z3 z4 z5 z6 z7, l = [z0, z1, z2, z3, z4, z5, z6, z7] := by
 match l, h with
 | [z0, z1, z2, z3, z4, z5, z6, z7], _ => exact ⟨z0, z1, z2, z3, z4, z5, z6, z7, rfl⟩
theorem rdInt_in {s : List UInt8} {k k1 : Nat} {n : Int} (hk : k ≤ s.length) (h : rdInt s k = some (n, k1)) : -4611686018427387903 ≤ n ∧ n ≤ 4611686018427387903 := by
 obtain ⟨h1, h2, _⟩ := rdInt_canon hk h
 exact ⟨h1, h2⟩
theorem Hp.neB {w0 w : World} {L : List HB} {K : List FK} (H : Hp w0 w L K) (i j : Nat) {b c t u : Nat} {vs us : List Value} {f f' : Bool} (hi : L[i]? = some (bx b t vs f)) (hj : L[j]? = some (bx c u us f')) (hij : i < j) : b ≠ c := fun e => pair_at H.apart hi hj hij b rfl e
theorem Hp.factNe {w0 w : World} {L : List HB} {K : List FK} (H : Hp w0 w L K) (q i : Nat) {p : FK} {b t : Nat} {vs : List Value} {f : Bool} (hq : K[q]? = some p) (hi : L[i]? = some (bx b t vs f)) : ∀ j, p.fp j → j ≠ b := fun j hj e =>
 ((H.kept p (List.mem_of_getElem? hq)).2.2 j hj).2 _ (List.mem_of_getElem? hi) e
theorem Hp.ltK {w0 w : World} {L : List HB} {K : List FK} (H : Hp w0 w L K) : ∀ q ∈ K, ∀ j, q.fp j → j < w.heap.size := fun q hq j hj => ((H.kept q hq).2.2 j hj).1
theorem Hp.pendN {α : Type} {base : Nat} {e : TypeId} {size : Nat} {cs : α → Array Value} {ok : α → World → Prop} {fe : α → Nat → Prop} {v : Value} {l : List α} {w0 w : World} {L : List HB} {K : List FK} (H : Hp w0 w L K) (i : Nat) (hi : L[i]? = some (rowsR base e size cs ok fe v l)) (hel : ElOk ok fe) (p : α) (L' : List HB) (hL : L.set i (rowsP base e size cs ok fe v l p) = L') (hp : ok p w)
  (hn : ∀ k, fe p k → w0.heap.size ≤ k ∧ k < w.heap.size ∧ (∀ y ∈ L, ¬ y.fp k) ∧ ∀ q ∈ K, ¬ q.fp k) : Hp w0 w L' K :=
 H.grow i hi (rowsP base e size cs ok fe v l p) L' hL ⟨H.held i hi, hp, fun k hk => ⟨(hn k hk).2.1, fun hv => (hn k hk).2.2.1 _ (List.mem_of_getElem? hi) (.inl hv)⟩⟩ (rowsP_ok hel) (fun k hk => .inl hk) (fun k hk => hk.elim .inl fun h => .inr (hn k h)) rfl
theorem elOk_en : ElOk (fun (x : Ent) w => x.ok w) Ent.fp := fun _ _ _ h hk hs => Ent.ok.keep h hk hs
def ElPost {α : Type} (cs : α → Array Value) (el : Nat → RdR α) (a0 a1 : Addr) (s : List UInt8) (k rb b ty : Nat) (w : World) (e : Ending) (w' : World) : Prop :=
 Agree w w' (fun j => j = rb ∨ j = b) ∧ ((∃ (E : Int) (k1 : Nat) (us1 : List Value), el k = .error E ∧ (E = 10 ∨ E = 80) ∧ k1 ≤ s.length ∧ e = .panicked (pan a0 a1 E) ∧ Box w' rb 103 (rC s k1).toArray ∧ Box w' b ty us1.toArray) ∨
  (∃ (x : α) (k1 : Nat), el k = .ok (x, k1) ∧ k1 ≤ s.length ∧ e = .returned (.tuple #[]) ∧ Box w' rb 103 (rC s k1).toArray ∧ Box w' b ty (cs x).toList.toArray))
def ElPostE (a0 a1 : Addr) (s : List UInt8) (k rb b ty : Nat) (w : World) (e : Ending) (w' : World) : Prop :=
 Agree w w' (fun j => j = rb ∨ j = b) ∧ ((∃ (E : Int) (k1 : Nat) (us1 : List Value), rdEnt s k = .error E ∧ (E = 10 ∨ E = 80) ∧ k1 ≤ s.length ∧ e = .panicked (pan a0 a1 E) ∧ Box w' rb 103 (rC s k1).toArray ∧ Box w' b ty us1.toArray) ∨
  (∃ (x : Ent) (k1 : Nat), rdEnt s k = .ok (x.nv, k1) ∧ k1 ≤ s.length ∧ e = .returned (.tuple #[]) ∧ Box w' rb 103 (rC s k1).toArray ∧ Box w' b ty (enC x).toList.toArray ∧ x.ok w' ∧ ∀ j, x.fp j → w.heap.size ≤ j))
def ListPost {α : Type} (size : Nat) (cs : α → Array Value) (el : Nat → RdR α) (most : Nat) (a0 a1 : Addr) (s : List UInt8) (k rb : Nat) (w : World) (e : Ending) (w' : World) : Prop :=
 Agree w w' (fun j => j = rb) ∧ ((∃ (E : Int) (k1 : Nat), rdC s most el k = .error E ∧ (E = 10 ∨ E = 80) ∧ k1 ≤ s.length ∧ e = .panicked (pan a0 a1 E) ∧ Box w' rb 103 (rC s k1).toArray) ∨
  (∃ (A : Option Addr) (c : Nat) (l : List α) (k1 : Nat), rdC s most el k = .ok (l, k1) ∧ k1 ≤ s.length ∧ e = .returned (.slice A l.length c) ∧ Box w' rb 103 (rC s k1).toArray ∧ IsRow size cs w' A l ∧ (∀ j, rowFp l.length A j → w.heap.size ≤ j) ∧ l.length ≤ most))
def ListPostE (a0 a1 : Addr) (s : List UInt8) (k rb : Nat) (w : World) (e : Ending) (w' : World) : Prop :=
 Agree w w' (fun j => j = rb) ∧ ((∃ (E : Int) (k1 : Nat), rdC s 4000 (rdEnt s) k = .error E ∧ (E = 10 ∨ E = 80) ∧ k1 ≤ s.length ∧ e = .panicked (pan a0 a1 E) ∧ Box w' rb 103 (rC s k1).toArray) ∨
  (∃ (A : Option Addr) (c : Nat) (l : List Ent) (k1 : Nat), rdC s 4000 (rdEnt s) k = .ok (l.map Ent.nv, k1) ∧ k1 ≤ s.length ∧ e = .returned (.slice A l.length c) ∧ Box w' rb 103 (rC s k1).toArray ∧ IsEn w' A l ∧ (∀ j, enFp A l j → w.heap.size ≤ j) ∧ l.length ≤ 4000))
theorem flat_new {α : Type} {base e size : Nat} {cs : α → Array Value} {ok : α → World → Prop} {fe : α → Nat → Prop} {A : Option Addr} {n c : Nat} {l : List α} {w : World} (h : (rowsR base e size cs ok fe (.slice A n c) l).F w) : ∀ j, rowFp l.length A j → base ≤ j := by
 intro j hj
 obtain ⟨_, off, rfl⟩ := hj
 exact (own_lt h.1 j rfl).2
theorem en_new {base e size : Nat} {cs : Ent → Array Value} {ok : Ent → World → Prop} {A : Option Addr} {n c : Nat} {l : List Ent} {w : World} {n0 : Nat} (h : (rowsR base e size cs ok Ent.fp (.slice A n c) l).F w) (hf : ∀ k, (rowsR base e size cs ok Ent.fp (.slice A n c) l).fp k → n0 ≤ k) : ∀ j, enFp A l j → n0 ≤ j := by
 rintro j (hj | ⟨x, hx, hj⟩)
 ·obtain ⟨_, off, rfl⟩ := hj
  exact hf j (.inl rfl)
 ·exact hf j (.inr ⟨x, hx, hj⟩)
theorem Hp.sub2 {w0 w : World} {L : List HB} {K : List FK} (H : Hp w0 w L K) (is : List Nat) (L' : List HB) (hL : placed L is = L') (hd : distinct is = true) (hf : ∀ x ∈ L, x.fresh = true ∨ x ∈ L') : Hp w0 w L' K := by
 subst hL
 have hm : ∀ x ∈ placed L is, x ∈ L := fun x hx => by obtain ⟨i, _, hi⟩ := placed_mem hx; exact List.mem_of_getElem? hi
 refine ⟨H.os, H.tape, H.output, H.size, fun k hk hn => H.old k hk fun x hx h => ?_, fun x hx => H.res x (hm x hx), ?_, fun x hx => H.fresh x (hm x hx), fun p hp => let ⟨h1, h2, h3⟩ := H.kept p hp; ⟨h1, h2, fun k hk => ⟨(h3 k hk).1, fun x hx => (h3 k hk).2 x (hm x hx)⟩⟩⟩
 ·rcases hf x hx with h' | h'
  ·have := H.fresh x hx h' k h; omega
  ·exact hn x h' h
 ·clear hf hm
  induction is with
  | nil => exact .nil
  | cons i is ih =>
   simp only [distinct, Bool.and_eq_true, Bool.not_eq_true', List.contains_eq_mem, decide_eq_false_iff_not] at hd
   simp only [placed]
   split
   ·rename_i x hx
    refine .cons (fun y hy => ?_) (ih hd.2)
    obtain ⟨j, hj, e⟩ := placed_mem hy
    exact pairwise_at H.apart hx e fun h => hd.1 (h ▸ hj)
   ·exact ih hd.2
theorem rcS_any (a0 a1 : Addr) (s : List UInt8) (k rb br b : Nat) (w : World) (hL : LaidP a0 a1 w) (hsep : ∀ j, lpFp a0 a1 j → j ≠ rb ∧ j ≠ b) (h : Box w rb 103 (rC s k).toArray) (hb : Box w b 76 [(ii 0), (ii 0)].toArray) (hne : rb ≠ b) (hbr : Box w br 148 #[.pointer (some ⟨rb, 0, none⟩)]) (hbn : br ≠ rb ∧ br ≠ b) (hl : s.length ≤ 1000000) (hk : k ≤ s.length) :
  Calls Tryz.prog 101 #[.pointer (some ⟨b, 0, none⟩), .pointer (some ⟨br, 0, none⟩)] w (ElPost altC (rdM altOf s 2) a0 a1 s k rb b 76 w) := by
 have HP : Hp w w [bx rb 103 (rC s k) false, bx b 76 [(ii 0), (ii 0)] false] [boxK br 148 [.pointer (some ⟨rb, 0, none⟩)], laidK a0 a1] := ((Hp.own2 h hb hne).keepF (laidK a0 a1) hL (laidK_ok _ _) (fun j hj => ⟨hL.lt j hj, by simpa [bx] using hsep j hj⟩)).keepF (boxK br 148 [.pointer (some ⟨rb, 0, none⟩)]) hbr (boxK_ok _ _ _) (fun j hj => ⟨by cases hj; exact hbr.lt, by cases hj; simpa [bx] using hbn⟩)
 refine w_enter 12 [(0, (pt b 0)), (1, (pt br 0))] Tryz.func101 rfl Tryz.ntmps101 (by kernel_rfl) (by kernel_rfl) fun a H => ?_
 refine An.start (fun v => Hp w v [bx rb 103 (rC s k) false, bx b 76 [(ii 0), (ii 0)] false] [boxK br 148 [.pointer (some ⟨rb, 0, none⟩)], laidK a0 a1]) 8 9 HP wide_follows rfl fun w_1 HP => ?_
 refine An.vw H (HP) 0 3 (pt rb 0) (fun _ hS => ex_l1 ((hS.fact 0 rfl : Box _ br 148 _).cell (i := 0) rfl)) fun a H => ?_
 refine An.p H (.inr HP) 1 4 (pt b 0) fun a H => ?_
 refine An.p H (.inr HP) 2 5 (pt b 0) fun a H => ?_
 refine An.p H (.inr HP) 3 6 (pt b 0) fun a H => ?_
 refine An.p H (.inr HP) 4 7 (pt b 0) fun a H => ?_
 refine An.p H (.inr HP) 5 8 (pt b 0) fun a H => ?_
 refine An.p H (.inr HP) 6 9 (pt b 1) fun a H => ?_
 refine An.one 7 (by kernel_rfl) ?_
 refine Op.alloc H HP 10 (fun b => (.slice (some ⟨b, 0, none⟩) 2 2)) 150 [(pt b 0), (pt b 1)] rfl (by kernel_rfl) (fun w => by kernel_rfl) fun b_2 w_3 a H HP => ?_
 refine ⟨.inr ((HP.tail rfl)), ?_⟩
 refine An.one 8 (by kernel_rfl) ?_
 refine Op.callP H 11 rfl (by kernel_rfl) (Eq.trans (by kernel_rfl : _ = (callFunc 99 #[(pt rb 0), (.slice (some ⟨b_2, 0, none⟩) 2 2)]).run Tryz.prog w_3) (Tryz.call99 _ _)) (numbers_any a0 a1 s k rb b 76 b_2 [(ii 0), (ii 0)] [0, 1] w_3 (HP.fact 1 rfl) hsep (HP.at_ 1 rfl) (HP.at_ 2 rfl) (HP.at_ 0 rfl) hne ⟨HP.neB 0 1 rfl rfl (by decide), HP.neB 0 2 rfl rfl (by decide)⟩ (by simp) (by decide) hl hk) ?_
 rintro e w_4 ⟨hag, (⟨k2, us2, hE, hk2, rfl, hb1, hb2, _⟩ | ⟨l, k2, hE, hk2, hll, rfl, hb1, hb2⟩)⟩
 ·refine .inr ⟨_, rfl, ?_⟩
  intro a H
  have HP := HP.changed2 1 2 rfl rfl (rC s k2) us2 _ rfl (by decide) hag hb1 hb2
  refine H.endP ?_
  exact ⟨HP.agree _ (by simp [bx, rowsR]), .inl ⟨10, k2, us2, by unfold rdM; rw [show rdN s 2 k = .error 10 from hE], .inl rfl, hk2, rfl, HP.at_ 1 rfl, HP.at_ 2 rfl⟩⟩
 refine .inl ⟨_, rfl, ?_⟩
 intro a H
 obtain ⟨z0, z1, rfl⟩ := len2 hll
 have HP := HP.changed2 1 2 rfl rfl (rC s k2) [(ii z0), (ii z1)] _ rfl (by decide) hag hb1 hb2
 refine ⟨.inl (by kernel_rfl), ?_⟩
 refine An.done (by kernel_rfl) ?_
 refine H.end0 (fn := Tryz.f101) Tryz.results101  ?_
 exact ⟨HP.agree _ (by simp [bx, rowsR]), .inr ⟨altOf [z0, z1], k2, by unfold rdM; rw [show rdN s 2 k = .ok ([z0, z1], k2) from hE], hk2, rfl, HP.at_ 1 rfl, HP.at_ 2 rfl⟩⟩
theorem rcI_any (a0 a1 : Addr) (s : List UInt8) (k rb br b : Nat) (w : World) (hL : LaidP a0 a1 w) (hsep : ∀ j, lpFp a0 a1 j → j ≠ rb ∧ j ≠ b) (h : Box w rb 103 (rC s k).toArray) (hb : Box w b 38 [(ii 0), (ii 0), (ii 0), (ii 0), (ii 0)].toArray) (hne : rb ≠ b) (hbr : Box w br 148 #[.pointer (some ⟨rb, 0, none⟩)]) (hbn : br ≠ rb ∧ br ≠ b) (hl : s.length ≤ 1000000) (hk : k ≤ s.length) :
  Calls Tryz.prog 103 #[.pointer (some ⟨b, 0, none⟩), .pointer (some ⟨br, 0, none⟩)] w (ElPost itC (rdM itOf s 5) a0 a1 s k rb b 38 w) := by
 have HP : Hp w w [bx rb 103 (rC s k) false, bx b 38 [(ii 0), (ii 0), (ii 0), (ii 0), (ii 0)] false] [boxK br 148 [.pointer (some ⟨rb, 0, none⟩)], laidK a0 a1] := ((Hp.own2 h hb hne).keepF (laidK a0 a1) hL (laidK_ok _ _) (fun j hj => ⟨hL.lt j hj, by simpa [bx] using hsep j hj⟩)).keepF (boxK br 148 [.pointer (some ⟨rb, 0, none⟩)]) hbr (boxK_ok _ _ _) (fun j hj => ⟨by cases hj; exact hbr.lt, by cases hj; simpa [bx] using hbn⟩)
 refine w_enter 21 [(0, (pt b 0)), (1, (pt br 0))] Tryz.func103 rfl Tryz.ntmps103 (by kernel_rfl) (by kernel_rfl) fun a H => ?_
 refine An.start (fun v => Hp w v [bx rb 103 (rC s k) false, bx b 38 [(ii 0), (ii 0), (ii 0), (ii 0), (ii 0)] false] [boxK br 148 [.pointer (some ⟨rb, 0, none⟩)], laidK a0 a1]) 17 18 HP wide_follows rfl fun w_1 HP => ?_
 refine An.vw H (HP) 0 3 (pt rb 0) (fun _ hS => ex_l1 ((hS.fact 0 rfl : Box _ br 148 _).cell (i := 0) rfl)) fun a H => ?_
 refine An.p H (.inr HP) 1 4 (pt b 0) fun a H => ?_
 refine An.p H (.inr HP) 2 5 (pt b 0) fun a H => ?_
 refine An.p H (.inr HP) 3 6 (pt b 0) fun a H => ?_
 refine An.p H (.inr HP) 4 7 (pt b 0) fun a H => ?_
 refine An.p H (.inr HP) 5 8 (pt b 0) fun a H => ?_
 refine An.p H (.inr HP) 6 9 (pt b 1) fun a H => ?_
 refine An.p H (.inr HP) 7 10 (pt b 0) fun a H => ?_
 refine An.p H (.inr HP) 8 11 (pt b 0) fun a H => ?_
 refine An.p H (.inr HP) 9 12 (pt b 2) fun a H => ?_
 refine An.p H (.inr HP) 10 13 (pt b 0) fun a H => ?_
 refine An.p H (.inr HP) 11 14 (pt b 0) fun a H => ?_
 refine An.p H (.inr HP) 12 15 (pt b 3) fun a H => ?_
 refine An.p H (.inr HP) 13 16 (pt b 0) fun a H => ?_
 refine An.p H (.inr HP) 14 17 (pt b 0) fun a H => ?_
 refine An.p H (.inr HP) 15 18 (pt b 4) fun a H => ?_
 refine An.one 16 (by kernel_rfl) ?_
 refine Op.alloc H HP 19 (fun b => (.slice (some ⟨b, 0, none⟩) 5 5)) 150 [(pt b 0), (pt b 1), (pt b 2), (pt b 3), (pt b 4)] rfl (by kernel_rfl) (fun w => by kernel_rfl) fun b_2 w_3 a H HP => ?_
 refine ⟨.inr ((HP.tail rfl)), ?_⟩
 refine An.one 17 (by kernel_rfl) ?_
 refine Op.callP H 20 rfl (by kernel_rfl) (Eq.trans (by kernel_rfl : _ = (callFunc 99 #[(pt rb 0), (.slice (some ⟨b_2, 0, none⟩) 5 5)]).run Tryz.prog w_3) (Tryz.call99 _ _)) (numbers_any a0 a1 s k rb b 38 b_2 [(ii 0), (ii 0), (ii 0), (ii 0), (ii 0)] [0, 1, 2, 3, 4] w_3 (HP.fact 1 rfl) hsep (HP.at_ 1 rfl) (HP.at_ 2 rfl) (HP.at_ 0 rfl) hne ⟨HP.neB 0 1 rfl rfl (by decide), HP.neB 0 2 rfl rfl (by decide)⟩ (by simp) (by decide) hl hk) ?_
 rintro e w_4 ⟨hag, (⟨k2, us2, hE, hk2, rfl, hb1, hb2, _⟩ | ⟨l, k2, hE, hk2, hll, rfl, hb1, hb2⟩)⟩
 ·refine .inr ⟨_, rfl, ?_⟩
  intro a H
  have HP := HP.changed2 1 2 rfl rfl (rC s k2) us2 _ rfl (by decide) hag hb1 hb2
  refine H.endP ?_
  exact ⟨HP.agree _ (by simp [bx, rowsR]), .inl ⟨10, k2, us2, by unfold rdM; rw [show rdN s 5 k = .error 10 from hE], .inl rfl, hk2, rfl, HP.at_ 1 rfl, HP.at_ 2 rfl⟩⟩
 refine .inl ⟨_, rfl, ?_⟩
 intro a H
 obtain ⟨z0, z1, z2, z3, z4, rfl⟩ := len5 hll
 have HP := HP.changed2 1 2 rfl rfl (rC s k2) [(ii z0), (ii z1), (ii z2), (ii z3), (ii z4)] _ rfl (by decide) hag hb1 hb2
 refine ⟨.inl (by kernel_rfl), ?_⟩
 refine An.done (by kernel_rfl) ?_
 refine H.end0 (fn := Tryz.f103) Tryz.results103  ?_
 exact ⟨HP.agree _ (by simp [bx, rowsR]), .inr ⟨itOf [z0, z1, z2, z3, z4], k2, by unfold rdM; rw [show rdN s 5 k = .ok ([z0, z1, z2, z3, z4], k2) from hE], hk2, rfl, HP.at_ 1 rfl, HP.at_ 2 rfl⟩⟩
theorem rcA_any (a0 a1 : Addr) (s : List UInt8) (k rb br b : Nat) (w : World) (hL : LaidP a0 a1 w) (hsep : ∀ j, lpFp a0 a1 j → j ≠ rb ∧ j ≠ b) (h : Box w rb 103 (rC s k).toArray) (hb : Box w b 62 [(ii 0), (ii 0)].toArray) (hne : rb ≠ b) (hbr : Box w br 148 #[.pointer (some ⟨rb, 0, none⟩)]) (hbn : br ≠ rb ∧ br ≠ b) (hl : s.length ≤ 1000000) (hk : k ≤ s.length) :
  Calls Tryz.prog 107 #[.pointer (some ⟨b, 0, none⟩), .pointer (some ⟨br, 0, none⟩)] w (ElPost altC (rdM altOf s 2) a0 a1 s k rb b 62 w) := by
 have HP : Hp w w [bx rb 103 (rC s k) false, bx b 62 [(ii 0), (ii 0)] false] [boxK br 148 [.pointer (some ⟨rb, 0, none⟩)], laidK a0 a1] := ((Hp.own2 h hb hne).keepF (laidK a0 a1) hL (laidK_ok _ _) (fun j hj => ⟨hL.lt j hj, by simpa [bx] using hsep j hj⟩)).keepF (boxK br 148 [.pointer (some ⟨rb, 0, none⟩)]) hbr (boxK_ok _ _ _) (fun j hj => ⟨by cases hj; exact hbr.lt, by cases hj; simpa [bx] using hbn⟩)
 refine w_enter 12 [(0, (pt b 0)), (1, (pt br 0))] Tryz.func107 rfl Tryz.ntmps107 (by kernel_rfl) (by kernel_rfl) fun a H => ?_
 refine An.start (fun v => Hp w v [bx rb 103 (rC s k) false, bx b 62 [(ii 0), (ii 0)] false] [boxK br 148 [.pointer (some ⟨rb, 0, none⟩)], laidK a0 a1]) 8 9 HP wide_follows rfl fun w_1 HP => ?_
 refine An.vw H (HP) 0 3 (pt rb 0) (fun _ hS => ex_l1 ((hS.fact 0 rfl : Box _ br 148 _).cell (i := 0) rfl)) fun a H => ?_
 refine An.p H (.inr HP) 1 4 (pt b 0) fun a H => ?_
 refine An.p H (.inr HP) 2 5 (pt b 0) fun a H => ?_
 refine An.p H (.inr HP) 3 6 (pt b 0) fun a H => ?_
 refine An.p H (.inr HP) 4 7 (pt b 0) fun a H => ?_
 refine An.p H (.inr HP) 5 8 (pt b 0) fun a H => ?_
 refine An.p H (.inr HP) 6 9 (pt b 1) fun a H => ?_
 refine An.one 7 (by kernel_rfl) ?_
 refine Op.alloc H HP 10 (fun b => (.slice (some ⟨b, 0, none⟩) 2 2)) 150 [(pt b 0), (pt b 1)] rfl (by kernel_rfl) (fun w => by kernel_rfl) fun b_2 w_3 a H HP => ?_
 refine ⟨.inr ((HP.tail rfl)), ?_⟩
 refine An.one 8 (by kernel_rfl) ?_
 refine Op.callP H 11 rfl (by kernel_rfl) (Eq.trans (by kernel_rfl : _ = (callFunc 99 #[(pt rb 0), (.slice (some ⟨b_2, 0, none⟩) 2 2)]).run Tryz.prog w_3) (Tryz.call99 _ _)) (numbers_any a0 a1 s k rb b 62 b_2 [(ii 0), (ii 0)] [0, 1] w_3 (HP.fact 1 rfl) hsep (HP.at_ 1 rfl) (HP.at_ 2 rfl) (HP.at_ 0 rfl) hne ⟨HP.neB 0 1 rfl rfl (by decide), HP.neB 0 2 rfl rfl (by decide)⟩ (by simp) (by decide) hl hk) ?_
 rintro e w_4 ⟨hag, (⟨k2, us2, hE, hk2, rfl, hb1, hb2, _⟩ | ⟨l, k2, hE, hk2, hll, rfl, hb1, hb2⟩)⟩
 ·refine .inr ⟨_, rfl, ?_⟩
  intro a H
  have HP := HP.changed2 1 2 rfl rfl (rC s k2) us2 _ rfl (by decide) hag hb1 hb2
  refine H.endP ?_
  exact ⟨HP.agree _ (by simp [bx, rowsR]), .inl ⟨10, k2, us2, by unfold rdM; rw [show rdN s 2 k = .error 10 from hE], .inl rfl, hk2, rfl, HP.at_ 1 rfl, HP.at_ 2 rfl⟩⟩
 refine .inl ⟨_, rfl, ?_⟩
 intro a H
 obtain ⟨z0, z1, rfl⟩ := len2 hll
 have HP := HP.changed2 1 2 rfl rfl (rC s k2) [(ii z0), (ii z1)] _ rfl (by decide) hag hb1 hb2
 refine ⟨.inl (by kernel_rfl), ?_⟩
 refine An.done (by kernel_rfl) ?_
 refine H.end0 (fn := Tryz.f107) Tryz.results107  ?_
 exact ⟨HP.agree _ (by simp [bx, rowsR]), .inr ⟨altOf [z0, z1], k2, by unfold rdM; rw [show rdN s 2 k = .ok ([z0, z1], k2) from hE], hk2, rfl, HP.at_ 1 rfl, HP.at_ 2 rfl⟩⟩
theorem rcB_any (a0 a1 : Addr) (s : List UInt8) (k rb br b : Nat) (w : World) (hL : LaidP a0 a1 w) (hsep : ∀ j, lpFp a0 a1 j → j ≠ rb ∧ j ≠ b) (h : Box w rb 103 (rC s k).toArray) (hb : Box w b 47 [(ii 0), (ii 0), (ii 0), (ii 0), (ii 0), (ii 0), (ii 0)].toArray) (hne : rb ≠ b) (hbr : Box w br 148 #[.pointer (some ⟨rb, 0, none⟩)]) (hbn : br ≠ rb ∧ br ≠ b) (hl : s.length ≤ 1000000) (hk : k ≤ s.length) :
  Calls Tryz.prog 109 #[.pointer (some ⟨b, 0, none⟩), .pointer (some ⟨br, 0, none⟩)] w (ElPost bkC (rdM bkOf s 7) a0 a1 s k rb b 47 w) := by
 have HP : Hp w w [bx rb 103 (rC s k) false, bx b 47 [(ii 0), (ii 0), (ii 0), (ii 0), (ii 0), (ii 0), (ii 0)] false] [boxK br 148 [.pointer (some ⟨rb, 0, none⟩)], laidK a0 a1] := ((Hp.own2 h hb hne).keepF (laidK a0 a1) hL (laidK_ok _ _) (fun j hj => ⟨hL.lt j hj, by simpa [bx] using hsep j hj⟩)).keepF (boxK br 148 [.pointer (some ⟨rb, 0, none⟩)]) hbr (boxK_ok _ _ _) (fun j hj => ⟨by cases hj; exact hbr.lt, by cases hj; simpa [bx] using hbn⟩)
 refine w_enter 27 [(0, (pt b 0)), (1, (pt br 0))] Tryz.func109 rfl Tryz.ntmps109 (by kernel_rfl) (by kernel_rfl) fun a H => ?_
 refine An.start (fun v => Hp w v [bx rb 103 (rC s k) false, bx b 47 [(ii 0), (ii 0), (ii 0), (ii 0), (ii 0), (ii 0), (ii 0)] false] [boxK br 148 [.pointer (some ⟨rb, 0, none⟩)], laidK a0 a1]) 23 24 HP wide_follows rfl fun w_1 HP => ?_
 refine An.vw H (HP) 0 3 (pt rb 0) (fun _ hS => ex_l1 ((hS.fact 0 rfl : Box _ br 148 _).cell (i := 0) rfl)) fun a H => ?_
 refine An.p H (.inr HP) 1 4 (pt b 0) fun a H => ?_
 refine An.p H (.inr HP) 2 5 (pt b 0) fun a H => ?_
 refine An.p H (.inr HP) 3 6 (pt b 0) fun a H => ?_
 refine An.p H (.inr HP) 4 7 (pt b 0) fun a H => ?_
 refine An.p H (.inr HP) 5 8 (pt b 0) fun a H => ?_
 refine An.p H (.inr HP) 6 9 (pt b 1) fun a H => ?_
 refine An.p H (.inr HP) 7 10 (pt b 0) fun a H => ?_
 refine An.p H (.inr HP) 8 11 (pt b 0) fun a H => ?_
 refine An.p H (.inr HP) 9 12 (pt b 2) fun a H => ?_
 refine An.p H (.inr HP) 10 13 (pt b 0) fun a H => ?_
 refine An.p H (.inr HP) 11 14 (pt b 0) fun a H => ?_
 refine An.p H (.inr HP) 12 15 (pt b 3) fun a H => ?_
 refine An.p H (.inr HP) 13 16 (pt b 0) fun a H => ?_
 refine An.p H (.inr HP) 14 17 (pt b 0) fun a H => ?_
 refine An.p H (.inr HP) 15 18 (pt b 4) fun a H => ?_
 refine An.p H (.inr HP) 16 19 (pt b 0) fun a H => ?_
 refine An.p H (.inr HP) 17 20 (pt b 0) fun a H => ?_
 refine An.p H (.inr HP) 18 21 (pt b 5) fun a H => ?_
 refine An.p H (.inr HP) 19 22 (pt b 0) fun a H => ?_
 refine An.p H (.inr HP) 20 23 (pt b 0) fun a H => ?_
 refine An.p H (.inr HP) 21 24 (pt b 6) fun a H => ?_
 refine An.one 22 (by kernel_rfl) ?_
 refine Op.alloc H HP 25 (fun b => (.slice (some ⟨b, 0, none⟩) 7 7)) 150 [(pt b 0), (pt b 1), (pt b 2), (pt b 3), (pt b 4), (pt b 5), (pt b 6)] rfl (by kernel_rfl) (fun w => by kernel_rfl) fun b_2 w_3 a H HP => ?_
 refine ⟨.inr ((HP.tail rfl)), ?_⟩
 refine An.one 23 (by kernel_rfl) ?_
 refine Op.callP H 26 rfl (by kernel_rfl) (Eq.trans (by kernel_rfl : _ = (callFunc 99 #[(pt rb 0), (.slice (some ⟨b_2, 0, none⟩) 7 7)]).run Tryz.prog w_3) (Tryz.call99 _ _)) (numbers_any a0 a1 s k rb b 47 b_2 [(ii 0), (ii 0), (ii 0), (ii 0), (ii 0), (ii 0), (ii 0)] [0, 1, 2, 3, 4, 5, 6] w_3 (HP.fact 1 rfl) hsep (HP.at_ 1 rfl) (HP.at_ 2 rfl) (HP.at_ 0 rfl) hne ⟨HP.neB 0 1 rfl rfl (by decide), HP.neB 0 2 rfl rfl (by decide)⟩ (by simp) (by decide) hl hk) ?_
 rintro e w_4 ⟨hag, (⟨k2, us2, hE, hk2, rfl, hb1, hb2, _⟩ | ⟨l, k2, hE, hk2, hll, rfl, hb1, hb2⟩)⟩
 ·refine .inr ⟨_, rfl, ?_⟩
  intro a H
  have HP := HP.changed2 1 2 rfl rfl (rC s k2) us2 _ rfl (by decide) hag hb1 hb2
  refine H.endP ?_
  exact ⟨HP.agree _ (by simp [bx, rowsR]), .inl ⟨10, k2, us2, by unfold rdM; rw [show rdN s 7 k = .error 10 from hE], .inl rfl, hk2, rfl, HP.at_ 1 rfl, HP.at_ 2 rfl⟩⟩
 refine .inl ⟨_, rfl, ?_⟩
 intro a H
 obtain ⟨z0, z1, z2, z3, z4, z5, z6, rfl⟩ := len7 hll
 have HP := HP.changed2 1 2 rfl rfl (rC s k2) [(ii z0), (ii z1), (ii z2), (ii z3), (ii z4), (ii z5), (ii z6)] _ rfl (by decide) hag hb1 hb2
 refine ⟨.inl (by kernel_rfl), ?_⟩
 refine An.done (by kernel_rfl) ?_
 refine H.end0 (fn := Tryz.f109) Tryz.results109  ?_
 exact ⟨HP.agree _ (by simp [bx, rowsR]), .inr ⟨bkOf [z0, z1, z2, z3, z4, z5, z6], k2, by unfold rdM; rw [show rdN s 7 k = .ok ([z0, z1, z2, z3, z4, z5, z6], k2) from hE], hk2, rfl, HP.at_ 1 rfl, HP.at_ 2 rfl⟩⟩
theorem rcC_any (a0 a1 : Addr) (s : List UInt8) (k rb br b : Nat) (w : World) (hL : LaidP a0 a1 w) (hsep : ∀ j, lpFp a0 a1 j → j ≠ rb ∧ j ≠ b) (h : Box w rb 103 (rC s k).toArray) (hb : Box w b 73 [(ii 0), (ii 0), (ii 0), (ii 0), (ii 0), (ii 0), (ii 0), (ii 0)].toArray) (hne : rb ≠ b) (hbr : Box w br 148 #[.pointer (some ⟨rb, 0, none⟩)]) (hbn : br ≠ rb ∧ br ≠ b) (hl : s.length ≤ 1000000) (hk : k ≤ s.length) :
  Calls Tryz.prog 111 #[.pointer (some ⟨b, 0, none⟩), .pointer (some ⟨br, 0, none⟩)] w (ElPost clC (rdM clOf s 8) a0 a1 s k rb b 73 w) := by
 have HP : Hp w w [bx rb 103 (rC s k) false, bx b 73 [(ii 0), (ii 0), (ii 0), (ii 0), (ii 0), (ii 0), (ii 0), (ii 0)] false] [boxK br 148 [.pointer (some ⟨rb, 0, none⟩)], laidK a0 a1] := ((Hp.own2 h hb hne).keepF (laidK a0 a1) hL (laidK_ok _ _) (fun j hj => ⟨hL.lt j hj, by simpa [bx] using hsep j hj⟩)).keepF (boxK br 148 [.pointer (some ⟨rb, 0, none⟩)]) hbr (boxK_ok _ _ _) (fun j hj => ⟨by cases hj; exact hbr.lt, by cases hj; simpa [bx] using hbn⟩)
 refine w_enter 30 [(0, (pt b 0)), (1, (pt br 0))] Tryz.func111 rfl Tryz.ntmps111 (by kernel_rfl) (by kernel_rfl) fun a H => ?_
 refine An.start (fun v => Hp w v [bx rb 103 (rC s k) false, bx b 73 [(ii 0), (ii 0), (ii 0), (ii 0), (ii 0), (ii 0), (ii 0), (ii 0)] false] [boxK br 148 [.pointer (some ⟨rb, 0, none⟩)], laidK a0 a1]) 26 27 HP wide_follows rfl fun w_1 HP => ?_
 refine An.vw H (HP) 0 3 (pt rb 0) (fun _ hS => ex_l1 ((hS.fact 0 rfl : Box _ br 148 _).cell (i := 0) rfl)) fun a H => ?_
 refine An.p H (.inr HP) 1 4 (pt b 0) fun a H => ?_
 refine An.p H (.inr HP) 2 5 (pt b 0) fun a H => ?_
 refine An.p H (.inr HP) 3 6 (pt b 0) fun a H => ?_
 refine An.p H (.inr HP) 4 7 (pt b 0) fun a H => ?_
 refine An.p H (.inr HP) 5 8 (pt b 0) fun a H => ?_
 refine An.p H (.inr HP) 6 9 (pt b 1) fun a H => ?_
 refine An.p H (.inr HP) 7 10 (pt b 0) fun a H => ?_
 refine An.p H (.inr HP) 8 11 (pt b 0) fun a H => ?_
 refine An.p H (.inr HP) 9 12 (pt b 2) fun a H => ?_
 refine An.p H (.inr HP) 10 13 (pt b 0) fun a H => ?_
 refine An.p H (.inr HP) 11 14 (pt b 0) fun a H => ?_
 refine An.p H (.inr HP) 12 15 (pt b 3) fun a H => ?_
 refine An.p H (.inr HP) 13 16 (pt b 0) fun a H => ?_
 refine An.p H (.inr HP) 14 17 (pt b 0) fun a H => ?_
 refine An.p H (.inr HP) 15 18 (pt b 4) fun a H => ?_
 refine An.p H (.inr HP) 16 19 (pt b 0) fun a H => ?_
 refine An.p H (.inr HP) 17 20 (pt b 0) fun a H => ?_
 refine An.p H (.inr HP) 18 21 (pt b 5) fun a H => ?_
 refine An.p H (.inr HP) 19 22 (pt b 0) fun a H => ?_
 refine An.p H (.inr HP) 20 23 (pt b 0) fun a H => ?_
 refine An.p H (.inr HP) 21 24 (pt b 6) fun a H => ?_
 refine An.p H (.inr HP) 22 25 (pt b 0) fun a H => ?_
 refine An.p H (.inr HP) 23 26 (pt b 0) fun a H => ?_
 refine An.p H (.inr HP) 24 27 (pt b 7) fun a H => ?_
 refine An.one 25 (by kernel_rfl) ?_
 refine Op.alloc H HP 28 (fun b => (.slice (some ⟨b, 0, none⟩) 8 8)) 150 [(pt b 0), (pt b 1), (pt b 2), (pt b 3), (pt b 4), (pt b 5), (pt b 6), (pt b 7)] rfl (by kernel_rfl) (fun w => by kernel_rfl) fun b_2 w_3 a H HP => ?_
 refine ⟨.inr ((HP.tail rfl)), ?_⟩
 refine An.one 26 (by kernel_rfl) ?_
 refine Op.callP H 29 rfl (by kernel_rfl) (Eq.trans (by kernel_rfl : _ = (callFunc 99 #[(pt rb 0), (.slice (some ⟨b_2, 0, none⟩) 8 8)]).run Tryz.prog w_3) (Tryz.call99 _ _)) (numbers_any a0 a1 s k rb b 73 b_2 [(ii 0), (ii 0), (ii 0), (ii 0), (ii 0), (ii 0), (ii 0), (ii 0)] [0, 1, 2, 3, 4, 5, 6, 7] w_3 (HP.fact 1 rfl) hsep (HP.at_ 1 rfl) (HP.at_ 2 rfl) (HP.at_ 0 rfl) hne ⟨HP.neB 0 1 rfl rfl (by decide), HP.neB 0 2 rfl rfl (by decide)⟩ (by simp) (by decide) hl hk) ?_
 rintro e w_4 ⟨hag, (⟨k2, us2, hE, hk2, rfl, hb1, hb2, _⟩ | ⟨l, k2, hE, hk2, hll, rfl, hb1, hb2⟩)⟩
 ·refine .inr ⟨_, rfl, ?_⟩
  intro a H
  have HP := HP.changed2 1 2 rfl rfl (rC s k2) us2 _ rfl (by decide) hag hb1 hb2
  refine H.endP ?_
  exact ⟨HP.agree _ (by simp [bx, rowsR]), .inl ⟨10, k2, us2, by unfold rdM; rw [show rdN s 8 k = .error 10 from hE], .inl rfl, hk2, rfl, HP.at_ 1 rfl, HP.at_ 2 rfl⟩⟩
 refine .inl ⟨_, rfl, ?_⟩
 intro a H
 obtain ⟨z0, z1, z2, z3, z4, z5, z6, z7, rfl⟩ := len8 hll
 have HP := HP.changed2 1 2 rfl rfl (rC s k2) [(ii z0), (ii z1), (ii z2), (ii z3), (ii z4), (ii z5), (ii z6), (ii z7)] _ rfl (by decide) hag hb1 hb2
 refine ⟨.inl (by kernel_rfl), ?_⟩
 refine An.done (by kernel_rfl) ?_
 refine H.end0 (fn := Tryz.f111) Tryz.results111  ?_
 exact ⟨HP.agree _ (by simp [bx, rowsR]), .inr ⟨clOf [z0, z1, z2, z3, z4, z5, z6, z7], k2, by unfold rdM; rw [show rdN s 8 k = .ok ([z0, z1, z2, z3, z4, z5, z6, z7], k2) from hE], hk2, rfl, HP.at_ 1 rfl, HP.at_ 2 rfl⟩⟩
theorem listS_any (a0 a1 : Addr) (s : List UInt8) (k rb br : Nat) (w : World) (hL : LaidP a0 a1 w) (hsep : ∀ j, lpFp a0 a1 j → j ≠ rb) (h : Box w rb 103 (rC s k).toArray) (hbr : Box w br 148 #[.pointer (some ⟨rb, 0, none⟩)]) (hbn : br ≠ rb) (hl : s.length ≤ 1000000) (hk : k ≤ s.length) :
  Calls Tryz.prog 100 #[.pointer (some ⟨rb, 0, none⟩), .int .i64 40, .func (.func 101) #[] #[.pointer (some ⟨br, 0, none⟩)]] w (ListPost 2 altC (rdM altOf s 2) 40 a0 a1 s k rb w) := by
 have HP : Hp w w [bx rb 103 (rC s k) false] [boxK br 148 [.pointer (some ⟨rb, 0, none⟩)], laidK a0 a1] := ((Hp.own h).keepF (laidK a0 a1) hL (laidK_ok _ _) (fun j hj => ⟨hL.lt j hj, by simpa [bx] using hsep j hj⟩)).keepF (boxK br 148 [.pointer (some ⟨rb, 0, none⟩)]) hbr (boxK_ok _ _ _) (fun j hj => ⟨by cases hj; exact hbr.lt, by cases hj; simpa [bx] using hbn⟩)
 refine w_enter 31 [(0, (pt rb 0)), (1, (ii 40)), (2, (.func (.func 101) #[] #[(pt br 0)]))] Tryz.func100 rfl Tryz.ntmps100 (by kernel_rfl) (by kernel_rfl) fun a H => ?_
 refine sq (rg ?_)
 refine H.v 6 (.slice none 0 0) fun a H => ?_
 refine nl (tn (sq (rg ?_)))
 refine H.v 10 (pt rb 0) fun a H => ?_
 refine H.callP 11 (by kernel_rfl) (Eq.trans (by kernel_rfl : _ = (callFunc 128 #[(pt rb 0)]).run Tryz.prog w) (Tryz.call128 _ _)) (number_any a0 a1 s k rb w (HP.fact 1 rfl) hsep (HP.at_ 0 rfl) hl hk) ?_
 rintro e w_1 ⟨hag, (⟨hR, rfl, hbx⟩ | ⟨n, k1, hR, hk1, rfl, hbx⟩)⟩
 ·refine .inr ⟨_, rfl, ?_⟩
  intro a H
  have HP := HP.changed1 0 rfl (rC s k) [bx rb 103 (rC s k) false] (by kernel_rfl) hag hbx
  refine then_panic ?_
  refine H.endP ?_
  exact ⟨HP.agree _ (by simp [bx, rowsR]), .inl ⟨10, k, by unfold rdC; rw [hR], .inl rfl, hk, rfl, HP.at_ 0 rfl⟩⟩
 refine .inl ⟨_, rfl, ?_⟩
 intro a H
 have HP := HP.changed1 0 rfl (rC s k1) [bx rb 103 (rC s k1) false] (by kernel_rfl) hag hbx
 obtain ⟨hn1, hn2⟩ := rdInt_in hk hR
 refine H.v 7 (ii n) fun a H => ?_
 refine nl (tn (sq (sq (rg ?_))))
 refine H.v 12 (ii n) fun a H => H.v 13 (.bool (decide (n < 0))) fun a H => H.v 14 (.bool (decide (n < 0))) fun a H => ?_
 refine H.split 14 rfl (fun g14 H => ?_) (fun g14 H => ?_)
 ·have g14p := of_decide_eq_true g14
  iterate 3 refine H.sx rfl fun a H => ?_
  refine H.vx rfl (.bool true) fun a H => ?_
  refine nl (tn ?_)
  refine w_ift H rfl ?_
  refine rg ?_
  refine H.u 19 (.iface 212 (.pointer (some a1))) (ex_l1 ((HP.fact 1 rfl : LaidP a0 a1 _).c1)) fun a H => ?_
  refine H.panic0 (v := (.iface 212 (.pointer (some a1)))) (w' := w_1) (by kernel_rfl) (by kernel_rfl) ?_
  refine then_panic ?_
  refine H.endP ?_
  exact ⟨HP.agree _ (by simp [bx, rowsR]), .inl ⟨80, k1, by unfold rdC; rw [hR]; simp only; rw [if_pos (by omega)], .inr rfl, hk1, rfl, HP.at_ 0 rfl⟩⟩
 have g14p := of_decide_eq_false g14
 refine H.v 15 (ii n) fun a H => H.v 16 (ii 40) fun a H => H.v 17 (.bool (decide (n > 40))) fun a H => H.v 18 (.bool (decide (n > 40))) fun a H => ?_
 refine nl (tn ?_)
 refine w_if H rfl (fun g18 => ?_) (fun g18 => ?_)
 ·have g18p := of_decide_eq_true g18
  refine rg ?_
  refine H.u 19 (.iface 212 (.pointer (some a1))) (ex_l1 ((HP.fact 1 rfl : LaidP a0 a1 _).c1)) fun a H => ?_
  refine H.panic0 (v := (.iface 212 (.pointer (some a1)))) (w' := w_1) (by kernel_rfl) (by kernel_rfl) ?_
  refine then_panic ?_
  refine H.endP ?_
  exact ⟨HP.agree _ (by simp [bx, rowsR]), .inl ⟨80, k1, by unfold rdC; rw [hR]; simp only; rw [if_pos (by omega)], .inr rfl, hk1, rfl, HP.at_ 0 rfl⟩⟩
 have g18p := of_decide_eq_false g18
 refine sk (tn (sq ?_))
 obtain ⟨m, rfl⟩ : ∃ m : Nat, n = m := ⟨n.toNat, by omega⟩
 have hrel0 : rdC s 40 (rdM altOf s 2) k = rdL (rdM altOf s 2) m k1 := by unfold rdC; rw [hR]; simp only; rw [if_neg (by omega), Int.toNat_natCast]
 refine rg ?_
 refine H.v 8 (.slice none 0 0) fun a H => ?_
 refine nl ?_
 have HP := HP.nilRow w.heap.size 76 2 altC (fun _ _ => True) (fun _ _ => False) elOk_flat
 refine tn (sq (sq (rg ?_)))
 refine H.v 20 (ii m) fun a H => H.v 21 (ii 0) fun a H => ?_
 refine nl (tn (bk ?_))
 refine w_loop (fun mm a wv => ∃ (i : Nat), ∃ (kq : Nat), ∃ (l : List (Int × Int)), ∃ (B : Option Addr), ∃ (cc : Nat), m - i = mm ∧ Sl 31 [(21, (ii i)), (20, (ii m)), (8, (.slice B i cc)), (0, (pt rb 0)), (2, (.func (.func 101) #[] #[(pt br 0)]))] a ∧ Hp w wv [(rowsR w.heap.size 76 2 altC (fun _ _ => True) (fun _ _ => False) (.slice B i cc) l), bx rb 103 (rC s kq) false] [boxK br 148 [.pointer (some ⟨rb, 0, none⟩)], laidK a0 a1] ∧ (i ≤ m) ∧ (l.length = i) ∧ (kq ≤ s.length) ∧ (rdC s 40 (rdM altOf s 2) k = pre (l) (rdL (rdM altOf s 2) (m - i) kq))) (m - 0) ?_ ?_
 ·exact ⟨0, k1, [], none, 0, (by omega), H.keep (by kernel_rfl), HP, (Nat.zero_le _), rfl, hk1, (by rw [hrel0]; exact (pre_nil _).symm)⟩
 rintro mm a w_2 ⟨i, kq, l, B, cc, hmeas, H, HP, hi, hll, hkq, hrel⟩
 refine sq (rg ?_)
 refine H.v 22 (.bool (decide ((i : Int) < (m : Int)))) fun a H => ?_
 refine nl (tn (sq ?_))
 refine w_if H rfl (fun g22 => ?_) (fun g22 => ?_)
 ·have g22p := of_decide_eq_true g22
  refine sk (tn (sq (bk (sq (rg ?_)))))
  refine H.al HP 9 76 [(ii 0), (ii 0)] fun b_3 w_4 a H HP => ?_
  refine nl (tn (sq (rg ?_)))
  refine H.v 23 (.func (.func 101) #[] #[(pt br 0)]) fun a H => ?_
  refine H.callP 24 (by kernel_rfl) (Eq.trans (by kernel_rfl : _ = (callFunc 101 #[(pt b_3 0), (pt br 0)]).run Tryz.prog w_4) (Tryz.call101 _ _)) (rcS_any a0 a1 s kq rb br b_3 w_4 (HP.fact 1 rfl) (fun j hj => ⟨HP.factNe 1 2 rfl rfl j hj, HP.factNe 1 0 rfl rfl j hj⟩) (HP.at_ 2 rfl) (HP.at_ 0 rfl) ((HP.neB 0 2 rfl rfl (by decide)).symm) (HP.fact 0 rfl) ⟨HP.factNe 0 2 rfl rfl br rfl, HP.factNe 0 0 rfl rfl br rfl⟩ hl hkq) ?_
  rintro e w_5 ⟨hag, (⟨E, k2, us2, hE, hE2, hk2, rfl, hb1, hb2⟩ | ⟨x, k2, hE, hk2, rfl, hb1, hb2⟩)⟩
  ·refine .inr ⟨_, rfl, ?_⟩
   intro a H
   have HP := HP.changed2 2 0 rfl rfl (rC s k2) us2 _ rfl (by decide) hag hb1 hb2
   refine then_panic ?_
   refine inb_panic ?_
   refine then_panic ?_
   refine then_panic ?_
   refine inb_panic ?_
   refine then_panic ?_
   refine H.endP ?_
   exact ⟨HP.agree _ (by simp [bx, rowsR]), .inl ⟨E, k2, by rw [hrel, show m - i = (m - (i + 1)) + 1 by omega]; exact rdL_err hE, hE2, hk2, rfl, HP.at_ 2 rfl⟩⟩
  refine .inl ⟨_, rfl, ?_⟩
  intro a H
  have HP := HP.changed2 2 0 rfl rfl (rC s k2) (alL x) _ rfl (by decide) hag hb1 hb2
  refine nl (tn (rg ?_))
  refine H.v 25 (.slice B i cc) fun a H => H.u 26 (alV x) (ex_lN (alL x) (HP.cells 0 rfl 0 2 (by kernel_rfl))) fun a H => H.alloc HP 27 (fun b => (.slice (some ⟨b, 0, none⟩) 1 1)) 76 (alL x) (by kernel_rfl) (fun w => by kernel_rfl) fun b_6 w_7 a H HP => ?_
  have HP := HP.pend0 2 rfl elOk_flat x [bx b_6 76 (alL x) true, bx b_3 76 (alL x) true, (rowsP w.heap.size 76 2 altC (fun _ _ => True) (fun _ _ => False) (.slice B i cc) l x), bx rb 103 (rC s k2) false] (by kernel_rfl) trivial (fun _ h => h)
  refine H.push HP 28 2 0 (v := (.slice B i cc)) (e := 76) (p := x) (l := l) (cs := altC) (ok := (fun _ _ => True)) (fe := (fun _ _ => False)) (size := 2) (z := (.agg #[(ii 0), (ii 0)])) (bytes := 16) (bb := b_6) (tb := 76) (fb := true) (by kernel_rfl) elOk_flat (by kernel_rfl) (by kernel_rfl) rfl (by kernel_rfl) (by kernel_rfl) (by kernel_rfl) (by kernel_rfl) (by kernel_rfl) rfl (by kernel_rfl) (by rw [hll]; unfold maxLen; omega) (by rw [hll]; omega) fun B_8 c_9 w_10 a H HP => ?_
  have HP : Hp w w_10 [bx b_6 76 (alL x) true, bx b_3 76 (alL x) true, (rowsR w.heap.size 76 2 altC (fun _ _ => True) (fun _ _ => False) (.slice B_8 (l.length + 1) c_9) (l ++ [x])), bx rb 103 (rC s k2) false] [boxK br 148 [.pointer (some ⟨rb, 0, none⟩)], laidK a0 a1] := HP
  rw [hll] at H HP
  refine H.v 8 (.slice B_8 (i + 1) c_9) fun a H => ?_
  refine nl (ibn (tn (rg ?_)))
  refine H.valE 29 (ii (IntKind.i64.wrap ((i : Int) + 1))) (ii ((i : Int) + 1)) (by kernel_rfl) (by kernel_rfl) ((by rw [wrap_ini64 _ (by omega)])) fun a H => H.v 21 (ii ((i : Int) + 1)) fun a H => ?_
  refine nl (tn ?_)
  have HP := HP.tail rfl
  have HP := HP.tail rfl
  have H := H.as 21 (ii ((i + 1 : Nat) : Int)) rfl rfl
  refine ⟨_, ?_, i + 1, k2, l ++ [x], B_8, c_9, rfl, H.keep (by kernel_rfl), HP, (by omega), (by rw [List.length_append, hll]; rfl), hk2, (by rw [hrel, show m - i = (m - (i + 1)) + 1 by omega]; exact rdL_step hE)⟩
  omega
 have g22p := of_decide_eq_false g22
 refine wp_exit (then_exit (then_exit ?_))
 refine w_exit_here ?_
 refine tn (sq (rg ?_))
 refine H.v 30 (.slice B i cc) fun a H => H.v 6 (.slice B i cc) fun a H => ?_
 refine nl (tn (rt ?_))
 refine H.r1 (.slice B i cc) Tryz.results100 ?_
 have hrow := HP.held 0 rfl
 have hfr := HP.fresh _ (List.mem_of_getElem? (i := 0) rfl) rfl
 have hres : rdC s 40 (rdM altOf s 2) k = .ok (l, kq) := by rw [hrel, show m - i = 0 by omega]; exact pre_ok _ _
 subst hll
 exact ⟨HP.agree _ (by simp [bx, rowsR]), .inr ⟨B, cc, l, kq, hres, hkq, rfl, HP.at_ 1 rfl, Rd.of_own hrow.1, flat_new hrow, by omega⟩⟩
theorem listI_any (a0 a1 : Addr) (s : List UInt8) (k rb br : Nat) (w : World) (hL : LaidP a0 a1 w) (hsep : ∀ j, lpFp a0 a1 j → j ≠ rb) (h : Box w rb 103 (rC s k).toArray) (hbr : Box w br 148 #[.pointer (some ⟨rb, 0, none⟩)]) (hbn : br ≠ rb) (hl : s.length ≤ 1000000) (hk : k ≤ s.length) :
  Calls Tryz.prog 102 #[.pointer (some ⟨rb, 0, none⟩), .int .i64 4000, .func (.func 103) #[] #[.pointer (some ⟨br, 0, none⟩)]] w (ListPost 5 itC (rdM itOf s 5) 4000 a0 a1 s k rb w) := by
 have HP : Hp w w [bx rb 103 (rC s k) false] [boxK br 148 [.pointer (some ⟨rb, 0, none⟩)], laidK a0 a1] := ((Hp.own h).keepF (laidK a0 a1) hL (laidK_ok _ _) (fun j hj => ⟨hL.lt j hj, by simpa [bx] using hsep j hj⟩)).keepF (boxK br 148 [.pointer (some ⟨rb, 0, none⟩)]) hbr (boxK_ok _ _ _) (fun j hj => ⟨by cases hj; exact hbr.lt, by cases hj; simpa [bx] using hbn⟩)
 refine w_enter 31 [(0, (pt rb 0)), (1, (ii 4000)), (2, (.func (.func 103) #[] #[(pt br 0)]))] Tryz.func102 rfl Tryz.ntmps102 (by kernel_rfl) (by kernel_rfl) fun a H => ?_
 refine sq (rg ?_)
 refine H.v 6 (.slice none 0 0) fun a H => ?_
 refine nl (tn (sq (rg ?_)))
 refine H.v 10 (pt rb 0) fun a H => ?_
 refine H.callP 11 (by kernel_rfl) (Eq.trans (by kernel_rfl : _ = (callFunc 128 #[(pt rb 0)]).run Tryz.prog w) (Tryz.call128 _ _)) (number_any a0 a1 s k rb w (HP.fact 1 rfl) hsep (HP.at_ 0 rfl) hl hk) ?_
 rintro e w_1 ⟨hag, (⟨hR, rfl, hbx⟩ | ⟨n, k1, hR, hk1, rfl, hbx⟩)⟩
 ·refine .inr ⟨_, rfl, ?_⟩
  intro a H
  have HP := HP.changed1 0 rfl (rC s k) [bx rb 103 (rC s k) false] (by kernel_rfl) hag hbx
  refine then_panic ?_
  refine H.endP ?_
  exact ⟨HP.agree _ (by simp [bx, rowsR]), .inl ⟨10, k, by unfold rdC; rw [hR], .inl rfl, hk, rfl, HP.at_ 0 rfl⟩⟩
 refine .inl ⟨_, rfl, ?_⟩
 intro a H
 have HP := HP.changed1 0 rfl (rC s k1) [bx rb 103 (rC s k1) false] (by kernel_rfl) hag hbx
 obtain ⟨hn1, hn2⟩ := rdInt_in hk hR
 refine H.v 7 (ii n) fun a H => ?_
 refine nl (tn (sq (sq (rg ?_))))
 refine H.v 12 (ii n) fun a H => H.v 13 (.bool (decide (n < 0))) fun a H => H.v 14 (.bool (decide (n < 0))) fun a H => ?_
 refine H.split 14 rfl (fun g14 H => ?_) (fun g14 H => ?_)
 ·have g14p := of_decide_eq_true g14
  iterate 3 refine H.sx rfl fun a H => ?_
  refine H.vx rfl (.bool true) fun a H => ?_
  refine nl (tn ?_)
  refine w_ift H rfl ?_
  refine rg ?_
  refine H.u 19 (.iface 212 (.pointer (some a1))) (ex_l1 ((HP.fact 1 rfl : LaidP a0 a1 _).c1)) fun a H => ?_
  refine H.panic0 (v := (.iface 212 (.pointer (some a1)))) (w' := w_1) (by kernel_rfl) (by kernel_rfl) ?_
  refine then_panic ?_
  refine H.endP ?_
  exact ⟨HP.agree _ (by simp [bx, rowsR]), .inl ⟨80, k1, by unfold rdC; rw [hR]; simp only; rw [if_pos (by omega)], .inr rfl, hk1, rfl, HP.at_ 0 rfl⟩⟩
 have g14p := of_decide_eq_false g14
 refine H.v 15 (ii n) fun a H => H.v 16 (ii 4000) fun a H => H.v 17 (.bool (decide (n > 4000))) fun a H => H.v 18 (.bool (decide (n > 4000))) fun a H => ?_
 refine nl (tn ?_)
 refine w_if H rfl (fun g18 => ?_) (fun g18 => ?_)
 ·have g18p := of_decide_eq_true g18
  refine rg ?_
  refine H.u 19 (.iface 212 (.pointer (some a1))) (ex_l1 ((HP.fact 1 rfl : LaidP a0 a1 _).c1)) fun a H => ?_
  refine H.panic0 (v := (.iface 212 (.pointer (some a1)))) (w' := w_1) (by kernel_rfl) (by kernel_rfl) ?_
  refine then_panic ?_
  refine H.endP ?_
  exact ⟨HP.agree _ (by simp [bx, rowsR]), .inl ⟨80, k1, by unfold rdC; rw [hR]; simp only; rw [if_pos (by omega)], .inr rfl, hk1, rfl, HP.at_ 0 rfl⟩⟩
 have g18p := of_decide_eq_false g18
 refine sk (tn (sq ?_))
 obtain ⟨m, rfl⟩ : ∃ m : Nat, n = m := ⟨n.toNat, by omega⟩
 have hrel0 : rdC s 4000 (rdM itOf s 5) k = rdL (rdM itOf s 5) m k1 := by unfold rdC; rw [hR]; simp only; rw [if_neg (by omega), Int.toNat_natCast]
 refine rg ?_
 refine H.v 8 (.slice none 0 0) fun a H => ?_
 refine nl ?_
 have HP := HP.nilRow w.heap.size 38 5 itC (fun _ _ => True) (fun _ _ => False) elOk_flat
 refine tn (sq (sq (rg ?_)))
 refine H.v 20 (ii m) fun a H => H.v 21 (ii 0) fun a H => ?_
 refine nl (tn (bk ?_))
 refine w_loop (fun mm a wv => ∃ (i : Nat), ∃ (kq : Nat), ∃ (l : List (Itm)), ∃ (B : Option Addr), ∃ (cc : Nat), m - i = mm ∧ Sl 31 [(21, (ii i)), (20, (ii m)), (8, (.slice B i cc)), (0, (pt rb 0)), (2, (.func (.func 103) #[] #[(pt br 0)]))] a ∧ Hp w wv [(rowsR w.heap.size 38 5 itC (fun _ _ => True) (fun _ _ => False) (.slice B i cc) l), bx rb 103 (rC s kq) false] [boxK br 148 [.pointer (some ⟨rb, 0, none⟩)], laidK a0 a1] ∧ (i ≤ m) ∧ (l.length = i) ∧ (kq ≤ s.length) ∧ (rdC s 4000 (rdM itOf s 5) k = pre (l) (rdL (rdM itOf s 5) (m - i) kq))) (m - 0) ?_ ?_
 ·exact ⟨0, k1, [], none, 0, (by omega), H.keep (by kernel_rfl), HP, (Nat.zero_le _), rfl, hk1, (by rw [hrel0]; exact (pre_nil _).symm)⟩
 rintro mm a w_2 ⟨i, kq, l, B, cc, hmeas, H, HP, hi, hll, hkq, hrel⟩
 refine sq (rg ?_)
 refine H.v 22 (.bool (decide ((i : Int) < (m : Int)))) fun a H => ?_
 refine nl (tn (sq ?_))
 refine w_if H rfl (fun g22 => ?_) (fun g22 => ?_)
 ·have g22p := of_decide_eq_true g22
  refine sk (tn (sq (bk (sq (rg ?_)))))
  refine H.al HP 9 38 [(ii 0), (ii 0), (ii 0), (ii 0), (ii 0)] fun b_3 w_4 a H HP => ?_
  refine nl (tn (sq (rg ?_)))
  refine H.v 23 (.func (.func 103) #[] #[(pt br 0)]) fun a H => ?_
  refine H.callP 24 (by kernel_rfl) (Eq.trans (by kernel_rfl : _ = (callFunc 103 #[(pt b_3 0), (pt br 0)]).run Tryz.prog w_4) (Tryz.call103 _ _)) (rcI_any a0 a1 s kq rb br b_3 w_4 (HP.fact 1 rfl) (fun j hj => ⟨HP.factNe 1 2 rfl rfl j hj, HP.factNe 1 0 rfl rfl j hj⟩) (HP.at_ 2 rfl) (HP.at_ 0 rfl) ((HP.neB 0 2 rfl rfl (by decide)).symm) (HP.fact 0 rfl) ⟨HP.factNe 0 2 rfl rfl br rfl, HP.factNe 0 0 rfl rfl br rfl⟩ hl hkq) ?_
  rintro e w_5 ⟨hag, (⟨E, k2, us2, hE, hE2, hk2, rfl, hb1, hb2⟩ | ⟨x, k2, hE, hk2, rfl, hb1, hb2⟩)⟩
  ·refine .inr ⟨_, rfl, ?_⟩
   intro a H
   have HP := HP.changed2 2 0 rfl rfl (rC s k2) us2 _ rfl (by decide) hag hb1 hb2
   refine then_panic ?_
   refine inb_panic ?_
   refine then_panic ?_
   refine then_panic ?_
   refine inb_panic ?_
   refine then_panic ?_
   refine H.endP ?_
   exact ⟨HP.agree _ (by simp [bx, rowsR]), .inl ⟨E, k2, by rw [hrel, show m - i = (m - (i + 1)) + 1 by omega]; exact rdL_err hE, hE2, hk2, rfl, HP.at_ 2 rfl⟩⟩
  refine .inl ⟨_, rfl, ?_⟩
  intro a H
  have HP := HP.changed2 2 0 rfl rfl (rC s k2) (itL x) _ rfl (by decide) hag hb1 hb2
  refine nl (tn (rg ?_))
  refine H.v 25 (.slice B i cc) fun a H => H.u 26 (itV x) (ex_lN (itL x) (HP.cells 0 rfl 0 5 (by kernel_rfl))) fun a H => H.alloc HP 27 (fun b => (.slice (some ⟨b, 0, none⟩) 1 1)) 38 (itL x) (by kernel_rfl) (fun w => by kernel_rfl) fun b_6 w_7 a H HP => ?_
  have HP := HP.pend0 2 rfl elOk_flat x [bx b_6 38 (itL x) true, bx b_3 38 (itL x) true, (rowsP w.heap.size 38 5 itC (fun _ _ => True) (fun _ _ => False) (.slice B i cc) l x), bx rb 103 (rC s k2) false] (by kernel_rfl) trivial (fun _ h => h)
  refine H.push HP 28 2 0 (v := (.slice B i cc)) (e := 38) (p := x) (l := l) (cs := itC) (ok := (fun _ _ => True)) (fe := (fun _ _ => False)) (size := 5) (z := (.agg #[(ii 0), (ii 0), (ii 0), (ii 0), (ii 0)])) (bytes := 40) (bb := b_6) (tb := 38) (fb := true) (by kernel_rfl) elOk_flat (by kernel_rfl) (by kernel_rfl) rfl (by kernel_rfl) (by kernel_rfl) (by kernel_rfl) (by kernel_rfl) (by kernel_rfl) rfl (by kernel_rfl) (by rw [hll]; unfold maxLen; omega) (by rw [hll]; omega) fun B_8 c_9 w_10 a H HP => ?_
  have HP : Hp w w_10 [bx b_6 38 (itL x) true, bx b_3 38 (itL x) true, (rowsR w.heap.size 38 5 itC (fun _ _ => True) (fun _ _ => False) (.slice B_8 (l.length + 1) c_9) (l ++ [x])), bx rb 103 (rC s k2) false] [boxK br 148 [.pointer (some ⟨rb, 0, none⟩)], laidK a0 a1] := HP
  rw [hll] at H HP
  refine H.v 8 (.slice B_8 (i + 1) c_9) fun a H => ?_
  refine nl (ibn (tn (rg ?_)))
  refine H.valE 29 (ii (IntKind.i64.wrap ((i : Int) + 1))) (ii ((i : Int) + 1)) (by kernel_rfl) (by kernel_rfl) ((by rw [wrap_ini64 _ (by omega)])) fun a H => H.v 21 (ii ((i : Int) + 1)) fun a H => ?_
  refine nl (tn ?_)
  have HP := HP.tail rfl
  have HP := HP.tail rfl
  have H := H.as 21 (ii ((i + 1 : Nat) : Int)) rfl rfl
  refine ⟨_, ?_, i + 1, k2, l ++ [x], B_8, c_9, rfl, H.keep (by kernel_rfl), HP, (by omega), (by rw [List.length_append, hll]; rfl), hk2, (by rw [hrel, show m - i = (m - (i + 1)) + 1 by omega]; exact rdL_step hE)⟩
  omega
 have g22p := of_decide_eq_false g22
 refine wp_exit (then_exit (then_exit ?_))
 refine w_exit_here ?_
 refine tn (sq (rg ?_))
 refine H.v 30 (.slice B i cc) fun a H => H.v 6 (.slice B i cc) fun a H => ?_
 refine nl (tn (rt ?_))
 refine H.r1 (.slice B i cc) Tryz.results102 ?_
 have hrow := HP.held 0 rfl
 have hfr := HP.fresh _ (List.mem_of_getElem? (i := 0) rfl) rfl
 have hres : rdC s 4000 (rdM itOf s 5) k = .ok (l, kq) := by rw [hrel, show m - i = 0 by omega]; exact pre_ok _ _
 subst hll
 exact ⟨HP.agree _ (by simp [bx, rowsR]), .inr ⟨B, cc, l, kq, hres, hkq, rfl, HP.at_ 1 rfl, Rd.of_own hrow.1, flat_new hrow, by omega⟩⟩
theorem listA_any (a0 a1 : Addr) (s : List UInt8) (k rb br : Nat) (w : World) (hL : LaidP a0 a1 w) (hsep : ∀ j, lpFp a0 a1 j → j ≠ rb) (h : Box w rb 103 (rC s k).toArray) (hbr : Box w br 148 #[.pointer (some ⟨rb, 0, none⟩)]) (hbn : br ≠ rb) (hl : s.length ≤ 1000000) (hk : k ≤ s.length) :
  Calls Tryz.prog 106 #[.pointer (some ⟨rb, 0, none⟩), .int .i64 7, .func (.func 107) #[] #[.pointer (some ⟨br, 0, none⟩)]] w (ListPost 2 altC (rdM altOf s 2) 7 a0 a1 s k rb w) := by
 have HP : Hp w w [bx rb 103 (rC s k) false] [boxK br 148 [.pointer (some ⟨rb, 0, none⟩)], laidK a0 a1] := ((Hp.own h).keepF (laidK a0 a1) hL (laidK_ok _ _) (fun j hj => ⟨hL.lt j hj, by simpa [bx] using hsep j hj⟩)).keepF (boxK br 148 [.pointer (some ⟨rb, 0, none⟩)]) hbr (boxK_ok _ _ _) (fun j hj => ⟨by cases hj; exact hbr.lt, by cases hj; simpa [bx] using hbn⟩)
 refine w_enter 31 [(0, (pt rb 0)), (1, (ii 7)), (2, (.func (.func 107) #[] #[(pt br 0)]))] Tryz.func106 rfl Tryz.ntmps106 (by kernel_rfl) (by kernel_rfl) fun a H => ?_
 refine sq (rg ?_)
 refine H.v 6 (.slice none 0 0) fun a H => ?_
 refine nl (tn (sq (rg ?_)))
 refine H.v 10 (pt rb 0) fun a H => ?_
 refine H.callP 11 (by kernel_rfl) (Eq.trans (by kernel_rfl : _ = (callFunc 128 #[(pt rb 0)]).run Tryz.prog w) (Tryz.call128 _ _)) (number_any a0 a1 s k rb w (HP.fact 1 rfl) hsep (HP.at_ 0 rfl) hl hk) ?_
 rintro e w_1 ⟨hag, (⟨hR, rfl, hbx⟩ | ⟨n, k1, hR, hk1, rfl, hbx⟩)⟩
 ·refine .inr ⟨_, rfl, ?_⟩
  intro a H
  have HP := HP.changed1 0 rfl (rC s k) [bx rb 103 (rC s k) false] (by kernel_rfl) hag hbx
  refine then_panic ?_
  refine H.endP ?_
  exact ⟨HP.agree _ (by simp [bx, rowsR]), .inl ⟨10, k, by unfold rdC; rw [hR], .inl rfl, hk, rfl, HP.at_ 0 rfl⟩⟩
 refine .inl ⟨_, rfl, ?_⟩
 intro a H
 have HP := HP.changed1 0 rfl (rC s k1) [bx rb 103 (rC s k1) false] (by kernel_rfl) hag hbx
 obtain ⟨hn1, hn2⟩ := rdInt_in hk hR
 refine H.v 7 (ii n) fun a H => ?_
 refine nl (tn (sq (sq (rg ?_))))
 refine H.v 12 (ii n) fun a H => H.v 13 (.bool (decide (n < 0))) fun a H => H.v 14 (.bool (decide (n < 0))) fun a H => ?_
 refine H.split 14 rfl (fun g14 H => ?_) (fun g14 H => ?_)
 ·have g14p := of_decide_eq_true g14
  iterate 3 refine H.sx rfl fun a H => ?_
  refine H.vx rfl (.bool true) fun a H => ?_
  refine nl (tn ?_)
  refine w_ift H rfl ?_
  refine rg ?_
  refine H.u 19 (.iface 212 (.pointer (some a1))) (ex_l1 ((HP.fact 1 rfl : LaidP a0 a1 _).c1)) fun a H => ?_
  refine H.panic0 (v := (.iface 212 (.pointer (some a1)))) (w' := w_1) (by kernel_rfl) (by kernel_rfl) ?_
  refine then_panic ?_
  refine H.endP ?_
  exact ⟨HP.agree _ (by simp [bx, rowsR]), .inl ⟨80, k1, by unfold rdC; rw [hR]; simp only; rw [if_pos (by omega)], .inr rfl, hk1, rfl, HP.at_ 0 rfl⟩⟩
 have g14p := of_decide_eq_false g14
 refine H.v 15 (ii n) fun a H => H.v 16 (ii 7) fun a H => H.v 17 (.bool (decide (n > 7))) fun a H => H.v 18 (.bool (decide (n > 7))) fun a H => ?_
 refine nl (tn ?_)
 refine w_if H rfl (fun g18 => ?_) (fun g18 => ?_)
 ·have g18p := of_decide_eq_true g18
  refine rg ?_
  refine H.u 19 (.iface 212 (.pointer (some a1))) (ex_l1 ((HP.fact 1 rfl : LaidP a0 a1 _).c1)) fun a H => ?_
  refine H.panic0 (v := (.iface 212 (.pointer (some a1)))) (w' := w_1) (by kernel_rfl) (by kernel_rfl) ?_
  refine then_panic ?_
  refine H.endP ?_
  exact ⟨HP.agree _ (by simp [bx, rowsR]), .inl ⟨80, k1, by unfold rdC; rw [hR]; simp only; rw [if_pos (by omega)], .inr rfl, hk1, rfl, HP.at_ 0 rfl⟩⟩
 have g18p := of_decide_eq_false g18
 refine sk (tn (sq ?_))
 obtain ⟨m, rfl⟩ : ∃ m : Nat, n = m := ⟨n.toNat, by omega⟩
 have hrel0 : rdC s 7 (rdM altOf s 2) k = rdL (rdM altOf s 2) m k1 := by unfold rdC; rw [hR]; simp only; rw [if_neg (by omega), Int.toNat_natCast]
 refine rg ?_
 refine H.v 8 (.slice none 0 0) fun a H => ?_
 refine nl ?_
 have HP := HP.nilRow w.heap.size 62 2 altC (fun _ _ => True) (fun _ _ => False) elOk_flat
 refine tn (sq (sq (rg ?_)))
 refine H.v 20 (ii m) fun a H => H.v 21 (ii 0) fun a H => ?_
 refine nl (tn (bk ?_))
 refine w_loop (fun mm a wv => ∃ (i : Nat), ∃ (kq : Nat), ∃ (l : List (Int × Int)), ∃ (B : Option Addr), ∃ (cc : Nat), m - i = mm ∧ Sl 31 [(21, (ii i)), (20, (ii m)), (8, (.slice B i cc)), (0, (pt rb 0)), (2, (.func (.func 107) #[] #[(pt br 0)]))] a ∧ Hp w wv [(rowsR w.heap.size 62 2 altC (fun _ _ => True) (fun _ _ => False) (.slice B i cc) l), bx rb 103 (rC s kq) false] [boxK br 148 [.pointer (some ⟨rb, 0, none⟩)], laidK a0 a1] ∧ (i ≤ m) ∧ (l.length = i) ∧ (kq ≤ s.length) ∧ (rdC s 7 (rdM altOf s 2) k = pre (l) (rdL (rdM altOf s 2) (m - i) kq))) (m - 0) ?_ ?_
 ·exact ⟨0, k1, [], none, 0, (by omega), H.keep (by kernel_rfl), HP, (Nat.zero_le _), rfl, hk1, (by rw [hrel0]; exact (pre_nil _).symm)⟩
 rintro mm a w_2 ⟨i, kq, l, B, cc, hmeas, H, HP, hi, hll, hkq, hrel⟩
 refine sq (rg ?_)
 refine H.v 22 (.bool (decide ((i : Int) < (m : Int)))) fun a H => ?_
 refine nl (tn (sq ?_))
 refine w_if H rfl (fun g22 => ?_) (fun g22 => ?_)
 ·have g22p := of_decide_eq_true g22
  refine sk (tn (sq (bk (sq (rg ?_)))))
  refine H.al HP 9 62 [(ii 0), (ii 0)] fun b_3 w_4 a H HP => ?_
  refine nl (tn (sq (rg ?_)))
  refine H.v 23 (.func (.func 107) #[] #[(pt br 0)]) fun a H => ?_
  refine H.callP 24 (by kernel_rfl) (Eq.trans (by kernel_rfl : _ = (callFunc 107 #[(pt b_3 0), (pt br 0)]).run Tryz.prog w_4) (Tryz.call107 _ _)) (rcA_any a0 a1 s kq rb br b_3 w_4 (HP.fact 1 rfl) (fun j hj => ⟨HP.factNe 1 2 rfl rfl j hj, HP.factNe 1 0 rfl rfl j hj⟩) (HP.at_ 2 rfl) (HP.at_ 0 rfl) ((HP.neB 0 2 rfl rfl (by decide)).symm) (HP.fact 0 rfl) ⟨HP.factNe 0 2 rfl rfl br rfl, HP.factNe 0 0 rfl rfl br rfl⟩ hl hkq) ?_
  rintro e w_5 ⟨hag, (⟨E, k2, us2, hE, hE2, hk2, rfl, hb1, hb2⟩ | ⟨x, k2, hE, hk2, rfl, hb1, hb2⟩)⟩
  ·refine .inr ⟨_, rfl, ?_⟩
   intro a H
   have HP := HP.changed2 2 0 rfl rfl (rC s k2) us2 _ rfl (by decide) hag hb1 hb2
   refine then_panic ?_
   refine inb_panic ?_
   refine then_panic ?_
   refine then_panic ?_
   refine inb_panic ?_
   refine then_panic ?_
   refine H.endP ?_
   exact ⟨HP.agree _ (by simp [bx, rowsR]), .inl ⟨E, k2, by rw [hrel, show m - i = (m - (i + 1)) + 1 by omega]; exact rdL_err hE, hE2, hk2, rfl, HP.at_ 2 rfl⟩⟩
  refine .inl ⟨_, rfl, ?_⟩
  intro a H
  have HP := HP.changed2 2 0 rfl rfl (rC s k2) (alL x) _ rfl (by decide) hag hb1 hb2
  refine nl (tn (rg ?_))
  refine H.v 25 (.slice B i cc) fun a H => H.u 26 (alV x) (ex_lN (alL x) (HP.cells 0 rfl 0 2 (by kernel_rfl))) fun a H => H.alloc HP 27 (fun b => (.slice (some ⟨b, 0, none⟩) 1 1)) 62 (alL x) (by kernel_rfl) (fun w => by kernel_rfl) fun b_6 w_7 a H HP => ?_
  have HP := HP.pend0 2 rfl elOk_flat x [bx b_6 62 (alL x) true, bx b_3 62 (alL x) true, (rowsP w.heap.size 62 2 altC (fun _ _ => True) (fun _ _ => False) (.slice B i cc) l x), bx rb 103 (rC s k2) false] (by kernel_rfl) trivial (fun _ h => h)
  refine H.push HP 28 2 0 (v := (.slice B i cc)) (e := 62) (p := x) (l := l) (cs := altC) (ok := (fun _ _ => True)) (fe := (fun _ _ => False)) (size := 2) (z := (.agg #[(ii 0), (ii 0)])) (bytes := 16) (bb := b_6) (tb := 62) (fb := true) (by kernel_rfl) elOk_flat (by kernel_rfl) (by kernel_rfl) rfl (by kernel_rfl) (by kernel_rfl) (by kernel_rfl) (by kernel_rfl) (by kernel_rfl) rfl (by kernel_rfl) (by rw [hll]; unfold maxLen; omega) (by rw [hll]; omega) fun B_8 c_9 w_10 a H HP => ?_
  have HP : Hp w w_10 [bx b_6 62 (alL x) true, bx b_3 62 (alL x) true, (rowsR w.heap.size 62 2 altC (fun _ _ => True) (fun _ _ => False) (.slice B_8 (l.length + 1) c_9) (l ++ [x])), bx rb 103 (rC s k2) false] [boxK br 148 [.pointer (some ⟨rb, 0, none⟩)], laidK a0 a1] := HP
  rw [hll] at H HP
  refine H.v 8 (.slice B_8 (i + 1) c_9) fun a H => ?_
  refine nl (ibn (tn (rg ?_)))
  refine H.valE 29 (ii (IntKind.i64.wrap ((i : Int) + 1))) (ii ((i : Int) + 1)) (by kernel_rfl) (by kernel_rfl) ((by rw [wrap_ini64 _ (by omega)])) fun a H => H.v 21 (ii ((i : Int) + 1)) fun a H => ?_
  refine nl (tn ?_)
  have HP := HP.tail rfl
  have HP := HP.tail rfl
  have H := H.as 21 (ii ((i + 1 : Nat) : Int)) rfl rfl
  refine ⟨_, ?_, i + 1, k2, l ++ [x], B_8, c_9, rfl, H.keep (by kernel_rfl), HP, (by omega), (by rw [List.length_append, hll]; rfl), hk2, (by rw [hrel, show m - i = (m - (i + 1)) + 1 by omega]; exact rdL_step hE)⟩
  omega
 have g22p := of_decide_eq_false g22
 refine wp_exit (then_exit (then_exit ?_))
 refine w_exit_here ?_
 refine tn (sq (rg ?_))
 refine H.v 30 (.slice B i cc) fun a H => H.v 6 (.slice B i cc) fun a H => ?_
 refine nl (tn (rt ?_))
 refine H.r1 (.slice B i cc) Tryz.results106 ?_
 have hrow := HP.held 0 rfl
 have hfr := HP.fresh _ (List.mem_of_getElem? (i := 0) rfl) rfl
 have hres : rdC s 7 (rdM altOf s 2) k = .ok (l, kq) := by rw [hrel, show m - i = 0 by omega]; exact pre_ok _ _
 subst hll
 exact ⟨HP.agree _ (by simp [bx, rowsR]), .inr ⟨B, cc, l, kq, hres, hkq, rfl, HP.at_ 1 rfl, Rd.of_own hrow.1, flat_new hrow, by omega⟩⟩
theorem listB_any (a0 a1 : Addr) (s : List UInt8) (k rb br : Nat) (w : World) (hL : LaidP a0 a1 w) (hsep : ∀ j, lpFp a0 a1 j → j ≠ rb) (h : Box w rb 103 (rC s k).toArray) (hbr : Box w br 148 #[.pointer (some ⟨rb, 0, none⟩)]) (hbn : br ≠ rb) (hl : s.length ≤ 1000000) (hk : k ≤ s.length) :
  Calls Tryz.prog 108 #[.pointer (some ⟨rb, 0, none⟩), .int .i64 2000, .func (.func 109) #[] #[.pointer (some ⟨br, 0, none⟩)]] w (ListPost 7 bkC (rdM bkOf s 7) 2000 a0 a1 s k rb w) := by
 have HP : Hp w w [bx rb 103 (rC s k) false] [boxK br 148 [.pointer (some ⟨rb, 0, none⟩)], laidK a0 a1] := ((Hp.own h).keepF (laidK a0 a1) hL (laidK_ok _ _) (fun j hj => ⟨hL.lt j hj, by simpa [bx] using hsep j hj⟩)).keepF (boxK br 148 [.pointer (some ⟨rb, 0, none⟩)]) hbr (boxK_ok _ _ _) (fun j hj => ⟨by cases hj; exact hbr.lt, by cases hj; simpa [bx] using hbn⟩)
 refine w_enter 31 [(0, (pt rb 0)), (1, (ii 2000)), (2, (.func (.func 109) #[] #[(pt br 0)]))] Tryz.func108 rfl Tryz.ntmps108 (by kernel_rfl) (by kernel_rfl) fun a H => ?_
 refine sq (rg ?_)
 refine H.v 6 (.slice none 0 0) fun a H => ?_
 refine nl (tn (sq (rg ?_)))
 refine H.v 10 (pt rb 0) fun a H => ?_
 refine H.callP 11 (by kernel_rfl) (Eq.trans (by kernel_rfl : _ = (callFunc 128 #[(pt rb 0)]).run Tryz.prog w) (Tryz.call128 _ _)) (number_any a0 a1 s k rb w (HP.fact 1 rfl) hsep (HP.at_ 0 rfl) hl hk) ?_
 rintro e w_1 ⟨hag, (⟨hR, rfl, hbx⟩ | ⟨n, k1, hR, hk1, rfl, hbx⟩)⟩
 ·refine .inr ⟨_, rfl, ?_⟩
  intro a H
  have HP := HP.changed1 0 rfl (rC s k) [bx rb 103 (rC s k) false] (by kernel_rfl) hag hbx
  refine then_panic ?_
  refine H.endP ?_
  exact ⟨HP.agree _ (by simp [bx, rowsR]), .inl ⟨10, k, by unfold rdC; rw [hR], .inl rfl, hk, rfl, HP.at_ 0 rfl⟩⟩
 refine .inl ⟨_, rfl, ?_⟩
 intro a H
 have HP := HP.changed1 0 rfl (rC s k1) [bx rb 103 (rC s k1) false] (by kernel_rfl) hag hbx
 obtain ⟨hn1, hn2⟩ := rdInt_in hk hR
 refine H.v 7 (ii n) fun a H => ?_
 refine nl (tn (sq (sq (rg ?_))))
 refine H.v 12 (ii n) fun a H => H.v 13 (.bool (decide (n < 0))) fun a H => H.v 14 (.bool (decide (n < 0))) fun a H => ?_
 refine H.split 14 rfl (fun g14 H => ?_) (fun g14 H => ?_)
 ·have g14p := of_decide_eq_true g14
  iterate 3 refine H.sx rfl fun a H => ?_
  refine H.vx rfl (.bool true) fun a H => ?_
  refine nl (tn ?_)
  refine w_ift H rfl ?_
  refine rg ?_
  refine H.u 19 (.iface 212 (.pointer (some a1))) (ex_l1 ((HP.fact 1 rfl : LaidP a0 a1 _).c1)) fun a H => ?_
  refine H.panic0 (v := (.iface 212 (.pointer (some a1)))) (w' := w_1) (by kernel_rfl) (by kernel_rfl) ?_
  refine then_panic ?_
  refine H.endP ?_
  exact ⟨HP.agree _ (by simp [bx, rowsR]), .inl ⟨80, k1, by unfold rdC; rw [hR]; simp only; rw [if_pos (by omega)], .inr rfl, hk1, rfl, HP.at_ 0 rfl⟩⟩
 have g14p := of_decide_eq_false g14
 refine H.v 15 (ii n) fun a H => H.v 16 (ii 2000) fun a H => H.v 17 (.bool (decide (n > 2000))) fun a H => H.v 18 (.bool (decide (n > 2000))) fun a H => ?_
 refine nl (tn ?_)
 refine w_if H rfl (fun g18 => ?_) (fun g18 => ?_)
 ·have g18p := of_decide_eq_true g18
  refine rg ?_
  refine H.u 19 (.iface 212 (.pointer (some a1))) (ex_l1 ((HP.fact 1 rfl : LaidP a0 a1 _).c1)) fun a H => ?_
  refine H.panic0 (v := (.iface 212 (.pointer (some a1)))) (w' := w_1) (by kernel_rfl) (by kernel_rfl) ?_
  refine then_panic ?_
  refine H.endP ?_
  exact ⟨HP.agree _ (by simp [bx, rowsR]), .inl ⟨80, k1, by unfold rdC; rw [hR]; simp only; rw [if_pos (by omega)], .inr rfl, hk1, rfl, HP.at_ 0 rfl⟩⟩
 have g18p := of_decide_eq_false g18
 refine sk (tn (sq ?_))
 obtain ⟨m, rfl⟩ : ∃ m : Nat, n = m := ⟨n.toNat, by omega⟩
 have hrel0 : rdC s 2000 (rdM bkOf s 7) k = rdL (rdM bkOf s 7) m k1 := by unfold rdC; rw [hR]; simp only; rw [if_neg (by omega), Int.toNat_natCast]
 refine rg ?_
 refine H.v 8 (.slice none 0 0) fun a H => ?_
 refine nl ?_
 have HP := HP.nilRow w.heap.size 47 7 bkC (fun _ _ => True) (fun _ _ => False) elOk_flat
 refine tn (sq (sq (rg ?_)))
 refine H.v 20 (ii m) fun a H => H.v 21 (ii 0) fun a H => ?_
 refine nl (tn (bk ?_))
 refine w_loop (fun mm a wv => ∃ (i : Nat), ∃ (kq : Nat), ∃ (l : List (Bkg)), ∃ (B : Option Addr), ∃ (cc : Nat), m - i = mm ∧ Sl 31 [(21, (ii i)), (20, (ii m)), (8, (.slice B i cc)), (0, (pt rb 0)), (2, (.func (.func 109) #[] #[(pt br 0)]))] a ∧ Hp w wv [(rowsR w.heap.size 47 7 bkC (fun _ _ => True) (fun _ _ => False) (.slice B i cc) l), bx rb 103 (rC s kq) false] [boxK br 148 [.pointer (some ⟨rb, 0, none⟩)], laidK a0 a1] ∧ (i ≤ m) ∧ (l.length = i) ∧ (kq ≤ s.length) ∧ (rdC s 2000 (rdM bkOf s 7) k = pre (l) (rdL (rdM bkOf s 7) (m - i) kq))) (m - 0) ?_ ?_
 ·exact ⟨0, k1, [], none, 0, (by omega), H.keep (by kernel_rfl), HP, (Nat.zero_le _), rfl, hk1, (by rw [hrel0]; exact (pre_nil _).symm)⟩
 rintro mm a w_2 ⟨i, kq, l, B, cc, hmeas, H, HP, hi, hll, hkq, hrel⟩
 refine sq (rg ?_)
 refine H.v 22 (.bool (decide ((i : Int) < (m : Int)))) fun a H => ?_
 refine nl (tn (sq ?_))
 refine w_if H rfl (fun g22 => ?_) (fun g22 => ?_)
 ·have g22p := of_decide_eq_true g22
  refine sk (tn (sq (bk (sq (rg ?_)))))
  refine H.al HP 9 47 [(ii 0), (ii 0), (ii 0), (ii 0), (ii 0), (ii 0), (ii 0)] fun b_3 w_4 a H HP => ?_
  refine nl (tn (sq (rg ?_)))
  refine H.v 23 (.func (.func 109) #[] #[(pt br 0)]) fun a H => ?_
  refine H.callP 24 (by kernel_rfl) (Eq.trans (by kernel_rfl : _ = (callFunc 109 #[(pt b_3 0), (pt br 0)]).run Tryz.prog w_4) (Tryz.call109 _ _)) (rcB_any a0 a1 s kq rb br b_3 w_4 (HP.fact 1 rfl) (fun j hj => ⟨HP.factNe 1 2 rfl rfl j hj, HP.factNe 1 0 rfl rfl j hj⟩) (HP.at_ 2 rfl) (HP.at_ 0 rfl) ((HP.neB 0 2 rfl rfl (by decide)).symm) (HP.fact 0 rfl) ⟨HP.factNe 0 2 rfl rfl br rfl, HP.factNe 0 0 rfl rfl br rfl⟩ hl hkq) ?_
  rintro e w_5 ⟨hag, (⟨E, k2, us2, hE, hE2, hk2, rfl, hb1, hb2⟩ | ⟨x, k2, hE, hk2, rfl, hb1, hb2⟩)⟩
  ·refine .inr ⟨_, rfl, ?_⟩
   intro a H
   have HP := HP.changed2 2 0 rfl rfl (rC s k2) us2 _ rfl (by decide) hag hb1 hb2
   refine then_panic ?_
   refine inb_panic ?_
   refine then_panic ?_
   refine then_panic ?_
   refine inb_panic ?_
   refine then_panic ?_
   refine H.endP ?_
   exact ⟨HP.agree _ (by simp [bx, rowsR]), .inl ⟨E, k2, by rw [hrel, show m - i = (m - (i + 1)) + 1 by omega]; exact rdL_err hE, hE2, hk2, rfl, HP.at_ 2 rfl⟩⟩
  refine .inl ⟨_, rfl, ?_⟩
  intro a H
  have HP := HP.changed2 2 0 rfl rfl (rC s k2) (bkL x) _ rfl (by decide) hag hb1 hb2
  refine nl (tn (rg ?_))
  refine H.v 25 (.slice B i cc) fun a H => H.u 26 (bkV x) (ex_lN (bkL x) (HP.cells 0 rfl 0 7 (by kernel_rfl))) fun a H => H.alloc HP 27 (fun b => (.slice (some ⟨b, 0, none⟩) 1 1)) 47 (bkL x) (by kernel_rfl) (fun w => by kernel_rfl) fun b_6 w_7 a H HP => ?_
  have HP := HP.pend0 2 rfl elOk_flat x [bx b_6 47 (bkL x) true, bx b_3 47 (bkL x) true, (rowsP w.heap.size 47 7 bkC (fun _ _ => True) (fun _ _ => False) (.slice B i cc) l x), bx rb 103 (rC s k2) false] (by kernel_rfl) trivial (fun _ h => h)
  refine H.push HP 28 2 0 (v := (.slice B i cc)) (e := 47) (p := x) (l := l) (cs := bkC) (ok := (fun _ _ => True)) (fe := (fun _ _ => False)) (size := 7) (z := (.agg #[(ii 0), (ii 0), (ii 0), (ii 0), (ii 0), (ii 0), (ii 0)])) (bytes := 56) (bb := b_6) (tb := 47) (fb := true) (by kernel_rfl) elOk_flat (by kernel_rfl) (by kernel_rfl) rfl (by kernel_rfl) (by kernel_rfl) (by kernel_rfl) (by kernel_rfl) (by kernel_rfl) rfl (by kernel_rfl) (by rw [hll]; unfold maxLen; omega) (by rw [hll]; omega) fun B_8 c_9 w_10 a H HP => ?_
  have HP : Hp w w_10 [bx b_6 47 (bkL x) true, bx b_3 47 (bkL x) true, (rowsR w.heap.size 47 7 bkC (fun _ _ => True) (fun _ _ => False) (.slice B_8 (l.length + 1) c_9) (l ++ [x])), bx rb 103 (rC s k2) false] [boxK br 148 [.pointer (some ⟨rb, 0, none⟩)], laidK a0 a1] := HP
  rw [hll] at H HP
  refine H.v 8 (.slice B_8 (i + 1) c_9) fun a H => ?_
  refine nl (ibn (tn (rg ?_)))
  refine H.valE 29 (ii (IntKind.i64.wrap ((i : Int) + 1))) (ii ((i : Int) + 1)) (by kernel_rfl) (by kernel_rfl) ((by rw [wrap_ini64 _ (by omega)])) fun a H => H.v 21 (ii ((i : Int) + 1)) fun a H => ?_
  refine nl (tn ?_)
  have HP := HP.tail rfl
  have HP := HP.tail rfl
  have H := H.as 21 (ii ((i + 1 : Nat) : Int)) rfl rfl
  refine ⟨_, ?_, i + 1, k2, l ++ [x], B_8, c_9, rfl, H.keep (by kernel_rfl), HP, (by omega), (by rw [List.length_append, hll]; rfl), hk2, (by rw [hrel, show m - i = (m - (i + 1)) + 1 by omega]; exact rdL_step hE)⟩
  omega
 have g22p := of_decide_eq_false g22
 refine wp_exit (then_exit (then_exit ?_))
 refine w_exit_here ?_
 refine tn (sq (rg ?_))
 refine H.v 30 (.slice B i cc) fun a H => H.v 6 (.slice B i cc) fun a H => ?_
 refine nl (tn (rt ?_))
 refine H.r1 (.slice B i cc) Tryz.results108 ?_
 have hrow := HP.held 0 rfl
 have hfr := HP.fresh _ (List.mem_of_getElem? (i := 0) rfl) rfl
 have hres : rdC s 2000 (rdM bkOf s 7) k = .ok (l, kq) := by rw [hrel, show m - i = 0 by omega]; exact pre_ok _ _
 subst hll
 exact ⟨HP.agree _ (by simp [bx, rowsR]), .inr ⟨B, cc, l, kq, hres, hkq, rfl, HP.at_ 1 rfl, Rd.of_own hrow.1, flat_new hrow, by omega⟩⟩
theorem listC_any (a0 a1 : Addr) (s : List UInt8) (k rb br : Nat) (w : World) (hL : LaidP a0 a1 w) (hsep : ∀ j, lpFp a0 a1 j → j ≠ rb) (h : Box w rb 103 (rC s k).toArray) (hbr : Box w br 148 #[.pointer (some ⟨rb, 0, none⟩)]) (hbn : br ≠ rb) (hl : s.length ≤ 1000000) (hk : k ≤ s.length) :
  Calls Tryz.prog 110 #[.pointer (some ⟨rb, 0, none⟩), .int .i64 400, .func (.func 111) #[] #[.pointer (some ⟨br, 0, none⟩)]] w (ListPost 8 clC (rdM clOf s 8) 400 a0 a1 s k rb w) := by
 have HP : Hp w w [bx rb 103 (rC s k) false] [boxK br 148 [.pointer (some ⟨rb, 0, none⟩)], laidK a0 a1] := ((Hp.own h).keepF (laidK a0 a1) hL (laidK_ok _ _) (fun j hj => ⟨hL.lt j hj, by simpa [bx] using hsep j hj⟩)).keepF (boxK br 148 [.pointer (some ⟨rb, 0, none⟩)]) hbr (boxK_ok _ _ _) (fun j hj => ⟨by cases hj; exact hbr.lt, by cases hj; simpa [bx] using hbn⟩)
 refine w_enter 31 [(0, (pt rb 0)), (1, (ii 400)), (2, (.func (.func 111) #[] #[(pt br 0)]))] Tryz.func110 rfl Tryz.ntmps110 (by kernel_rfl) (by kernel_rfl) fun a H => ?_
 refine sq (rg ?_)
 refine H.v 6 (.slice none 0 0) fun a H => ?_
 refine nl (tn (sq (rg ?_)))
 refine H.v 10 (pt rb 0) fun a H => ?_
 refine H.callP 11 (by kernel_rfl) (Eq.trans (by kernel_rfl : _ = (callFunc 128 #[(pt rb 0)]).run Tryz.prog w) (Tryz.call128 _ _)) (number_any a0 a1 s k rb w (HP.fact 1 rfl) hsep (HP.at_ 0 rfl) hl hk) ?_
 rintro e w_1 ⟨hag, (⟨hR, rfl, hbx⟩ | ⟨n, k1, hR, hk1, rfl, hbx⟩)⟩
 ·refine .inr ⟨_, rfl, ?_⟩
  intro a H
  have HP := HP.changed1 0 rfl (rC s k) [bx rb 103 (rC s k) false] (by kernel_rfl) hag hbx
  refine then_panic ?_
  refine H.endP ?_
  exact ⟨HP.agree _ (by simp [bx, rowsR]), .inl ⟨10, k, by unfold rdC; rw [hR], .inl rfl, hk, rfl, HP.at_ 0 rfl⟩⟩
 refine .inl ⟨_, rfl, ?_⟩
 intro a H
 have HP := HP.changed1 0 rfl (rC s k1) [bx rb 103 (rC s k1) false] (by kernel_rfl) hag hbx
 obtain ⟨hn1, hn2⟩ := rdInt_in hk hR
 refine H.v 7 (ii n) fun a H => ?_
 refine nl (tn (sq (sq (rg ?_))))
 refine H.v 12 (ii n) fun a H => H.v 13 (.bool (decide (n < 0))) fun a H => H.v 14 (.bool (decide (n < 0))) fun a H => ?_
 refine H.split 14 rfl (fun g14 H => ?_) (fun g14 H => ?_)
 ·have g14p := of_decide_eq_true g14
  iterate 3 refine H.sx rfl fun a H => ?_
  refine H.vx rfl (.bool true) fun a H => ?_
  refine nl (tn ?_)
  refine w_ift H rfl ?_
  refine rg ?_
  refine H.u 19 (.iface 212 (.pointer (some a1))) (ex_l1 ((HP.fact 1 rfl : LaidP a0 a1 _).c1)) fun a H => ?_
  refine H.panic0 (v := (.iface 212 (.pointer (some a1)))) (w' := w_1) (by kernel_rfl) (by kernel_rfl) ?_
  refine then_panic ?_
  refine H.endP ?_
  exact ⟨HP.agree _ (by simp [bx, rowsR]), .inl ⟨80, k1, by unfold rdC; rw [hR]; simp only; rw [if_pos (by omega)], .inr rfl, hk1, rfl, HP.at_ 0 rfl⟩⟩
 have g14p := of_decide_eq_false g14
 refine H.v 15 (ii n) fun a H => H.v 16 (ii 400) fun a H => H.v 17 (.bool (decide (n > 400))) fun a H => H.v 18 (.bool (decide (n > 400))) fun a H => ?_
 refine nl (tn ?_)
 refine w_if H rfl (fun g18 => ?_) (fun g18 => ?_)
 ·have g18p := of_decide_eq_true g18
  refine rg ?_
  refine H.u 19 (.iface 212 (.pointer (some a1))) (ex_l1 ((HP.fact 1 rfl : LaidP a0 a1 _).c1)) fun a H => ?_
  refine H.panic0 (v := (.iface 212 (.pointer (some a1)))) (w' := w_1) (by kernel_rfl) (by kernel_rfl) ?_
  refine then_panic ?_
  refine H.endP ?_
  exact ⟨HP.agree _ (by simp [bx, rowsR]), .inl ⟨80, k1, by unfold rdC; rw [hR]; simp only; rw [if_pos (by omega)], .inr rfl, hk1, rfl, HP.at_ 0 rfl⟩⟩
 have g18p := of_decide_eq_false g18
 refine sk (tn (sq ?_))
 obtain ⟨m, rfl⟩ : ∃ m : Nat, n = m := ⟨n.toNat, by omega⟩
 have hrel0 : rdC s 400 (rdM clOf s 8) k = rdL (rdM clOf s 8) m k1 := by unfold rdC; rw [hR]; simp only; rw [if_neg (by omega), Int.toNat_natCast]
 refine rg ?_
 refine H.v 8 (.slice none 0 0) fun a H => ?_
 refine nl ?_
 have HP := HP.nilRow w.heap.size 73 8 clC (fun _ _ => True) (fun _ _ => False) elOk_flat
 refine tn (sq (sq (rg ?_)))
 refine H.v 20 (ii m) fun a H => H.v 21 (ii 0) fun a H => ?_
 refine nl (tn (bk ?_))
 refine w_loop (fun mm a wv => ∃ (i : Nat), ∃ (kq : Nat), ∃ (l : List (Cls)), ∃ (B : Option Addr), ∃ (cc : Nat), m - i = mm ∧ Sl 31 [(21, (ii i)), (20, (ii m)), (8, (.slice B i cc)), (0, (pt rb 0)), (2, (.func (.func 111) #[] #[(pt br 0)]))] a ∧ Hp w wv [(rowsR w.heap.size 73 8 clC (fun _ _ => True) (fun _ _ => False) (.slice B i cc) l), bx rb 103 (rC s kq) false] [boxK br 148 [.pointer (some ⟨rb, 0, none⟩)], laidK a0 a1] ∧ (i ≤ m) ∧ (l.length = i) ∧ (kq ≤ s.length) ∧ (rdC s 400 (rdM clOf s 8) k = pre (l) (rdL (rdM clOf s 8) (m - i) kq))) (m - 0) ?_ ?_
 ·exact ⟨0, k1, [], none, 0, (by omega), H.keep (by kernel_rfl), HP, (Nat.zero_le _), rfl, hk1, (by rw [hrel0]; exact (pre_nil _).symm)⟩
 rintro mm a w_2 ⟨i, kq, l, B, cc, hmeas, H, HP, hi, hll, hkq, hrel⟩
 refine sq (rg ?_)
 refine H.v 22 (.bool (decide ((i : Int) < (m : Int)))) fun a H => ?_
 refine nl (tn (sq ?_))
 refine w_if H rfl (fun g22 => ?_) (fun g22 => ?_)
 ·have g22p := of_decide_eq_true g22
  refine sk (tn (sq (bk (sq (rg ?_)))))
  refine H.al HP 9 73 [(ii 0), (ii 0), (ii 0), (ii 0), (ii 0), (ii 0), (ii 0), (ii 0)] fun b_3 w_4 a H HP => ?_
  refine nl (tn (sq (rg ?_)))
  refine H.v 23 (.func (.func 111) #[] #[(pt br 0)]) fun a H => ?_
  refine H.callP 24 (by kernel_rfl) (Eq.trans (by kernel_rfl : _ = (callFunc 111 #[(pt b_3 0), (pt br 0)]).run Tryz.prog w_4) (Tryz.call111 _ _)) (rcC_any a0 a1 s kq rb br b_3 w_4 (HP.fact 1 rfl) (fun j hj => ⟨HP.factNe 1 2 rfl rfl j hj, HP.factNe 1 0 rfl rfl j hj⟩) (HP.at_ 2 rfl) (HP.at_ 0 rfl) ((HP.neB 0 2 rfl rfl (by decide)).symm) (HP.fact 0 rfl) ⟨HP.factNe 0 2 rfl rfl br rfl, HP.factNe 0 0 rfl rfl br rfl⟩ hl hkq) ?_
  rintro e w_5 ⟨hag, (⟨E, k2, us2, hE, hE2, hk2, rfl, hb1, hb2⟩ | ⟨x, k2, hE, hk2, rfl, hb1, hb2⟩)⟩
  ·refine .inr ⟨_, rfl, ?_⟩
   intro a H
   have HP := HP.changed2 2 0 rfl rfl (rC s k2) us2 _ rfl (by decide) hag hb1 hb2
   refine then_panic ?_
   refine inb_panic ?_
   refine then_panic ?_
   refine then_panic ?_
   refine inb_panic ?_
   refine then_panic ?_
   refine H.endP ?_
   exact ⟨HP.agree _ (by simp [bx, rowsR]), .inl ⟨E, k2, by rw [hrel, show m - i = (m - (i + 1)) + 1 by omega]; exact rdL_err hE, hE2, hk2, rfl, HP.at_ 2 rfl⟩⟩
  refine .inl ⟨_, rfl, ?_⟩
  intro a H
  have HP := HP.changed2 2 0 rfl rfl (rC s k2) (clL x) _ rfl (by decide) hag hb1 hb2
  refine nl (tn (rg ?_))
  refine H.v 25 (.slice B i cc) fun a H => H.u 26 (clV x) (ex_lN (clL x) (HP.cells 0 rfl 0 8 (by kernel_rfl))) fun a H => H.alloc HP 27 (fun b => (.slice (some ⟨b, 0, none⟩) 1 1)) 73 (clL x) (by kernel_rfl) (fun w => by kernel_rfl) fun b_6 w_7 a H HP => ?_
  have HP := HP.pend0 2 rfl elOk_flat x [bx b_6 73 (clL x) true, bx b_3 73 (clL x) true, (rowsP w.heap.size 73 8 clC (fun _ _ => True) (fun _ _ => False) (.slice B i cc) l x), bx rb 103 (rC s k2) false] (by kernel_rfl) trivial (fun _ h => h)
  refine H.push HP 28 2 0 (v := (.slice B i cc)) (e := 73) (p := x) (l := l) (cs := clC) (ok := (fun _ _ => True)) (fe := (fun _ _ => False)) (size := 8) (z := (.agg #[(ii 0), (ii 0), (ii 0), (ii 0), (ii 0), (ii 0), (ii 0), (ii 0)])) (bytes := 64) (bb := b_6) (tb := 73) (fb := true) (by kernel_rfl) elOk_flat (by kernel_rfl) (by kernel_rfl) rfl (by kernel_rfl) (by kernel_rfl) (by kernel_rfl) (by kernel_rfl) (by kernel_rfl) rfl (by kernel_rfl) (by rw [hll]; unfold maxLen; omega) (by rw [hll]; omega) fun B_8 c_9 w_10 a H HP => ?_
  have HP : Hp w w_10 [bx b_6 73 (clL x) true, bx b_3 73 (clL x) true, (rowsR w.heap.size 73 8 clC (fun _ _ => True) (fun _ _ => False) (.slice B_8 (l.length + 1) c_9) (l ++ [x])), bx rb 103 (rC s k2) false] [boxK br 148 [.pointer (some ⟨rb, 0, none⟩)], laidK a0 a1] := HP
  rw [hll] at H HP
  refine H.v 8 (.slice B_8 (i + 1) c_9) fun a H => ?_
  refine nl (ibn (tn (rg ?_)))
  refine H.valE 29 (ii (IntKind.i64.wrap ((i : Int) + 1))) (ii ((i : Int) + 1)) (by kernel_rfl) (by kernel_rfl) ((by rw [wrap_ini64 _ (by omega)])) fun a H => H.v 21 (ii ((i : Int) + 1)) fun a H => ?_
  refine nl (tn ?_)
  have HP := HP.tail rfl
  have HP := HP.tail rfl
  have H := H.as 21 (ii ((i + 1 : Nat) : Int)) rfl rfl
  refine ⟨_, ?_, i + 1, k2, l ++ [x], B_8, c_9, rfl, H.keep (by kernel_rfl), HP, (by omega), (by rw [List.length_append, hll]; rfl), hk2, (by rw [hrel, show m - i = (m - (i + 1)) + 1 by omega]; exact rdL_step hE)⟩
  omega
 have g22p := of_decide_eq_false g22
 refine wp_exit (then_exit (then_exit ?_))
 refine w_exit_here ?_
 refine tn (sq (rg ?_))
 refine H.v 30 (.slice B i cc) fun a H => H.v 6 (.slice B i cc) fun a H => ?_
 refine nl (tn (rt ?_))
 refine H.r1 (.slice B i cc) Tryz.results110 ?_
 have hrow := HP.held 0 rfl
 have hfr := HP.fresh _ (List.mem_of_getElem? (i := 0) rfl) rfl
 have hres : rdC s 400 (rdM clOf s 8) k = .ok (l, kq) := by rw [hrel, show m - i = 0 by omega]; exact pre_ok _ _
 subst hll
 exact ⟨HP.agree _ (by simp [bx, rowsR]), .inr ⟨B, cc, l, kq, hres, hkq, rfl, HP.at_ 1 rfl, Rd.of_own hrow.1, flat_new hrow, by omega⟩⟩
theorem rcE_any (a0 a1 : Addr) (s : List UInt8) (k rb br b : Nat) (w : World) (hL : LaidP a0 a1 w) (hsep : ∀ j, lpFp a0 a1 j → j ≠ rb ∧ j ≠ b) (h : Box w rb 103 (rC s k).toArray) (hb : Box w b 43 [(ii 0), (ii 0), (ii 0), (ii 0), (ii 0), (ii 0), (.slice none 0 0)].toArray) (hne : rb ≠ b) (hbr : Box w br 148 #[.pointer (some ⟨rb, 0, none⟩)]) (hbn : br ≠ rb ∧ br ≠ b) (hl : s.length ≤ 1000000) (hk : k ≤ s.length) :
  Calls Tryz.prog 105 #[.pointer (some ⟨b, 0, none⟩), .pointer (some ⟨br, 0, none⟩)] w (ElPostE a0 a1 s k rb b 43 w) := by
 have HP : Hp w w [bx rb 103 (rC s k) false, bx b 43 [(ii 0), (ii 0), (ii 0), (ii 0), (ii 0), (ii 0), (.slice none 0 0)] false] [boxK br 148 [.pointer (some ⟨rb, 0, none⟩)], laidK a0 a1] := ((Hp.own2 h hb hne).keepF (laidK a0 a1) hL (laidK_ok _ _) (fun j hj => ⟨hL.lt j hj, by simpa [bx] using hsep j hj⟩)).keepF (boxK br 148 [.pointer (some ⟨rb, 0, none⟩)]) hbr (boxK_ok _ _ _) (fun j hj => ⟨by cases hj; exact hbr.lt, by cases hj; simpa [bx] using hbn⟩)
 refine w_enter 30 [(0, (pt b 0)), (1, (pt br 0))] Tryz.func105 rfl Tryz.ntmps105 (by kernel_rfl) (by kernel_rfl) fun a H => ?_
 refine sq ?_
 refine An.start (fun v => Hp w v [bx rb 103 (rC s k) false, bx b 43 [(ii 0), (ii 0), (ii 0), (ii 0), (ii 0), (ii 0), (.slice none 0 0)] false] [boxK br 148 [.pointer (some ⟨rb, 0, none⟩)], laidK a0 a1]) 20 21 HP wide_follows rfl fun w_1 HP => ?_
 refine An.vw H (HP) 0 3 (pt rb 0) (fun _ hS => ex_l1 ((hS.fact 0 rfl : Box _ br 148 _).cell (i := 0) rfl)) fun a H => ?_
 refine An.p H (.inr HP) 1 4 (pt b 0) fun a H => ?_
 refine An.p H (.inr HP) 2 5 (pt b 0) fun a H => ?_
 refine An.p H (.inr HP) 3 6 (pt b 0) fun a H => ?_
 refine An.p H (.inr HP) 4 7 (pt b 0) fun a H => ?_
 refine An.p H (.inr HP) 5 8 (pt b 0) fun a H => ?_
 refine An.p H (.inr HP) 6 9 (pt b 1) fun a H => ?_
 refine An.p H (.inr HP) 7 10 (pt b 0) fun a H => ?_
 refine An.p H (.inr HP) 8 11 (pt b 0) fun a H => ?_
 refine An.p H (.inr HP) 9 12 (pt b 2) fun a H => ?_
 refine An.p H (.inr HP) 10 13 (pt b 0) fun a H => ?_
 refine An.p H (.inr HP) 11 14 (pt b 0) fun a H => ?_
 refine An.p H (.inr HP) 12 15 (pt b 3) fun a H => ?_
 refine An.p H (.inr HP) 13 16 (pt b 0) fun a H => ?_
 refine An.p H (.inr HP) 14 17 (pt b 0) fun a H => ?_
 refine An.p H (.inr HP) 15 18 (pt b 4) fun a H => ?_
 refine An.p H (.inr HP) 16 19 (pt b 0) fun a H => ?_
 refine An.p H (.inr HP) 17 20 (pt b 0) fun a H => ?_
 refine An.p H (.inr HP) 18 21 (pt b 5) fun a H => ?_
 refine An.one 19 (by kernel_rfl) ?_
 refine Op.alloc H HP 22 (fun b => (.slice (some ⟨b, 0, none⟩) 6 6)) 150 [(pt b 0), (pt b 1), (pt b 2), (pt b 3), (pt b 4), (pt b 5)] rfl (by kernel_rfl) (fun w => by kernel_rfl) fun b_2 w_3 a H HP => ?_
 refine ⟨.inr ((HP.tail rfl)), ?_⟩
 refine An.one 20 (by kernel_rfl) ?_
 refine Op.callP H 23 rfl (by kernel_rfl) (Eq.trans (by kernel_rfl : _ = (callFunc 99 #[(pt rb 0), (.slice (some ⟨b_2, 0, none⟩) 6 6)]).run Tryz.prog w_3) (Tryz.call99 _ _)) (numbers_any a0 a1 s k rb b 43 b_2 [(ii 0), (ii 0), (ii 0), (ii 0), (ii 0), (ii 0), (.slice none 0 0)] [0, 1, 2, 3, 4, 5] w_3 (HP.fact 1 rfl) hsep (HP.at_ 1 rfl) (HP.at_ 2 rfl) (HP.at_ 0 rfl) hne ⟨HP.neB 0 1 rfl rfl (by decide), HP.neB 0 2 rfl rfl (by decide)⟩ (by simp) (by decide) hl hk) ?_
 rintro e w_4 ⟨hag, (⟨k2, us2, hE, hk2, rfl, hb1, hb2, _⟩ | ⟨l, k2, hE, hk2, hll, rfl, hb1, hb2⟩)⟩
 ·refine .inr ⟨_, rfl, ?_⟩
  intro a H
  have HP := HP.changed2 1 2 rfl rfl (rC s k2) us2 _ rfl (by decide) hag hb1 hb2
  refine then_panic ?_
  refine H.endP ?_
  exact ⟨HP.agree _ (by simp [bx, rowsR]), .inl ⟨10, k2, us2, by unfold rdEnt; rw [show rdN s 6 k = .error 10 from hE], .inl rfl, hk2, rfl, HP.at_ 1 rfl, HP.at_ 2 rfl⟩⟩
 refine .inl ⟨_, rfl, ?_⟩
 intro a H
 obtain ⟨z0, z1, z2, z3, z4, z5, rfl⟩ := len6 hll
 have HP := HP.changed2 1 2 rfl rfl (rC s k2) [(ii z0), (ii z1), (ii z2), (ii z3), (ii z4), (ii z5), (.slice none 0 0)] _ rfl (by decide) hag hb1 hb2
 refine ⟨.inl (by kernel_rfl), ?_⟩
 refine An.done (by kernel_rfl) ?_
 refine tn ?_
 have hsz1 := HP.size
 refine rg ?_
 refine H.v 24 (pt b 0) fun a H => H.u 25 (pt rb 0) (ex_l1 ((HP.fact 0 rfl : Box _ br 148 _).cell (i := 0) rfl)) fun a H => H.v 26 (.func (.func 107) #[] #[(pt br 0)]) fun a H => ?_
 have hlt0 := HP.lt
 refine H.callP 27 (by kernel_rfl) (Eq.trans (by kernel_rfl : _ = (callFunc 106 #[(pt rb 0), (ii 7), (.func (.func 107) #[] #[(pt br 0)])]).run Tryz.prog w_4) (Tryz.call106 _ _)) (listA_any a0 a1 s k2 rb br w_4 (HP.fact 1 rfl) (fun j hj => HP.factNe 1 1 rfl rfl j hj) (HP.at_ 1 rfl) (HP.fact 0 rfl) (HP.factNe 0 1 rfl rfl br rfl) hl hk2) ?_
 rintro e w_5 ⟨hag3, (⟨E, k3, hE3, hEE, hk3, rfl, hb3⟩ | ⟨A, c, al, k3, hE3, hk3, rfl, hb3, hrow, hnew, hmost⟩)⟩
 ·refine .inr ⟨_, rfl, ?_⟩
  intro a H
  have HP := HP.changed1 1 rfl (rC s k3) _ rfl hag3 hb3
  refine H.endP ?_
  exact ⟨HP.agree _ (by simp [bx, rowsR]), .inl ⟨E, k3, _, by unfold rdEnt; rw [show rdN s 6 k = .ok ([z0, z1, z2, z3, z4, z5], k2) from hE]; simp only; rw [hE3], hEE, hk3, rfl, HP.at_ 1 rfl, HP.at_ 2 rfl⟩⟩
 refine .inl ⟨_, rfl, ?_⟩
 intro a H
 have HP := HP.changed1 1 rfl (rC s k3) [bx b_2 150 [(pt b 0), (pt b 1), (pt b 2), (pt b 3), (pt b 4), (pt b 5)] true, bx rb 103 (rC s k3) false, bx b 43 [(ii z0), (ii z1), (ii z2), (ii z3), (ii z4), (ii z5), (.slice none 0 0)] false] (by kernel_rfl) hag3 hb3
 have HP := HP.keepF (alK A al) hrow (alK_ok _ _) (fun j hj => ⟨hrow.lt j hj, fun y hy hyk => by simp only [List.mem_cons, List.not_mem_nil, or_false] at hy; rcases hy with rfl | rfl | rfl <;> (first | exact Nat.lt_irrefl _ (Nat.lt_of_lt_of_le (hlt0 _ (List.mem_of_getElem? (i := 0) rfl) j hyk) (hnew j hj)) | exact Nat.lt_irrefl _ (Nat.lt_of_lt_of_le (hlt0 _ (List.mem_of_getElem? (i := 1) rfl) j hyk) (hnew j hj)) | exact Nat.lt_irrefl _ (Nat.lt_of_lt_of_le (hlt0 _ (List.mem_of_getElem? (i := 2) rfl) j hyk) (hnew j hj)))⟩)
 refine H.v 28 (pt b 0) fun a H => H.v 29 (pt b 6) fun a H => H.st HP 2 b 6 1 43 false (.slice A al.length c) [bx b_2 150 [(pt b 0), (pt b 1), (pt b 2), (pt b 3), (pt b 4), (pt b 5)] true, bx rb 103 (rC s k3) false, bx b 43 [(ii z0), (ii z1), (ii z2), (ii z3), (ii z4), (ii z5), (.slice A al.length c)] false] rfl fun w_6 a H HP => ?_
 refine nl ?_
 refine H.end0 (fn := Tryz.f105) Tryz.results105  ?_
 exact ⟨HP.agree _ (by simp [bx, rowsR]), .inr ⟨⟨z0, z1, z2, z3, z4, z5, A, c, al⟩, k3, by unfold rdEnt; rw [show rdN s 6 k = .ok ([z0, z1, z2, z3, z4, z5], k2) from hE]; simp only; rw [hE3]; rfl, hk3, rfl, HP.at_ 1 rfl, HP.at_ 2 rfl, ⟨HP.fact 0 rfl, by unfold maxLen; show al.length ≤ _; omega⟩, fun j hj => Nat.le_trans hsz1 (hnew j hj)⟩⟩
theorem listE_any (a0 a1 : Addr) (s : List UInt8) (k rb br : Nat) (w : World) (hL : LaidP a0 a1 w) (hsep : ∀ j, lpFp a0 a1 j → j ≠ rb) (h : Box w rb 103 (rC s k).toArray) (hbr : Box w br 148 #[.pointer (some ⟨rb, 0, none⟩)]) (hbn : br ≠ rb) (hl : s.length ≤ 1000000) (hk : k ≤ s.length) :
  Calls Tryz.prog 104 #[.pointer (some ⟨rb, 0, none⟩), .int .i64 4000, .func (.func 105) #[] #[.pointer (some ⟨br, 0, none⟩)]] w (ListPostE a0 a1 s k rb w) := by
 have HP : Hp w w [bx rb 103 (rC s k) false] [boxK br 148 [.pointer (some ⟨rb, 0, none⟩)], laidK a0 a1] := ((Hp.own h).keepF (laidK a0 a1) hL (laidK_ok _ _) (fun j hj => ⟨hL.lt j hj, by simpa [bx] using hsep j hj⟩)).keepF (boxK br 148 [.pointer (some ⟨rb, 0, none⟩)]) hbr (boxK_ok _ _ _) (fun j hj => ⟨by cases hj; exact hbr.lt, by cases hj; simpa [bx] using hbn⟩)
 refine w_enter 31 [(0, (pt rb 0)), (1, (ii 4000)), (2, (.func (.func 105) #[] #[(pt br 0)]))] Tryz.func104 rfl Tryz.ntmps104 (by kernel_rfl) (by kernel_rfl) fun a H => ?_
 refine sq (rg ?_)
 refine H.v 6 (.slice none 0 0) fun a H => ?_
 refine nl (tn (sq (rg ?_)))
 refine H.v 10 (pt rb 0) fun a H => ?_
 refine H.callP 11 (by kernel_rfl) (Eq.trans (by kernel_rfl : _ = (callFunc 128 #[(pt rb 0)]).run Tryz.prog w) (Tryz.call128 _ _)) (number_any a0 a1 s k rb w (HP.fact 1 rfl) hsep (HP.at_ 0 rfl) hl hk) ?_
 rintro e w_1 ⟨hag, (⟨hR, rfl, hbx⟩ | ⟨n, k1, hR, hk1, rfl, hbx⟩)⟩
 ·refine .inr ⟨_, rfl, ?_⟩
  intro a H
  have HP := HP.changed1 0 rfl (rC s k) [bx rb 103 (rC s k) false] (by kernel_rfl) hag hbx
  refine then_panic ?_
  refine H.endP ?_
  exact ⟨HP.agree _ (by simp [bx, rowsR]), .inl ⟨10, k, by unfold rdC; rw [hR], .inl rfl, hk, rfl, HP.at_ 0 rfl⟩⟩
 refine .inl ⟨_, rfl, ?_⟩
 intro a H
 have HP := HP.changed1 0 rfl (rC s k1) [bx rb 103 (rC s k1) false] (by kernel_rfl) hag hbx
 obtain ⟨hn1, hn2⟩ := rdInt_in hk hR
 refine H.v 7 (ii n) fun a H => ?_
 refine nl (tn (sq (sq (rg ?_))))
 refine H.v 12 (ii n) fun a H => H.v 13 (.bool (decide (n < 0))) fun a H => H.v 14 (.bool (decide (n < 0))) fun a H => ?_
 refine H.split 14 rfl (fun g14 H => ?_) (fun g14 H => ?_)
 ·have g14p := of_decide_eq_true g14
  iterate 3 refine H.sx rfl fun a H => ?_
  refine H.vx rfl (.bool true) fun a H => ?_
  refine nl (tn ?_)
  refine w_ift H rfl ?_
  refine rg ?_
  refine H.u 19 (.iface 212 (.pointer (some a1))) (ex_l1 ((HP.fact 1 rfl : LaidP a0 a1 _).c1)) fun a H => ?_
  refine H.panic0 (v := (.iface 212 (.pointer (some a1)))) (w' := w_1) (by kernel_rfl) (by kernel_rfl) ?_
  refine then_panic ?_
  refine H.endP ?_
  exact ⟨HP.agree _ (by simp [bx, rowsR]), .inl ⟨80, k1, by unfold rdC; rw [hR]; simp only; rw [if_pos (by omega)], .inr rfl, hk1, rfl, HP.at_ 0 rfl⟩⟩
 have g14p := of_decide_eq_false g14
 refine H.v 15 (ii n) fun a H => H.v 16 (ii 4000) fun a H => H.v 17 (.bool (decide (n > 4000))) fun a H => H.v 18 (.bool (decide (n > 4000))) fun a H => ?_
 refine nl (tn ?_)
 refine w_if H rfl (fun g18 => ?_) (fun g18 => ?_)
 ·have g18p := of_decide_eq_true g18
  refine rg ?_
  refine H.u 19 (.iface 212 (.pointer (some a1))) (ex_l1 ((HP.fact 1 rfl : LaidP a0 a1 _).c1)) fun a H => ?_
  refine H.panic0 (v := (.iface 212 (.pointer (some a1)))) (w' := w_1) (by kernel_rfl) (by kernel_rfl) ?_
  refine then_panic ?_
  refine H.endP ?_
  exact ⟨HP.agree _ (by simp [bx, rowsR]), .inl ⟨80, k1, by unfold rdC; rw [hR]; simp only; rw [if_pos (by omega)], .inr rfl, hk1, rfl, HP.at_ 0 rfl⟩⟩
 have g18p := of_decide_eq_false g18
 refine sk (tn (sq ?_))
 obtain ⟨m, rfl⟩ : ∃ m : Nat, n = m := ⟨n.toNat, by omega⟩
 have hrel0 : rdC s 4000 (rdEnt s) k = rdL (rdEnt s) m k1 := by unfold rdC; rw [hR]; simp only; rw [if_neg (by omega), Int.toNat_natCast]
 refine rg ?_
 refine H.v 8 (.slice none 0 0) fun a H => ?_
 refine nl ?_
 have HP := HP.nilRow w.heap.size 43 7 enC (fun (x : Ent) w => x.ok w) Ent.fp elOk_en
 refine tn (sq (sq (rg ?_)))
 refine H.v 20 (ii m) fun a H => H.v 21 (ii 0) fun a H => ?_
 refine nl (tn (bk ?_))
 refine w_loop (fun mm a wv => ∃ (i : Nat), ∃ (kq : Nat), ∃ (l : List (Ent)), ∃ (B : Option Addr), ∃ (cc : Nat), m - i = mm ∧ Sl 31 [(21, (ii i)), (20, (ii m)), (8, (.slice B i cc)), (0, (pt rb 0)), (2, (.func (.func 105) #[] #[(pt br 0)]))] a ∧ Hp w wv [(rowsR w.heap.size 43 7 enC (fun (x : Ent) w => x.ok w) Ent.fp (.slice B i cc) l), bx rb 103 (rC s kq) false] [boxK br 148 [.pointer (some ⟨rb, 0, none⟩)], laidK a0 a1] ∧ (i ≤ m) ∧ (l.length = i) ∧ (kq ≤ s.length) ∧ (rdC s 4000 (rdEnt s) k = pre ((l).map Ent.nv) (rdL (rdEnt s) (m - i) kq))) (m - 0) ?_ ?_
 ·exact ⟨0, k1, [], none, 0, (by omega), H.keep (by kernel_rfl), HP, (Nat.zero_le _), rfl, hk1, (by rw [hrel0]; exact (pre_nil _).symm)⟩
 rintro mm a w_2 ⟨i, kq, l, B, cc, hmeas, H, HP, hi, hll, hkq, hrel⟩
 refine sq (rg ?_)
 refine H.v 22 (.bool (decide ((i : Int) < (m : Int)))) fun a H => ?_
 refine nl (tn (sq ?_))
 refine w_if H rfl (fun g22 => ?_) (fun g22 => ?_)
 ·have g22p := of_decide_eq_true g22
  refine sk (tn (sq (bk (sq (rg ?_)))))
  refine H.al HP 9 43 [(ii 0), (ii 0), (ii 0), (ii 0), (ii 0), (ii 0), (.slice none 0 0)] fun b_3 w_4 a H HP => ?_
  refine nl (tn (sq (rg ?_)))
  refine H.v 23 (.func (.func 105) #[] #[(pt br 0)]) fun a H => ?_
  have hlt0 := HP.lt
  have hK0 := HP.ltK
  have hsz0 := HP.size
  refine H.callP 24 (by kernel_rfl) (Eq.trans (by kernel_rfl : _ = (callFunc 105 #[(pt b_3 0), (pt br 0)]).run Tryz.prog w_4) (Tryz.call105 _ _)) (rcE_any a0 a1 s kq rb br b_3 w_4 (HP.fact 1 rfl) (fun j hj => ⟨HP.factNe 1 2 rfl rfl j hj, HP.factNe 1 0 rfl rfl j hj⟩) (HP.at_ 2 rfl) (HP.at_ 0 rfl) ((HP.neB 0 2 rfl rfl (by decide)).symm) (HP.fact 0 rfl) ⟨HP.factNe 0 2 rfl rfl br rfl, HP.factNe 0 0 rfl rfl br rfl⟩ hl hkq) ?_
  rintro e w_5 ⟨hag, (⟨E, k2, us2, hE, hE2, hk2, rfl, hb1, hb2⟩ | ⟨x, k2, hE, hk2, rfl, hb1, hb2, hxo, hnew⟩)⟩
  ·refine .inr ⟨_, rfl, ?_⟩
   intro a H
   have HP := HP.changed2 2 0 rfl rfl (rC s k2) us2 _ rfl (by decide) hag hb1 hb2
   refine then_panic ?_
   refine inb_panic ?_
   refine then_panic ?_
   refine then_panic ?_
   refine inb_panic ?_
   refine then_panic ?_
   refine H.endP ?_
   exact ⟨HP.agree _ (by simp [bx, rowsR]), .inl ⟨E, k2, by rw [hrel, show m - i = (m - (i + 1)) + 1 by omega]; exact rdL_err hE, hE2, hk2, rfl, HP.at_ 2 rfl⟩⟩
  refine .inl ⟨_, rfl, ?_⟩
  intro a H
  have HP := HP.changed2 2 0 rfl rfl (rC s k2) (enL x) [bx b_3 43 (enL x) true, (rowsR w.heap.size 43 7 enC (fun (x : Ent) w => x.ok w) Ent.fp (.slice B i cc) l), bx rb 103 (rC s k2) false] (by kernel_rfl) (by decide) hag hb1 hb2
  have hs0 := HP.size
  have HP := HP.pendN 1 rfl elOk_en x [bx b_3 43 (enL x) true, (rowsP w.heap.size 43 7 enC (fun (x : Ent) w => x.ok w) Ent.fp (.slice B i cc) l x), bx rb 103 (rC s k2) false] (by kernel_rfl) hxo (fun j hj => ⟨Nat.le_trans hsz0 (hnew j hj), hxo.1.lt j hj, fun y hy hyk => by simp only [List.mem_cons, List.not_mem_nil, or_false] at hy; rcases hy with rfl | rfl | rfl <;> (first | exact Nat.lt_irrefl _ (Nat.lt_of_lt_of_le (hlt0 _ (List.mem_of_getElem? (i := 0) rfl) j hyk) (hnew j hj)) | exact Nat.lt_irrefl _ (Nat.lt_of_lt_of_le (hlt0 _ (List.mem_of_getElem? (i := 1) rfl) j hyk) (hnew j hj)) | exact Nat.lt_irrefl _ (Nat.lt_of_lt_of_le (hlt0 _ (List.mem_of_getElem? (i := 2) rfl) j hyk) (hnew j hj))), fun q hq hqk => Nat.lt_irrefl _ (Nat.lt_of_lt_of_le (hK0 q hq j hqk) (hnew j hj))⟩)
  refine nl (tn (rg ?_))
  refine H.v 25 (.slice B i cc) fun a H => H.u 26 (enV x) (ex_lN (enL x) (HP.cells 0 rfl 0 7 (by kernel_rfl))) fun a H => H.alloc HP 27 (fun b => (.slice (some ⟨b, 0, none⟩) 1 1)) 43 (enL x) (by kernel_rfl) (fun w => by kernel_rfl) fun b_6 w_7 a H HP => ?_
  refine H.push HP 28 2 0 (v := (.slice B i cc)) (e := 43) (p := x) (l := l) (cs := enC) (ok := (fun (x : Ent) w => x.ok w)) (fe := Ent.fp) (size := 7) (z := (.agg #[(ii 0), (ii 0), (ii 0), (ii 0), (ii 0), (ii 0), (.slice none 0 0)])) (bytes := 72) (bb := b_6) (tb := 43) (fb := true) (by kernel_rfl) elOk_en (by kernel_rfl) (by kernel_rfl) rfl (by kernel_rfl) (by kernel_rfl) (by kernel_rfl) (by kernel_rfl) (by kernel_rfl) rfl (by kernel_rfl) (by rw [hll]; unfold maxLen; omega) (by rw [hll]; omega) fun B_8 c_9 w_10 a H HP => ?_
  have HP : Hp w w_10 [bx b_6 43 (enL x) true, bx b_3 43 (enL x) true, (rowsR w.heap.size 43 7 enC (fun (x : Ent) w => x.ok w) Ent.fp (.slice B_8 (l.length + 1) c_9) (l ++ [x])), bx rb 103 (rC s k2) false] [boxK br 148 [.pointer (some ⟨rb, 0, none⟩)], laidK a0 a1] := HP
  rw [hll] at H HP
  refine H.v 8 (.slice B_8 (i + 1) c_9) fun a H => ?_
  refine nl (ibn (tn (rg ?_)))
  refine H.valE 29 (ii (IntKind.i64.wrap ((i : Int) + 1))) (ii ((i : Int) + 1)) (by kernel_rfl) (by kernel_rfl) ((by rw [wrap_ini64 _ (by omega)])) fun a H => H.v 21 (ii ((i : Int) + 1)) fun a H => ?_
  refine nl (tn ?_)
  have HP := HP.tail rfl
  have HP := HP.tail rfl
  have H := H.as 21 (ii ((i + 1 : Nat) : Int)) rfl rfl
  refine ⟨_, ?_, i + 1, k2, l ++ [x], B_8, c_9, rfl, H.keep (by kernel_rfl), HP, (by omega), (by rw [List.length_append, hll]; rfl), hk2, (by rw [hrel, show m - i = (m - (i + 1)) + 1 by omega, List.map_append]; exact rdL_step hE)⟩
  omega
 have g22p := of_decide_eq_false g22
 refine wp_exit (then_exit (then_exit ?_))
 refine w_exit_here ?_
 refine tn (sq (rg ?_))
 refine H.v 30 (.slice B i cc) fun a H => H.v 6 (.slice B i cc) fun a H => ?_
 refine nl (tn (rt ?_))
 refine H.r1 (.slice B i cc) Tryz.results104 ?_
 have hrow := HP.held 0 rfl
 have hfr := HP.fresh _ (List.mem_of_getElem? (i := 0) rfl) rfl
 have hres : rdC s 4000 (rdEnt s) k = .ok ((l).map Ent.nv, kq) := by rw [hrel, show m - i = 0 by omega]; exact pre_ok _ _
 subst hll
 exact ⟨HP.agree _ (by simp [bx, rowsR]), .inr ⟨B, cc, l, kq, hres, hkq, rfl, HP.at_ 1 rfl, ⟨Rd.of_own hrow.1, fun e he => (hrow.2 e he).1⟩, en_new hrow hfr, by omega⟩⟩
end Go.Proofs.YteeillphhiaopaaGreatDoor
