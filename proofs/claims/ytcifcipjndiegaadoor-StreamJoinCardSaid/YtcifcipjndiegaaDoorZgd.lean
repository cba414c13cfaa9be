/- Part 4 of the proofs: StN, StO, StR, StS, StT, StM, StX, StY, StW, StZ, SuA, SuB. -/
import Derived.Test.YtcifcipjndiegaaDoorZgc
namespace Go.Proofs.YtcifcipjndiegaaDoor
open Go.ChangeShapes Go.WideShapes Go.ChangeAt Go.RowKit Go.Shelf
set_option linter.unusedVariables false
set_option linter.unusedSimpArgs false
theorem print_snoc {t : Str} {i : Nat} (h : i < t.length) (hp : printP (t.take i) = true) (h1 : ¬ ((t.getD i 0).toNat : Int) < 32) (h2 : ¬ ((t.getD i 0).toNat : Int) > 126) : printP (t.take (i + 1)) = true := by
 unfold printP at hp ⊢
 have hg : t[i]? = some (t.getD i 0) := by simp [List.getD, List.getElem?_eq_getElem h]
 rw [List.take_add_one, hg, List.all_append, hp, Bool.true_and]
 show (decide (32 ≤ (t.getD i 0).toNat ∧ (t.getD i 0).toNat ≤ 126) && true) = true
 rw [Bool.and_true, decide_eq_true_eq]
 omega
theorem rprint_bad {t : Str} {i : Nat} (h : i < t.length) (h1 : ((t.getD i 0).toNat : Int) < 32 ∨ ((t.getD i 0).toNat : Int) > 126) (hp : printP t = true) : False := by
 unfold printP at hp
 rw [List.all_eq_true] at hp
 have := hp (t.getD i 0) (by simp [List.getD, List.getElem?_eq_getElem h])
 rw [decide_eq_true_eq] at this
 omega
theorem words_sizeG : ∀ (l acc : Str), (wordsG acc l).length ≤ acc.length + l.length ∧ ∀ x ∈ wordsG acc l, x.length ≤ acc.length + l.length
 | [], acc => by
  rw [wordsG]
  split
  ·exact ⟨by simp, fun _ h => by cases h⟩
  ·rename_i h
   have : 0 < acc.length := List.length_pos_iff.2 h
   exact ⟨by simp; omega, fun x hx => by rcases List.mem_singleton.1 hx with rfl; simp⟩
 | b :: l, acc => by
  have h0 := words_sizeG l []
  have h1 := words_sizeG l (acc ++ [b])
  simp only [List.length_nil, Nat.zero_add, List.length_append, List.length_cons] at h0 h1
  rw [wordsG]
  split
  ·split
   ·exact ⟨by simp only [List.length_cons]; omega, fun x hx => by have := h0.2 x hx; simp only [List.length_cons]; omega⟩
   ·rename_i h
    have : 0 < acc.length := List.length_pos_iff.2 h
    refine ⟨by simp only [List.length_cons]; omega, fun x hx => ?_⟩
    rcases List.mem_cons.1 hx with rfl | hx
    ·simp only [List.length_cons]; omega
    ·have := h0.2 x hx; simp only [List.length_cons]; omega
  ·exact ⟨by simp only [List.length_cons]; omega, fun x hx => by have := h1.2 x hx; simp only [List.length_cons]; omega⟩
theorem words_sizes (t : Str) : ∀ x ∈ wordsG [] t, x.length ≤ t.length := fun x hx => by
 have := (words_sizeG t []).2 x hx
 simpa using this
theorem rwords_count (t : Str) : (wordsG [] t).length ≤ t.length := by
 have := (words_sizeG t []).1
 simpa using this
theorem lay_step {ws rows r : List Str} {x : Str} {k : Nat} (hx : ws[k]? = some x) (h : ¬ 32 < x.length) (e : put1 rows x = r) : layW r (ws.drop (k + 1)) = layW rows (ws.drop k) := by
 obtain ⟨hk, hx⟩ := List.getElem?_eq_some_iff.1 hx
 rw [List.drop_eq_getElem_cons hk, hx, layW, if_neg h, e]
theorem lay_long {ws rows : List Str} {x : Str} {k : Nat} (hx : ws[k]? = some x) (h : 32 < x.length) : layW rows (ws.drop k) = none := by
 obtain ⟨hk, hx⟩ := List.getElem?_eq_some_iff.1 hx
 rw [List.drop_eq_getElem_cons hk, hx, layW, if_pos h]
theorem lay_end {ws rows : List Str} {z : Option (List Str)} {k : Nat} (h : layW rows (ws.drop k) = z) (hk : ws.length ≤ k) : z = some rows := by
 rw [← h, List.drop_of_length_le hk]; rfl
theorem rput1_join {rows : List Str} {x : Str} (h : 0 < rows.length) (h2 : (rows.getD (rows.length - 1) []).length + 1 + x.length ≤ 32) : put1 rows x = rows.set (rows.length - 1) ((rows.getD (rows.length - 1) [] ++ [32]) ++ x) := by
 unfold put1; rw [if_pos ⟨h, h2⟩, List.append_assoc]; rfl
theorem rput1_new {rows : List Str} {x : Str} (h : ¬ (0 < rows.length ∧ (rows.getD (rows.length - 1) []).length + 1 + x.length ≤ 32)) : put1 rows x = rows ++ [x] := by
 unfold put1; rw [if_neg h]
theorem rows_none (w : World) (base : Nat) (e : TypeId) (l : List Str) (hl : l = [] := by rfl) : (rowsR base e 1 strC okT feF (.slice none 0 0) l).F w := by
 subst hl
 exact ⟨World.ownsRow_nil _ _ _ _, fun a ha => by cases ha⟩
theorem Hp.rowN {w0 w : World} {L : List HB} {K : List FK} (H : Hp w0 w L K) (i : Nat) {α : Type} {base : Nat} {e : TypeId} {size n n' c : Nat} {cs : α → Array Value} {ok : α → World → Prop} {fe : α → Nat → Prop} {A : Option Addr} {l : List α} {L' : List HB} (hi : L[i]? = some (rowsR base e size cs ok fe (.slice A n c) l)) (hn : n = n') (hL : L.set i (rowsR base e size cs ok fe (.slice A n' c) l) = L') : Hp w0 w L' K := by
 subst hn
 obtain ⟨hlt, hi⟩ := List.getElem?_eq_some_iff.1 hi
 rw [← hL, ← hi, List.set_getElem_self]
 exact H
set_option maxRecDepth 100000 in
set_option maxHeartbeats 4000000 in
theorem rrows_any (t : Str) (w : World) (hl : t.length ≤ 1000000) : Calls Tryd.prog 45 #[.string (bstr t)] w fun e w' => ∃ A c rows ok, e = .returned (.tuple #[.slice A rows.length c, .bool ok]) ∧ Below w.heap.size w w' ∧ (rowsR w.heap.size 9 1 strC okT feF (.slice A rows.length c) rows).F w' ∧ (ok = true → layP t = some rows) ∧ (ok = false → layP t = none ∧ rows = []) := by
 have HP := Hp.start w
 refine w_enter 91 [(0, (.string (bstr t)))] Tryd.func45 rfl Tryd.ntmps45 (by kernel_rfl) (by kernel_rfl) fun a H => ?_
 refine wp_seq (w_region ?_)
 refine H.ge HP [(2, (.slice none 0 0)), (3, (.bool false))] [] fun a H => ?_
 refine then_normal (wp_seq (wp_seq (w_region ?_)))
 refine H.ge HP [(11, (.bool (decide ((t.length : Int) > 200))))] [] fun a H => ?_
 refine then_normal ?_
 refine w_if H rfl (fun g11 => ?_) (fun g11 => ?_)
 ·have g11p := of_decide_eq_true g11
  refine wp_seq (w_region ?_)
  refine H.ge HP [(2, (.slice none 0 0)), (3, (.bool false))] [] fun a H => ?_
  refine then_normal (wp_ret (then_ret ?_))
  refine H.ret2 (fn := Tryd.f45) Tryd.results45 (RV.tmp_ (v := (.slice none 0 0)) (by kernel_rfl)) (RV.tmp_ (v := (.bool false)) (by kernel_rfl)) ?_
  exact ⟨none, 0, [], false, rfl, HP.bl, rows_none _ _ _ _, (fun h => by cases h), fun _ => ⟨by unfold layP; rw [if_neg (fun h => by omega)], rfl⟩⟩
 ·have g11p := of_decide_eq_false g11
  refine wp_skip (then_normal (wp_seq (wp_seq (w_region ?_))))
  refine H.ge HP [(4, (ii 0))] [] fun a H => ?_
  refine then_normal (wp_block ?_)
  refine w_loop (fun mm a wv => ∃ (i : Nat), t.length - i = mm ∧ Sl 91 [(4, (ii i)), (11, (.bool (decide ((t.length : Int) > 200)))), (0, (.string (bstr t)))] a ∧ Hp w wv [] [] ∧ (i ≤ t.length) ∧ (printP (t.take i) = true)) (t.length - 0) ?_ ?_
  ·exact ⟨0, (by omega), H.keep (by kernel_rfl), HP, (Nat.zero_le _), rfl⟩
  rintro mm a w_1 ⟨i, hmeas, H, HP, hib, hpr⟩
  refine wp_seq (wp_seq (w_region ?_))
  refine H.ge HP [(15, (.bool (decide ((i : Int) < (t.length : Int)))))] [] fun a H => ?_
  refine then_normal ?_
  refine w_if H rfl (fun g15 => ?_) (fun g15 => ?_)
  ·have g15p := of_decide_eq_true g15
   refine wp_skip (then_normal (wp_seq (wp_block (wp_seq (w_region ?_)))))
   refine H.go HP 2 [(18, (.string (bstr t))), (19, (ii i))] [] fun a H => ?_
   refine H.u 20 (.int .u8 (((t.getD i 0).toNat : Nat) : Int)) (ex_sindex (k := .i64) (l := t) (i := (i : Int)) (m := i) (by kernel_rfl) (by kernel_rfl) (by kernel_rfl) (by omega) (by omega)) fun a H => ?_
   refine H.go HP 2 [(22, (.bool (decide ((((t.getD i 0).toNat : Nat) : Int) < 32))))] [] fun a H => ?_
   refine H.split 22 rfl (fun g22 H => ?_) (fun g22 H => ?_)
   ·have g22p := of_decide_eq_true g22
    refine H.ge HP [(27, (.bool true))] [] fun a H => ?_
    refine then_normal ?_
    refine w_ift H rfl ?_
    refine wp_seq (w_region ?_)
    refine H.ge HP [(2, (.slice none 0 0)), (3, (.bool false))] [] fun a H => ?_
    refine then_normal (wp_ret (inb_ret (then_ret (then_ret (inb_ret (then_ret ?_))))))
    refine H.ret2 (fn := Tryd.f45) Tryd.results45 (RV.tmp_ (v := (.slice none 0 0)) (by kernel_rfl)) (RV.tmp_ (v := (.bool false)) (by kernel_rfl)) ?_
    exact ⟨none, 0, [], false, rfl, HP.bl, rows_none _ _ _ _, (fun h => by cases h), fun _ => ⟨by unfold layP; rw [if_neg (fun h => rprint_bad (i := i) (by omega) (by omega) h.2)], rfl⟩⟩
   ·have g22p := of_decide_eq_false g22
    refine H.go HP 2 [(23, (.string (bstr t))), (24, (ii i))] [] fun a H => ?_
    refine H.u 25 (.int .u8 (((t.getD i 0).toNat : Nat) : Int)) (ex_sindex (k := .i64) (l := t) (i := (i : Int)) (m := i) (by kernel_rfl) (by kernel_rfl) (by kernel_rfl) (by omega) (by omega)) fun a H => ?_
    refine H.ge HP [(27, (.bool (decide ((((t.getD i 0).toNat : Nat) : Int) > 126))))] [] fun a H => ?_
    refine then_normal ?_
    refine w_if H rfl (fun g27 => ?_) (fun g27 => ?_)
    ·have g27p := of_decide_eq_true g27
     refine wp_seq (w_region ?_)
     refine H.ge HP [(2, (.slice none 0 0)), (3, (.bool false))] [] fun a H => ?_
     refine then_normal (wp_ret (inb_ret (then_ret (then_ret (inb_ret (then_ret ?_))))))
     refine H.ret2 (fn := Tryd.f45) Tryd.results45 (RV.tmp_ (v := (.slice none 0 0)) (by kernel_rfl)) (RV.tmp_ (v := (.bool false)) (by kernel_rfl)) ?_
     exact ⟨none, 0, [], false, rfl, HP.bl, rows_none _ _ _ _, (fun h => by cases h), fun _ => ⟨by unfold layP; rw [if_neg (fun h => rprint_bad (i := i) (by omega) (by omega) h.2)], rfl⟩⟩
    ·have g27p := of_decide_eq_false g27
     refine wp_skip (inb_normal (then_normal (w_region ?_)))
     refine H.go HP 1 [(16, (ii i))] [] fun a H => ?_
     refine H.wi 17 ((i : Int) + 1) fun a H => ?_
     refine H.ge HP [(4, (ii ((i : Int) + 1)))] [] fun a H => ?_
     refine then_normal ?_
     have H := H.as 4 (ii ((i + 1 : Nat) : Int)) rfl rfl
     refine ⟨_, ?_, i + 1, rfl, H.keep (by kernel_rfl), HP, (by omega), (print_snoc (by omega) hpr (by omega) (by omega))⟩
     omega
  ·have g15p := of_decide_eq_false g15
   refine wp_exit (then_exit (then_exit ?_))
   refine w_exit_here ?_
   refine then_normal (wp_seq (w_region ?_))
   refine H.go HP 1 [(28, (.string (bstr t)))] [] fun a H => ?_
   have hit : i = t.length := by omega
   rw [hit, List.take_length] at hpr
   have hwsz := words_sizes t
   have hwn := rwords_count t
   refine H.call 29 (by kernel_rfl) (Eq.trans (by kernel_rfl : _ = (callFunc 55 #[(.string (bstr t))]).run Tryd.prog w_1) (Tryd.call55 _ _)) (rwords_any t w_1 hl) ?_
   rintro e w_2 ⟨WA, wc, rfl, hbw, hrw⟩
   refine ⟨_, rfl, ?_⟩
   intro a H
   have HP := HP.gain hbw (rowsR w_1.heap.size 9 1 strC okT feF (.slice WA (wordsG [] t).length wc) (wordsG [] t)) hrw (rowsR_ok elOk_flat) (fun k hk => (rows_lt hrw hk).1) (fun k hk => (rows_lt hrw hk).2)
   have HP := HP.lay rfl
   refine H.ge HP [(5, (.slice WA ((wordsG [] t).length) wc))] [] fun a H => ?_
   refine then_normal (wp_seq (w_region ?_))
   refine H.ge HP [(6, (.slice none 0 0))] [] fun a H => ?_
   refine then_normal (wp_seq (wp_seq (w_region ?_)))
   refine H.ge HP [(7, (ii 0))] [] fun a H => ?_
   refine then_normal (wp_block ?_)
   have HP := HP.nilRow w.heap.size 9 1 strC okT feF elOk_flat
   refine w_loop (fun mm a wv => ∃ (k : Nat), ∃ (RA : Option Addr), ∃ (rc : Nat), ∃ (rows : List Str), (wordsG [] t).length - k = mm ∧ Sl 91 [(7, (ii k)), (6, (.slice RA rows.length rc)), (5, (.slice WA ((wordsG [] t).length) wc)), (29, (.slice WA ((wordsG [] t).length) wc)), (28, (.string (bstr t))), (15, (.bool (decide ((i : Int) < (t.length : Int))))), (4, (ii i)), (11, (.bool (decide ((t.length : Int) > 200)))), (0, (.string (bstr t)))] a ∧ Hp w wv [(rowsR w.heap.size 9 1 strC okT feF (.slice RA rows.length rc) rows)] [⟨(rowsR w_1.heap.size 9 1 strC okT feF (.slice WA (wordsG [] t).length wc) (wordsG [] t)).fp, (rowsR w_1.heap.size 9 1 strC okT feF (.slice WA (wordsG [] t).length wc) (wordsG [] t)).F⟩] ∧ (k ≤ (wordsG [] t).length) ∧ (layW rows ((wordsG [] t).drop k) = layW [] (wordsG [] t)) ∧ (rows.length ≤ k) ∧ (∀ y ∈ rows, y.length ≤ 32)) ((wordsG [] t).length - 0) ?_ ?_
   ·exact ⟨0, none, 0, [], (by omega), H.keep (by kernel_rfl), HP, (Nat.zero_le _), rfl, (Nat.zero_le _), (fun _ h => by cases h)⟩
   rintro mm a w_3 ⟨k, RA, rc, rows, hmeas, H, HP, hibk, hrel, hrl, hr32⟩
   refine wp_seq (wp_seq (w_region ?_))
   refine H.ge HP [(33, (.bool (decide ((k : Int) < (((wordsG [] t).length : Nat) : Int)))))] [] fun a H => ?_
   refine then_normal ?_
   refine w_if H rfl (fun g33 => ?_) (fun g33 => ?_)
   ·have g33p := of_decide_eq_true g33
    refine wp_skip (then_normal (wp_seq (wp_block (wp_seq (wp_seq (w_region ?_))))))
    refine H.go HP 2 [(36, (.slice WA ((wordsG [] t).length) wc)), (37, (ii k))] [] fun a H => ?_
    obtain ⟨bu_4, ou_5, x_6, hA_7, _, hd_9, hx_8, hm_10, _⟩ := IsRow.get strC_size (IsRow.ofRows (HP.fact 0 rfl)) (i := k) (by omega)
    have hwlen := hwsz _ hm_10
    refine H.u 38 (.pointer (some ⟨bu_4, ou_5 + k * 1, none⟩)) (ex_indexA (b := bu_4) (off := ou_5) (len := (wordsG [] t).length) (cap := wc) (e := 9) (k := 1) (ik := .i64) (i := (k : Int)) (m := k) hA_7 (by kernel_rfl) (by kernel_rfl) rfl (by omega) (by kernel_rfl) (by kernel_rfl)) fun a H => ?_
    refine H.u 39 (.string (bstr x_6)) (ex_l1 (by have hh := IsRow.cells strC_size (IsRow.ofRows (HP.fact 0 rfl)) hA_7 hx_8 0 _ rfl; rwa [Nat.add_zero] at hh)) fun a H => ?_
    refine H.ge HP [(41, (.bool (decide ((x_6.length : Int) > 32))))] [] fun a H => ?_
    refine then_normal ?_
    refine w_if H rfl (fun g41 => ?_) (fun g41 => ?_)
    ·have g41p := of_decide_eq_true g41
     refine wp_seq (w_region ?_)
     refine H.ge HP [(2, (.slice none 0 0)), (3, (.bool false))] [] fun a H => ?_
     refine then_normal (wp_ret (then_ret (inb_ret (then_ret (then_ret (inb_ret (then_ret ?_)))))))
     refine H.ret2 (fn := Tryd.f45) Tryd.results45 (RV.tmp_ (v := (.slice none 0 0)) (by kernel_rfl)) (RV.tmp_ (v := (.bool false)) (by kernel_rfl)) ?_
     exact ⟨none, 0, [], false, rfl, HP.bl, rows_none _ _ _ _, (fun h => by cases h), fun _ => ⟨by unfold layP; rw [if_pos ⟨by omega, hpr⟩, ← hrel, lay_long hx_8 (by omega)], rfl⟩⟩
    ·have g41p := of_decide_eq_false g41
     refine wp_skip (then_normal (wp_seq (w_region ?_)))
     refine H.go HP 2 [(43, (ii rows.length))] [] fun a H => ?_
     refine H.wi 44 ((rows.length : Int) - 1) fun a H => ?_
     refine H.ge HP [(8, (ii ((rows.length : Int) - 1)))] [] fun a H => ?_
     refine then_normal (wp_seq ?_)
     have hlens := rows_le_get hr32 (rows.length - 1)
     refine An.start (fun v => Hp w v [(rowsR w.heap.size 9 1 strC okT feF (.slice RA rows.length rc) rows)] [⟨(rowsR w_1.heap.size 9 1 strC okT feF (.slice WA (wordsG [] t).length wc) (wordsG [] t)).fp, (rowsR w_1.heap.size 9 1 strC okT feF (.slice WA (wordsG [] t).length wc) (wordsG [] t)).F⟩]) 17 17 HP wide_follows rfl fun w_11 HP => ?_
     refine An.go H (.inr (HP)) 14 [0, 1, 2] [(47, (.bool (decide (((rows.length : Int) - 1) ≥ 0))))] [] fun a H => ?_
     refine H.split 47 rfl (fun g47 H => ?_) (fun g47 H => ?_)
     ·have g47p := of_decide_eq_true g47
      refine An.go H (.inr (HP)) 12 [3, 4] [(48, (.slice RA rows.length rc)), (49, (ii ((rows.length : Int) - 1)))] [] fun a H => ?_
      obtain ⟨gb_12, hgb_13⟩ := rows_some (HP.held 0 rfl) (by omega)
      refine An.pure H (.inr (HP)) 5 50 (.pointer (some ⟨gb_12, 0 + (rows.length - 1) * 1, none⟩)) rfl (by kernel_rfl) (by kernel_rfl) (fun _ _ _ h => h) (fun _ => ex_indexA (b := gb_12) (off := 0) (len := rows.length) (cap := rc) (e := 9) (k := 1) (ik := .i64) (i := (rows.length : Int) - 1) (m := rows.length - 1) hgb_13 (by kernel_rfl) (by kernel_rfl) (by omega) (by omega) (by kernel_rfl) (by kernel_rfl)) fun a H => ?_
      refine An.val H (HP) 6 51 (.string (bstr (rows.getD (rows.length - 1) []))) rfl (by kernel_rfl) (by kernel_rfl) (fun _ _ _ h => h) (fun _ hS => ex_l1 (rows_cellA (hS.held 0 rfl) hgb_13 (by omega))) fun a H => ?_
      refine An.go H (.inr (HP)) 9 [7] [(52, (ii (((rows.getD (rows.length - 1) []).length : Nat) : Int)))] [] fun a H => ?_
      refine An.pureE H (.inr (HP)) 8 53 (ii (IntKind.i64.wrap ((((rows.getD (rows.length - 1) []).length : Nat) : Int) + 1))) (ii ((((rows.getD (rows.length - 1) []).length : Nat) : Int) + 1)) rfl (by kernel_rfl) (by kernel_rfl) (fun _ _ _ h => h) (fun _ => by kernel_rfl) ((by rw [wrap_ini64 _ (by omega)])) fun a H => ?_
      refine An.go H (.inr (HP)) 6 [9, 10] [(54, (.slice WA ((wordsG [] t).length) wc)), (55, (ii k))] [] fun a H => ?_
      obtain ⟨bu_14, ou_15, x_16, hA_17, _, hd_19, hx_18, hm_20, _⟩ := IsRow.get strC_size (IsRow.ofRows (HP.fact 0 rfl)) (i := k) (by omega)
      obtain rfl : x_6 = x_16 := Option.some.inj (hx_8.symm.trans hx_18)
      refine An.pure H (.inr (HP)) 11 56 (.pointer (some ⟨bu_14, ou_15 + k * 1, none⟩)) rfl (by kernel_rfl) (by kernel_rfl) (fun _ _ _ h => h) (fun _ => ex_indexA (b := bu_14) (off := ou_15) (len := (wordsG [] t).length) (cap := wc) (e := 9) (k := 1) (ik := .i64) (i := (k : Int)) (m := k) hA_17 (by kernel_rfl) (by kernel_rfl) rfl (by omega) (by kernel_rfl) (by kernel_rfl)) fun a H => ?_
      refine An.val H (HP) 12 57 (.string (bstr x_6)) rfl (by kernel_rfl) (by kernel_rfl) (fun _ _ _ h => h) (fun _ hS => ex_l1 (by have hh := IsRow.cells strC_size (IsRow.ofRows (hS.fact 0 rfl)) hA_17 hx_18 0 _ rfl; rwa [Nat.add_zero] at hh)) fun a H => ?_
      refine An.go H (.inr (HP)) 3 [13] [(58, (ii x_6.length))] [] fun a H => ?_
      refine An.pureE H (.inr (HP)) 14 59 (ii (IntKind.i64.wrap (((((rows.getD (rows.length - 1) []).length : Nat) : Int) + 1) + (x_6.length : Int)))) (ii (((((rows.getD (rows.length - 1) []).length : Nat) : Int) + 1) + (x_6.length : Int))) rfl (by kernel_rfl) (by kernel_rfl) (fun _ _ _ h => h) (fun _ => by kernel_rfl) ((by rw [wrap_ini64 _ (by omega)])) fun a H => ?_
      refine An.go H (.inr (HP)) 0 [15, 16] [(61, (.bool (decide ((((((rows.getD (rows.length - 1) []).length : Nat) : Int) + 1) + (x_6.length : Int)) ≤ 32))))] [] fun a H => ?_
      refine An.done (by kernel_rfl) ?_
      refine then_normal ?_
      refine w_if H rfl (fun g61 => ?_) (fun g61 => ?_)
      ·have g61p := of_decide_eq_true g61
       obtain ⟨gb, rfl⟩ := rows_some (HP.held 0 rfl) (by omega)
       refine An.start (fun v => Hp w v [(rowsR w.heap.size 9 1 strC okT feF (.slice (some ⟨gb, 0, none⟩) rows.length rc) rows)] [⟨(rowsR w_1.heap.size 9 1 strC okT feF (.slice WA (wordsG [] t).length wc) (wordsG [] t)).fp, (rowsR w_1.heap.size 9 1 strC okT feF (.slice WA (wordsG [] t).length wc) (wordsG [] t)).F⟩]) 13 14 HP wide_follows rfl fun w_21 HP => ?_
       refine An.go H (.inr (HP)) 10 [0, 1, 2, 3] [(62, (.slice (some ⟨gb, 0, none⟩) rows.length rc)), (63, (ii ((rows.length : Int) - 1))), (64, (.slice (some ⟨gb, 0, none⟩) rows.length rc)), (65, (ii ((rows.length : Int) - 1)))] [] fun a H => ?_
       refine An.pure H (.inr (HP)) 4 66 (.pointer (some ⟨gb, 0 + (rows.length - 1) * 1, none⟩)) rfl (by kernel_rfl) (by kernel_rfl) (fun _ _ _ h => h) (fun _ => ex_index (b := gb) (off := 0) (len := rows.length) (cap := rc) (e := 9) (k := 1) (ik := .i64) (i := (rows.length : Int) - 1) (m := rows.length - 1) (by kernel_rfl) (by kernel_rfl) (by omega) (by omega) (by kernel_rfl) (by kernel_rfl)) fun a H => ?_
       refine An.val H (HP) 5 67 (.string (bstr (rows.getD (rows.length - 1) []))) rfl (by kernel_rfl) (by kernel_rfl) (fun _ _ _ h => h) (fun _ hS => ex_l1 (rows_cell (hS.held 0 rfl) (by omega))) fun a H => ?_
       refine An.pure H (.inr (HP)) 6 68 (.string (bstr ((rows.getD (rows.length - 1) []) ++ ([32])))) rfl (by kernel_rfl) (by kernel_rfl) (fun _ _ _ h => h) (fun _ => ex_sadd (by kernel_rfl) (by kernel_rfl) (by (simp only [List.length_append, List.length_cons, List.length_nil] at *; omega))) fun a H => ?_
       refine An.go H (.inr (HP)) 5 [7, 8] [(69, (.slice WA ((wordsG [] t).length) wc)), (70, (ii k))] [] fun a H => ?_
       obtain ⟨bu_24, ou_25, x_26, hA_27, _, hd_29, hx_28, hm_30, _⟩ := IsRow.get strC_size (IsRow.ofRows (HP.fact 0 rfl)) (i := k) (by omega)
       obtain rfl : x_6 = x_26 := Option.some.inj (hx_8.symm.trans hx_28)
       refine An.pure H (.inr (HP)) 9 71 (.pointer (some ⟨bu_24, ou_25 + k * 1, none⟩)) rfl (by kernel_rfl) (by kernel_rfl) (fun _ _ _ h => h) (fun _ => ex_indexA (b := bu_24) (off := ou_25) (len := (wordsG [] t).length) (cap := wc) (e := 9) (k := 1) (ik := .i64) (i := (k : Int)) (m := k) hA_27 (by kernel_rfl) (by kernel_rfl) rfl (by omega) (by kernel_rfl) (by kernel_rfl)) fun a H => ?_
       refine An.val H (HP) 10 72 (.string (bstr x_6)) rfl (by kernel_rfl) (by kernel_rfl) (fun _ _ _ h => h) (fun _ hS => ex_l1 (by have hh := IsRow.cells strC_size (IsRow.ofRows (hS.fact 0 rfl)) hA_27 hx_28 0 _ rfl; rwa [Nat.add_zero] at hh)) fun a H => ?_
       refine An.pure H (.inr (HP)) 11 73 (.string (bstr (((rows.getD (rows.length - 1) []) ++ ([32])) ++ x_6))) rfl (by kernel_rfl) (by kernel_rfl) (fun _ _ _ h => h) (fun _ => ex_sadd (by kernel_rfl) (by kernel_rfl) (by (simp only [List.length_append, List.length_cons, List.length_nil] at *; omega))) fun a H => ?_
       refine An.pure H (.inr (HP)) 12 74 (.pointer (some ⟨gb, 0 + (rows.length - 1) * 1, none⟩)) rfl (by kernel_rfl) (by kernel_rfl) (fun _ _ _ h => h) (fun _ => ex_index (b := gb) (off := 0) (len := rows.length) (cap := rc) (e := 9) (k := 1) (ik := .i64) (i := (rows.length : Int) - 1) (m := rows.length - 1) (by kernel_rfl) (by kernel_rfl) (by omega) (by omega) (by kernel_rfl) (by kernel_rfl)) fun a H => ?_
       refine An.one 13 (by kernel_rfl) ?_
       refine Op.storeRow H HP 0 (g := gb) (cap := rc) (i := 0 + (rows.length - 1) * 1) (n := rows.length) (l' := rows.set (rows.length - 1) (((rows.getD (rows.length - 1) []) ++ ([32])) ++ x_6)) ((.string (bstr (((rows.getD (rows.length - 1) []) ++ ([32])) ++ x_6)))) rfl (by kernel_rfl) (by kernel_rfl) (by kernel_rfl) rfl (by kernel_rfl) rfl rfl (by omega) (by simp) (str_set _ _ _) (less_set (List.getElem?_eq_getElem (by omega)) (fun _ h => h) (fun _ h => h)) elOk_flat [(rowsR w.heap.size 9 1 strC okT feF (.slice (some ⟨gb, 0, none⟩) rows.length rc) (rows.set (rows.length - 1) (((rows.getD (rows.length - 1) []) ++ ([32])) ++ x_6)))] rfl ?_
       intro w_33 a H HP
       refine ⟨.inl (by kernel_rfl), ?_⟩
       refine An.done (by kernel_rfl) ?_
       refine inb_normal (then_normal (w_region ?_))
       refine H.go HP 1 [(34, (ii k))] [] fun a H => ?_
       refine H.wi 35 ((k : Int) + 1) fun a H => ?_
       refine H.ge HP [(7, (ii ((k : Int) + 1)))] [] fun a H => ?_
       refine then_normal ?_
       have H := H.as 7 (ii ((k + 1 : Nat) : Int)) rfl rfl
       have H := H.as 6 (.slice (some ⟨gb, 0, none⟩) ((rows.set (rows.length - 1) (((rows.getD (rows.length - 1) []) ++ ([32])) ++ x_6)).length) rc) rfl (congrArg (fun n => Value.slice _ n _) (List.length_set ..).symm)
       refine ⟨_, ?_, k + 1, some ⟨gb, 0, none⟩, rc, rows.set (rows.length - 1) (((rows.getD (rows.length - 1) []) ++ ([32])) ++ x_6), rfl, H.keep (by kernel_rfl), (HP.rowN 0 rfl (List.length_set ..).symm rfl), (by omega), (by rw [← hrel]; exact lay_step hx_8 (by omega) (rput1_join (by omega) (by omega))), (by simp only [List.length_append, List.length_set, List.length_cons, List.length_nil]; omega), (by rw [← rput1_join (by omega) (by omega)]; exact put1_le hr32 (by omega))⟩
       omega
      ·have g61p := of_decide_eq_false g61
       refine w_region ?_
       refine H.go HP 3 [(75, (.slice RA rows.length rc)), (76, (.slice WA ((wordsG [] t).length) wc)), (77, (ii k))] [] fun a H => ?_
       obtain ⟨bu_34, ou_35, x_36, hA_37, _, hd_39, hx_38, hm_40, _⟩ := IsRow.get strC_size (IsRow.ofRows (HP.fact 0 rfl)) (i := k) (by omega)
       obtain rfl : x_6 = x_36 := Option.some.inj (hx_8.symm.trans hx_38)
       refine H.u 78 (.pointer (some ⟨bu_34, ou_35 + k * 1, none⟩)) (ex_indexA (b := bu_34) (off := ou_35) (len := (wordsG [] t).length) (cap := wc) (e := 9) (k := 1) (ik := .i64) (i := (k : Int)) (m := k) hA_37 (by kernel_rfl) (by kernel_rfl) rfl (by omega) (by kernel_rfl) (by kernel_rfl)) fun a H => ?_
       refine H.u 79 (.string (bstr x_6)) (ex_l1 (by have hh := IsRow.cells strC_size (IsRow.ofRows (HP.fact 0 rfl)) hA_37 hx_38 0 _ rfl; rwa [Nat.add_zero] at hh)) fun a H => ?_
       refine H.alloc HP 80 (fun b => (.slice (some ⟨b, 0, none⟩) 1 1)) 9 [(.string (bstr x_6))] (by kernel_rfl) (fun w => by kernel_rfl) fun b_41 w_42 a H HP => ?_
       have HP := HP.pend0 1 rfl elOk_flat x_6 [bx b_41 9 [(.string (bstr x_6))] true, (rowsP w.heap.size 9 1 strC okT feF (.slice RA rows.length rc) rows x_6)] (by kernel_rfl) trivial (fun _ h => h)
       refine H.push HP 81 1 0 (v := (.slice RA rows.length rc)) (e := 9) (p := x_6) (l := rows) (cs := strC) (ok := okT) (fe := feF) (size := 1) (z := (.string ByteArray.empty)) (bytes := 16) (bb := b_41) (tb := 9) (fb := true) (by kernel_rfl) elOk_flat (by kernel_rfl) (by kernel_rfl) rfl (by kernel_rfl) (by kernel_rfl) (by kernel_rfl) (by kernel_rfl) (by kernel_rfl) rfl (by kernel_rfl) (by unfold maxLen; omega) (by omega) fun B_43 c_44 w_45 a H HP => ?_
       have HP : Hp w w_45 [bx b_41 9 [(.string (bstr x_6))] true, (rowsR w.heap.size 9 1 strC okT feF (.slice B_43 (rows.length + 1) c_44) (rows ++ [x_6]))] [⟨(rowsR w_1.heap.size 9 1 strC okT feF (.slice WA (wordsG [] t).length wc) (wordsG [] t)).fp, (rowsR w_1.heap.size 9 1 strC okT feF (.slice WA (wordsG [] t).length wc) (wordsG [] t)).F⟩] := HP
       refine H.ge HP [(6, (.slice B_43 (rows.length + 1) c_44))] [] fun a H => ?_
       refine inb_normal (then_normal (w_region ?_))
       refine H.go HP 1 [(34, (ii k))] [] fun a H => ?_
       refine H.wi 35 ((k : Int) + 1) fun a H => ?_
       refine H.ge HP [(7, (ii ((k : Int) + 1)))] [] fun a H => ?_
       refine then_normal ?_
       have H := H.as 7 (ii ((k + 1 : Nat) : Int)) rfl rfl
       have H := H.as 6 (.slice B_43 ((rows ++ [x_6]).length) c_44) rfl (congrArg (fun n => Value.slice _ n _) (len_snoc _ _))
       refine ⟨_, ?_, k + 1, B_43, c_44, rows ++ [x_6], rfl, H.keep (by kernel_rfl), (by have hh := (HP.tail rfl); rw [← show (rows ++ [x_6]).length = rows.length + 1 from (len_snoc _ _).symm] at hh; exact hh), (by omega), (by rw [← hrel]; exact lay_step hx_8 (by omega) (rput1_new (by omega))), (by simp only [List.length_append, List.length_set, List.length_cons, List.length_nil]; omega), (by rw [← rput1_new (by omega)]; exact put1_le hr32 (by omega))⟩
       omega
     ·have g47p := of_decide_eq_false g47
      refine An.go H (.inr (HP)) 0 [3, 4, 5, 6, 7, 8, 9, 10, 11, 12, 13, 14, 15, 16] [(61, (.bool false))] [] fun a H => ?_
      refine An.done (by kernel_rfl) ?_
      refine then_normal ?_
      refine w_iff H rfl ?_
      refine w_region ?_
      refine H.go HP 3 [(75, (.slice RA rows.length rc)), (76, (.slice WA ((wordsG [] t).length) wc)), (77, (ii k))] [] fun a H => ?_
      obtain ⟨bu_46, ou_47, x_48, hA_49, _, hd_51, hx_50, hm_52, _⟩ := IsRow.get strC_size (IsRow.ofRows (HP.fact 0 rfl)) (i := k) (by omega)
      obtain rfl : x_6 = x_48 := Option.some.inj (hx_8.symm.trans hx_50)
      refine H.u 78 (.pointer (some ⟨bu_46, ou_47 + k * 1, none⟩)) (ex_indexA (b := bu_46) (off := ou_47) (len := (wordsG [] t).length) (cap := wc) (e := 9) (k := 1) (ik := .i64) (i := (k : Int)) (m := k) hA_49 (by kernel_rfl) (by kernel_rfl) rfl (by omega) (by kernel_rfl) (by kernel_rfl)) fun a H => ?_
      refine H.u 79 (.string (bstr x_6)) (ex_l1 (by have hh := IsRow.cells strC_size (IsRow.ofRows (HP.fact 0 rfl)) hA_49 hx_50 0 _ rfl; rwa [Nat.add_zero] at hh)) fun a H => ?_
      refine H.alloc HP 80 (fun b => (.slice (some ⟨b, 0, none⟩) 1 1)) 9 [(.string (bstr x_6))] (by kernel_rfl) (fun w => by kernel_rfl) fun b_53 w_54 a H HP => ?_
      have HP := HP.pend0 1 rfl elOk_flat x_6 [bx b_53 9 [(.string (bstr x_6))] true, (rowsP w.heap.size 9 1 strC okT feF (.slice RA rows.length rc) rows x_6)] (by kernel_rfl) trivial (fun _ h => h)
      refine H.push HP 81 1 0 (v := (.slice RA rows.length rc)) (e := 9) (p := x_6) (l := rows) (cs := strC) (ok := okT) (fe := feF) (size := 1) (z := (.string ByteArray.empty)) (bytes := 16) (bb := b_53) (tb := 9) (fb := true) (by kernel_rfl) elOk_flat (by kernel_rfl) (by kernel_rfl) rfl (by kernel_rfl) (by kernel_rfl) (by kernel_rfl) (by kernel_rfl) (by kernel_rfl) rfl (by kernel_rfl) (by unfold maxLen; omega) (by omega) fun B_55 c_56 w_57 a H HP => ?_
      have HP : Hp w w_57 [bx b_53 9 [(.string (bstr x_6))] true, (rowsR w.heap.size 9 1 strC okT feF (.slice B_55 (rows.length + 1) c_56) (rows ++ [x_6]))] [⟨(rowsR w_1.heap.size 9 1 strC okT feF (.slice WA (wordsG [] t).length wc) (wordsG [] t)).fp, (rowsR w_1.heap.size 9 1 strC okT feF (.slice WA (wordsG [] t).length wc) (wordsG [] t)).F⟩] := HP
      refine H.ge HP [(6, (.slice B_55 (rows.length + 1) c_56))] [] fun a H => ?_
      refine inb_normal (then_normal (w_region ?_))
      refine H.go HP 1 [(34, (ii k))] [] fun a H => ?_
      refine H.wi 35 ((k : Int) + 1) fun a H => ?_
      refine H.ge HP [(7, (ii ((k : Int) + 1)))] [] fun a H => ?_
      refine then_normal ?_
      have H := H.as 7 (ii ((k + 1 : Nat) : Int)) rfl rfl
      have H := H.as 6 (.slice B_55 ((rows ++ [x_6]).length) c_56) rfl (congrArg (fun n => Value.slice _ n _) (len_snoc _ _))
      refine ⟨_, ?_, k + 1, B_55, c_56, rows ++ [x_6], rfl, H.keep (by kernel_rfl), (by have hh := (HP.tail rfl); rw [← show (rows ++ [x_6]).length = rows.length + 1 from (len_snoc _ _).symm] at hh; exact hh), (by omega), (by rw [← hrel]; exact lay_step hx_8 (by omega) (rput1_new (by omega))), (by simp only [List.length_append, List.length_set, List.length_cons, List.length_nil]; omega), (by rw [← rput1_new (by omega)]; exact put1_le hr32 (by omega))⟩
      omega
   ·have g33p := of_decide_eq_false g33
    refine wp_exit (then_exit (then_exit ?_))
    refine w_exit_here ?_
    refine then_normal (wp_seq (wp_seq (w_region ?_)))
    refine H.go HP 4 [(85, (.bool (decide ((rows.length : Int) < 1))))] [] fun a H => ?_
    refine H.split 85 rfl (fun g85 H => ?_) (fun g85 H => ?_)
    ·have g85p := of_decide_eq_true g85
     refine H.ge HP [(89, (.bool true))] [] fun a H => ?_
     refine then_normal ?_
     refine w_ift H rfl ?_
     refine wp_seq (w_region ?_)
     refine H.ge HP [(2, (.slice none 0 0)), (3, (.bool false))] [] fun a H => ?_
     refine then_normal (wp_ret (then_ret ?_))
     refine H.ret2 (fn := Tryd.f45) Tryd.results45 (RV.tmp_ (v := (.slice none 0 0)) (by kernel_rfl)) (RV.tmp_ (v := (.bool false)) (by kernel_rfl)) ?_
     exact ⟨none, 0, [], false, rfl, HP.bl, rows_none _ _ _ _, (fun h => by cases h), fun _ => ⟨by unfold layP; rw [if_pos ⟨by omega, hpr⟩, lay_end hrel (by omega)]; simp only; rw [if_neg (by omega)], rfl⟩⟩
    ·have g85p := of_decide_eq_false g85
     refine H.ge HP [(89, (.bool (decide ((rows.length : Int) > 4))))] [] fun a H => ?_
     refine then_normal ?_
     refine w_if H rfl (fun g89 => ?_) (fun g89 => ?_)
     ·have g89p := of_decide_eq_true g89
      refine wp_seq (w_region ?_)
      refine H.ge HP [(2, (.slice none 0 0)), (3, (.bool false))] [] fun a H => ?_
      refine then_normal (wp_ret (then_ret ?_))
      refine H.ret2 (fn := Tryd.f45) Tryd.results45 (RV.tmp_ (v := (.slice none 0 0)) (by kernel_rfl)) (RV.tmp_ (v := (.bool false)) (by kernel_rfl)) ?_
      exact ⟨none, 0, [], false, rfl, HP.bl, rows_none _ _ _ _, (fun h => by cases h), fun _ => ⟨by unfold layP; rw [if_pos ⟨by omega, hpr⟩, lay_end hrel (by omega)]; simp only; rw [if_neg (by omega)], rfl⟩⟩
     ·have g89p := of_decide_eq_false g89
      refine wp_skip (then_normal (wp_seq (w_region ?_)))
      refine H.ge HP [(2, (.slice RA rows.length rc)), (3, (.bool true))] [] fun a H => ?_
      refine then_normal (wp_ret ?_)
      refine H.ret2 (fn := Tryd.f45) Tryd.results45 (RV.tmp_ (v := (.slice RA rows.length rc)) (by kernel_rfl)) (RV.tmp_ (v := (.bool true)) (by kernel_rfl)) ?_
      have hkl : k = (wordsG [] t).length := by omega
      rw [hkl, List.drop_length] at hrel
      have hrel2 : layW [] (wordsG [] t) = some rows := hrel.symm.trans rfl
      exact ⟨RA, rc, rows, true, rfl, HP.bl, HP.held 0 rfl, (fun _ => by unfold layP; rw [if_pos ⟨by omega, hpr⟩, hrel2]; simp only; rw [if_pos ⟨by omega, by omega⟩]), fun h => by cases h⟩
theorem rrowsB_any (t : Str) (w : World) (hl : t.length ≤ 1000000) : Calls Tryd.prog 45 #[.string (bstr t)] w fun e w' => ∃ A n c, e = .returned (.tuple #[.slice A n c, .bool (layP t).isSome]) ∧ Below w.heap.size w w' :=
 (rrows_any t w hl).mono fun e w' ⟨A, c, rows, ok, h1, hb, _, hy, hn⟩ => by
  subst h1
  cases ok with
  | true => rw [hy rfl]; exact ⟨A, _, c, rfl, hb⟩
  | false => rw [(hn rfl).1]; exact ⟨A, _, c, rfl, hb⟩
theorem validC_1 {c : Cue} (h : c.id < 1 ∨ wmax < c.id) : validC c = false := by unfold validC; rw [if_pos h]
theorem validC_2 {c : Cue} (h : ¬ (c.id < 1 ∨ wmax < c.id)) (h0 : c.to_ = 0) : validC c = decide (c.from_ = 0 ∧ c.pri = 0 ∧ c.text = []) := by unfold validC; rw [if_neg h, if_pos h0]
theorem validC_3 {c : Cue} (h : ¬ (c.id < 1 ∨ wmax < c.id)) (h0 : c.to_ ≠ 0) (hb : c.from_ < 0 ∨ c.to_ ≤ c.from_ ∨ 100000000 < c.to_ ∨ c.pri < 0 ∨ 3 < c.pri) : validC c = false := by
 unfold validC; rw [if_neg h, if_neg h0]
 split
 ·rfl
 ·rw [if_pos (by omega)]
theorem validC_4 {c : Cue} (h : ¬ (c.id < 1 ∨ wmax < c.id)) (h0 : c.to_ ≠ 0) (hb : ¬ (c.from_ < 0 ∨ c.to_ ≤ c.from_ ∨ 100000000 < c.to_ ∨ c.pri < 0 ∨ 3 < c.pri)) : validC c = (layP c.text).isSome := by
 unfold validC; rw [if_neg h, if_neg h0, if_neg (by omega), if_neg (by omega)]
def contV : Option (List Str) → Value
 | none => .tuple #[.string (bstr []), .bool false]
 | some rows => .tuple #[.string (bstr (joinL rows)), .bool true]
theorem rows_bound {t : Str} {rows : List Str} {ok : Bool} (hy : ok = true → layP t = some rows) (hn : ok = false → layP t = none ∧ rows = []) : rows.length ≤ 4 ∧ ∀ y ∈ rows, y.length ≤ 32 := by
 cases ok with
 | true => exact lay_facts (hy rfl)
 | false => rw [(hn rfl).2]; exact ⟨by simp, fun _ h => by cases h⟩
theorem join_takeS {l : List Str} {x : Str} {i : Nat} (hi : 0 < i) (h : l[i]? = some x) : joinL (l.take i) ++ [10] ++ x = joinL (l.take (i + 1)) := by
 have hl : i < l.length := (List.getElem?_eq_some_iff.1 h).1
 obtain ⟨j, rfl⟩ : ∃ j, i = j + 1 := ⟨i - 1, by omega⟩
 exact (join_take hl h).symm
theorem join_take0 {l : List Str} {x : Str} {i : Nat} (hi : i = 0) (h : l[i]? = some x) : joinL (l.take i) ++ x = joinL (l.take (i + 1)) := by
 subst hi; exact join_one h
theorem valid_zero {c : Cue} (h1 : c.from_ = 0) (h2 : c.pri = 0) : (c.text == []) = decide (c.from_ = 0 ∧ c.pri = 0 ∧ c.text = []) := by
 rw [Bool.eq_iff_iff]
 simp [h1, h2]
theorem cont_some {t : Str} {rows : List Str} (h : layP t = some rows) : Ending.returned (.tuple #[.string (bstr (joinL rows)), .bool (decide (((rows.length : Nat) : Int) > 0))]) = .returned (contV (some rows)) := by
 have := List.length_pos_iff.2 (layP_some h).1
 rw [decide_eq_true (show ((rows.length : Nat) : Int) > 0 from by omega)]
 rfl
set_option maxRecDepth 100000 in
set_option maxHeartbeats 4000000 in
theorem rvalid_any (c : Cue) (w : World) (hl : c.text.length ≤ 1000000) : Calls Tryd.prog 29 #[(.agg #[(ii c.id), (ii c.from_), (ii c.to_), (ii c.pri), (.string (bstr c.text))])] w fun e w' => e = .returned (.bool (validC c)) ∧ Below w.heap.size w w' := by
 have HP := Hp.start w
 have hwm : wmax = 4611686018427387903 := rfl
 refine w_enter 63 [(0, (.agg #[(ii c.id), (ii c.from_), (ii c.to_), (ii c.pri), (.string (bstr c.text))]))] Tryd.func29 rfl Tryd.ntmps29 (by kernel_rfl) (by kernel_rfl) fun a H => ?_
 refine wp_seq (w_region ?_)
 refine H.alloc HP 1 (fun b => (pt b 0)) 23 [(ii c.id), (ii c.from_), (ii c.to_), (ii c.pri), (.string (bstr c.text))] (by kernel_rfl) (fun w => by kernel_rfl) fun b_1 w_2 a H HP => ?_
 refine H.ge HP [(2, (.bool false))] [] fun a H => ?_
 refine then_normal (wp_seq (wp_seq (w_region ?_)))
 refine H.go HP 4 [(5, (pt b_1 0)), (8, (.bool (decide (c.id < 1))))] [0] fun a H => ?_
 refine H.split 8 rfl (fun g8 H => ?_) (fun g8 H => ?_)
 ·have g8p := of_decide_eq_true g8
  refine H.ge HP [(12, (.bool true))] [] fun a H => ?_
  refine then_normal ?_
  refine w_ift H rfl ?_
  refine wp_seq (w_region ?_)
  refine H.ge HP [(2, (.bool false))] [] fun a H => ?_
  refine then_normal (wp_ret (then_ret ?_))
  refine H.ret1 (fn := Tryd.f29) Tryd.results29 (RV.tmp_ (v := (.bool false)) (by kernel_rfl)) ?_
  refine ⟨congrArg (fun b => Ending.returned (Value.bool b)) ?_, HP.bl⟩
  exact (validC_1 (by omega)).symm
 ·have g8p := of_decide_eq_false g8
  refine H.ge HP [(12, (.bool (decide (c.id > 4611686018427387903))))] [0] fun a H => ?_
  refine then_normal ?_
  refine w_if H rfl (fun g12 => ?_) (fun g12 => ?_)
  ·have g12p := of_decide_eq_true g12
   refine wp_seq (w_region ?_)
   refine H.ge HP [(2, (.bool false))] [] fun a H => ?_
   refine then_normal (wp_ret (then_ret ?_))
   refine H.ret1 (fn := Tryd.f29) Tryd.results29 (RV.tmp_ (v := (.bool false)) (by kernel_rfl)) ?_
   refine ⟨congrArg (fun b => Ending.returned (Value.bool b)) ?_, HP.bl⟩
   exact (validC_1 (by omega)).symm
  ·have g12p := of_decide_eq_false g12
   refine wp_skip (then_normal (wp_seq (wp_seq (w_region ?_))))
   refine H.ge HP [(15, (.bool (c.to_ == 0)))] [0] fun a H => ?_
   refine then_normal ?_
   refine w_if H rfl (fun g15 => ?_) (fun g15 => ?_)
   ·have g15p := eq_of_beq g15
    refine wp_seq (w_region ?_)
    refine H.go HP 4 [(19, (.bool (c.from_ == 0)))] [0] fun a H => ?_
    refine H.split 19 rfl (fun g19 H => ?_) (fun g19 H => ?_)
    ·have g19p := eq_of_beq g19
     refine H.go HP 5 [(24, (.bool (c.pri == 0)))] [0] fun a H => ?_
     refine H.split 24 rfl (fun g24 H => ?_) (fun g24 H => ?_)
     ·have g24p := eq_of_beq g24
      refine H.go HP 2 [(26, (.string (bstr c.text)))] [0] fun a H => ?_
      refine H.valE 27 (.bool ((bstr c.text).toList == (bstr ([])).toList)) (.bool (c.text == ([]))) (by kernel_rfl) (by kernel_rfl) ((congrArg Value.bool (bstr_eq _ _))) fun a H => ?_
      refine H.ge HP [(2, (.bool (c.text == ([]))))] [] fun a H => ?_
      refine then_normal (wp_ret (then_ret ?_))
      refine H.ret1 (fn := Tryd.f29) Tryd.results29 (RV.tmp_ (v := (.bool (c.text == ([])))) (by kernel_rfl)) ?_
      refine ⟨congrArg (fun b => Ending.returned (Value.bool b)) ?_, HP.bl⟩
      rw [validC_2 (by omega) g15p]
      exact valid_zero (by omega) (by omega)
     ·have g24p := ne_of_beq_false g24
      refine H.ge HP [(2, (.bool false))] [] fun a H => ?_
      refine then_normal (wp_ret (then_ret ?_))
      refine H.ret1 (fn := Tryd.f29) Tryd.results29 (RV.tmp_ (v := (.bool false)) (by kernel_rfl)) ?_
      refine ⟨congrArg (fun b => Ending.returned (Value.bool b)) ?_, HP.bl⟩
      rw [validC_2 (by omega) g15p]
      exact (decide_eq_false (fun h => by have h1 := h.1; have h2 := h.2.1; omega)).symm
    ·have g19p := ne_of_beq_false g19
     refine H.ge HP [(2, (.bool false))] [] fun a H => ?_
     refine then_normal (wp_ret (then_ret ?_))
     refine H.ret1 (fn := Tryd.f29) Tryd.results29 (RV.tmp_ (v := (.bool false)) (by kernel_rfl)) ?_
     refine ⟨congrArg (fun b => Ending.returned (Value.bool b)) ?_, HP.bl⟩
     rw [validC_2 (by omega) g15p]
     exact (decide_eq_false (fun h => by have h1 := h.1; have h2 := h.2.1; omega)).symm
   ·have g15p := ne_of_beq_false g15
    refine wp_skip (then_normal (wp_seq (w_region ?_)))
    refine H.go HP 2 [(31, (.string (bstr c.text)))] [0] fun a H => ?_
    refine H.call 32 (by kernel_rfl) (Eq.trans (by kernel_rfl : _ = (callFunc 45 #[(.string (bstr c.text))]).run Tryd.prog w_2) (Tryd.call45 _ _)) (rrowsB_any c.text w_2 hl) ?_
    rintro e w_3 ⟨A_, n_, c_, rfl, hb⟩
    refine ⟨_, rfl, ?_⟩
    intro a H
    have HP := HP.next hb
    refine H.ge HP [(3, (.slice A_ n_ c_)), (4, (.bool ((layP c.text).isSome)))] [] fun a H => ?_
    refine then_normal (wp_seq (w_region ?_))
    refine H.go HP 4 [(38, (.bool (decide (c.from_ ≥ 0))))] [0] fun a H => ?_
    refine H.split 38 rfl (fun g38 H => ?_) (fun g38 H => ?_)
    ·have g38p := of_decide_eq_true g38
     refine H.go HP 7 [(45, (.bool (decide (c.from_ < c.to_))))] [0, 0] fun a H => ?_
     refine H.split 45 rfl (fun g45 H => ?_) (fun g45 H => ?_)
     ·have g45p := of_decide_eq_true g45
      refine H.go HP 5 [(50, (.bool (decide (c.to_ ≤ 100000000))))] [0] fun a H => ?_
      refine H.split 50 rfl (fun g50 H => ?_) (fun g50 H => ?_)
      ·have g50p := of_decide_eq_true g50
       refine H.go HP 5 [(55, (.bool (decide (c.pri ≥ 0))))] [0] fun a H => ?_
       refine H.split 55 rfl (fun g55 H => ?_) (fun g55 H => ?_)
       ·have g55p := of_decide_eq_true g55
        refine H.go HP 5 [(60, (.bool (decide (c.pri ≤ 3))))] [0] fun a H => ?_
        refine H.split 60 rfl (fun g60 H => ?_) (fun g60 H => ?_)
        ·have g60p := of_decide_eq_true g60
         refine H.ge HP [(2, (.bool ((layP c.text).isSome)))] [] fun a H => ?_
         refine then_normal (wp_ret ?_)
         refine H.ret1 (fn := Tryd.f29) Tryd.results29 (RV.tmp_ (v := (.bool ((layP c.text).isSome))) (by kernel_rfl)) ?_
         refine ⟨congrArg (fun b => Ending.returned (Value.bool b)) ?_, HP.bl⟩
         exact (validC_4 (by omega) g15p (by omega)).symm
        ·have g60p := of_decide_eq_false g60
         refine H.ge HP [(2, (.bool false))] [] fun a H => ?_
         refine then_normal (wp_ret ?_)
         refine H.ret1 (fn := Tryd.f29) Tryd.results29 (RV.tmp_ (v := (.bool false)) (by kernel_rfl)) ?_
         refine ⟨congrArg (fun b => Ending.returned (Value.bool b)) ?_, HP.bl⟩
         exact (validC_3 (by omega) g15p (by omega)).symm
       ·have g55p := of_decide_eq_false g55
        refine H.ge HP [(2, (.bool false))] [] fun a H => ?_
        refine then_normal (wp_ret ?_)
        refine H.ret1 (fn := Tryd.f29) Tryd.results29 (RV.tmp_ (v := (.bool false)) (by kernel_rfl)) ?_
        refine ⟨congrArg (fun b => Ending.returned (Value.bool b)) ?_, HP.bl⟩
        exact (validC_3 (by omega) g15p (by omega)).symm
      ·have g50p := of_decide_eq_false g50
       refine H.ge HP [(2, (.bool false))] [] fun a H => ?_
       refine then_normal (wp_ret ?_)
       refine H.ret1 (fn := Tryd.f29) Tryd.results29 (RV.tmp_ (v := (.bool false)) (by kernel_rfl)) ?_
       refine ⟨congrArg (fun b => Ending.returned (Value.bool b)) ?_, HP.bl⟩
       exact (validC_3 (by omega) g15p (by omega)).symm
     ·have g45p := of_decide_eq_false g45
      refine H.ge HP [(2, (.bool false))] [] fun a H => ?_
      refine then_normal (wp_ret ?_)
      refine H.ret1 (fn := Tryd.f29) Tryd.results29 (RV.tmp_ (v := (.bool false)) (by kernel_rfl)) ?_
      refine ⟨congrArg (fun b => Ending.returned (Value.bool b)) ?_, HP.bl⟩
      exact (validC_3 (by omega) g15p (by omega)).symm
    ·have g38p := of_decide_eq_false g38
     refine H.ge HP [(2, (.bool false))] [] fun a H => ?_
     refine then_normal (wp_ret ?_)
     refine H.ret1 (fn := Tryd.f29) Tryd.results29 (RV.tmp_ (v := (.bool false)) (by kernel_rfl)) ?_
     refine ⟨congrArg (fun b => Ending.returned (Value.bool b)) ?_, HP.bl⟩
     exact (validC_3 (by omega) g15p (by omega)).symm
set_option maxRecDepth 100000 in
set_option maxHeartbeats 4000000 in
theorem rcontent_any (c : Cue) (w : World) (hl : c.text.length ≤ 1000000) : Calls Tryd.prog 30 #[(.agg #[(ii c.id), (ii c.from_), (ii c.to_), (ii c.pri), (.string (bstr c.text))])] w fun e w' => e = .returned (contV (layP c.text)) ∧ Below w.heap.size w w' := by
 have HP := Hp.start w
 refine w_enter 37 [(0, (.agg #[(ii c.id), (ii c.from_), (ii c.to_), (ii c.pri), (.string (bstr c.text))]))] Tryd.func30 rfl Tryd.ntmps30 (by kernel_rfl) (by kernel_rfl) fun a H => ?_
 refine wp_seq (w_region ?_)
 refine H.alloc HP 1 (fun b => (pt b 0)) 23 [(ii c.id), (ii c.from_), (ii c.to_), (ii c.pri), (.string (bstr c.text))] (by kernel_rfl) (fun w => by kernel_rfl) fun b_1 w_2 a H HP => ?_
 refine H.ge HP [(2, (.string (bstr ([])))), (3, (.bool false))] [] fun a H => ?_
 refine then_normal (wp_seq (w_region ?_))
 refine H.go HP 2 [(10, (.string (bstr c.text)))] [0] fun a H => ?_
 refine H.call 11 (by kernel_rfl) (Eq.trans (by kernel_rfl : _ = (callFunc 45 #[(.string (bstr c.text))]).run Tryd.prog w_2) (Tryd.call45 _ _)) (rrows_any c.text w_2 hl) ?_
 rintro e w_3 ⟨RA, rc, rows, ok, rfl, hbw, hrw, hyes, hno⟩
 refine ⟨_, rfl, ?_⟩
 intro a H
 have HP := HP.gain hbw (rowsR w_2.heap.size 9 1 strC okT feF (.slice RA rows.length rc) rows) hrw (rowsR_ok elOk_flat) (fun k hk => (rows_lt hrw hk).1) (fun k hk => (rows_lt hrw hk).2)
 have HP := HP.lay rfl
 have hrb := rows_bound hyes hno
 refine H.ge HP [(4, (.slice RA rows.length rc)), (5, (.bool ok))] [] fun a H => ?_
 refine then_normal (wp_seq (w_region ?_))
 refine H.ge HP [(6, (.string (bstr ([]))))] [] fun a H => ?_
 refine then_normal (wp_seq (wp_seq (w_region ?_)))
 refine H.ge HP [(7, (ii 0))] [] fun a H => ?_
 refine then_normal (wp_block ?_)
 refine w_loop (fun mm a wv => ∃ (i : Nat), rows.length - i = mm ∧ Sl 37 [(7, (ii i)), (6, (.string (bstr (joinL (rows.take i))))), (4, (.slice RA rows.length rc)), (5, (.bool ok)), (11, (.tuple #[(.slice RA rows.length rc), (.bool ok)])), (10, (.string (bstr c.text))), (2, (.string (bstr ([])))), (3, (.bool false)), (1, (pt b_1 0)), (0, (.agg #[(ii c.id), (ii c.from_), (ii c.to_), (ii c.pri), (.string (bstr c.text))]))] a ∧ Hp w wv [bx b_1 23 [(ii c.id), (ii c.from_), (ii c.to_), (ii c.pri), (.string (bstr c.text))] true] [⟨(rowsR w_2.heap.size 9 1 strC okT feF (.slice RA rows.length rc) rows).fp, (rowsR w_2.heap.size 9 1 strC okT feF (.slice RA rows.length rc) rows).F⟩] ∧ (i ≤ rows.length)) (rows.length - 0) ?_ ?_
 ·exact ⟨0, (by omega), H.keep (by kernel_rfl), HP, (Nat.zero_le _)⟩
 rintro mm a w_4 ⟨i, hmeas, H, HP, hib⟩
 refine wp_seq (wp_seq (w_region ?_))
 refine H.ge HP [(17, (.bool (decide ((i : Int) < (rows.length : Int)))))] [] fun a H => ?_
 refine then_normal ?_
 refine w_if H rfl (fun g17 => ?_) (fun g17 => ?_)
 ·have g17p := of_decide_eq_true g17
  refine wp_skip (then_normal (wp_seq (wp_block (wp_seq (wp_seq (w_region ?_))))))
  refine H.ge HP [(21, (.bool (decide ((i : Int) > 0))))] [] fun a H => ?_
  refine then_normal ?_
  refine w_if H rfl (fun g21 => ?_) (fun g21 => ?_)
  ·have g21p := of_decide_eq_true g21
   refine w_region ?_
   refine H.go HP 1 [(22, (.string (bstr (joinL (rows.take i)))))] [] fun a H => ?_
   refine H.u 23 (.string (bstr ((joinL (rows.take i)) ++ ([10])))) (ex_sadd (by kernel_rfl) (by kernel_rfl) (by (have hjl := join_len (l := rows) (fun y hy => by have := hrb.2 y hy; omega) i; first | omega | (simp only [List.length_append, List.length_cons, List.length_nil]; omega)))) fun a H => ?_
   refine H.ge HP [(6, (.string (bstr ((joinL (rows.take i)) ++ ([10])))))] [] fun a H => ?_
   refine then_normal (w_region ?_)
   refine H.go HP 3 [(24, (.string (bstr ((joinL (rows.take i)) ++ ([10]))))), (25, (.slice RA rows.length rc)), (26, (ii i))] [] fun a H => ?_
   obtain ⟨bu, ou, x, hA, _, hd0, hx, hm, _⟩ := IsRow.get strC_size (IsRow.ofRows (HP.fact 0 rfl)) (i := i) (by omega)
   have hxl := hrb.2 _ hm
   refine H.u 27 (.pointer (some ⟨bu, ou + i * 1, none⟩)) (ex_indexA (b := bu) (off := ou) (len := rows.length) (cap := rc) (e := 9) (k := 1) (ik := .i64) (i := (i : Int)) (m := i) hA (by kernel_rfl) (by kernel_rfl) rfl (by omega) (by kernel_rfl) (by kernel_rfl)) fun a H => ?_
   refine H.u 28 (.string (bstr x)) (ex_l1 (by have hh := IsRow.cells strC_size (IsRow.ofRows (HP.fact 0 rfl)) hA hx 0 _ rfl; rwa [Nat.add_zero] at hh)) fun a H => ?_
   refine H.u 29 (.string (bstr (((joinL (rows.take i)) ++ ([10])) ++ x))) (ex_sadd (by kernel_rfl) (by kernel_rfl) (by (have hjl := join_len (l := rows) (fun y hy => by have := hrb.2 y hy; omega) i; first | omega | (simp only [List.length_append, List.length_cons, List.length_nil]; omega)))) fun a H => ?_
   refine H.ge HP [(6, (.string (bstr (((joinL (rows.take i)) ++ ([10])) ++ x))))] [] fun a H => ?_
   refine inb_normal (then_normal (w_region ?_))
   refine H.go HP 1 [(18, (ii i))] [] fun a H => ?_
   refine H.wi 19 ((i : Int) + 1) fun a H => ?_
   refine H.ge HP [(7, (ii ((i : Int) + 1)))] [] fun a H => ?_
   refine then_normal ?_
   have H := H.as 7 (ii ((i + 1 : Nat) : Int)) rfl rfl
   have H := H.as 6 (.string (bstr (joinL (rows.take (i + 1))))) rfl (congrArg (fun s => Value.string (bstr s)) (join_takeS (by omega) hx))
   refine ⟨_, ?_, i + 1, rfl, H.keep (by kernel_rfl), HP, (by omega)⟩
   omega
  ·have g21p := of_decide_eq_false g21
   refine wp_skip (then_normal (w_region ?_))
   refine H.go HP 3 [(24, (.string (bstr (joinL (rows.take i))))), (25, (.slice RA rows.length rc)), (26, (ii i))] [] fun a H => ?_
   obtain ⟨bu, ou, x, hA, _, hd0, hx, hm, _⟩ := IsRow.get strC_size (IsRow.ofRows (HP.fact 0 rfl)) (i := i) (by omega)
   have hxl := hrb.2 _ hm
   refine H.u 27 (.pointer (some ⟨bu, ou + i * 1, none⟩)) (ex_indexA (b := bu) (off := ou) (len := rows.length) (cap := rc) (e := 9) (k := 1) (ik := .i64) (i := (i : Int)) (m := i) hA (by kernel_rfl) (by kernel_rfl) rfl (by omega) (by kernel_rfl) (by kernel_rfl)) fun a H => ?_
   refine H.u 28 (.string (bstr x)) (ex_l1 (by have hh := IsRow.cells strC_size (IsRow.ofRows (HP.fact 0 rfl)) hA hx 0 _ rfl; rwa [Nat.add_zero] at hh)) fun a H => ?_
   refine H.u 29 (.string (bstr ((joinL (rows.take i)) ++ x))) (ex_sadd (by kernel_rfl) (by kernel_rfl) (by (have hjl := join_len (l := rows) (fun y hy => by have := hrb.2 y hy; omega) i; first | omega | (simp only [List.length_append, List.length_cons, List.length_nil]; omega)))) fun a H => ?_
   refine H.ge HP [(6, (.string (bstr ((joinL (rows.take i)) ++ x))))] [] fun a H => ?_
   refine inb_normal (then_normal (w_region ?_))
   refine H.go HP 1 [(18, (ii i))] [] fun a H => ?_
   refine H.wi 19 ((i : Int) + 1) fun a H => ?_
   refine H.ge HP [(7, (ii ((i : Int) + 1)))] [] fun a H => ?_
   refine then_normal ?_
   have H := H.as 7 (ii ((i + 1 : Nat) : Int)) rfl rfl
   have H := H.as 6 (.string (bstr (joinL (rows.take (i + 1))))) rfl (congrArg (fun s => Value.string (bstr s)) (join_take0 (by omega) hx))
   refine ⟨_, ?_, i + 1, rfl, H.keep (by kernel_rfl), HP, (by omega)⟩
   omega
 ·have g17p := of_decide_eq_false g17
  refine wp_exit (then_exit (then_exit ?_))
  refine w_exit_here ?_
  refine then_normal (wp_seq (w_region ?_))
  refine H.go HP 3 [(30, (.string (bstr (joinL (rows.take i))))), (32, (.bool ok))] [] fun a H => ?_
  refine H.split 32 rfl (fun g32 H => ?_) (fun g32 H => ?_)
  ·have g32p := g32
   refine H.ge HP [(2, (.string (bstr (joinL (rows.take i))))), (3, (.bool (decide ((rows.length : Int) > 0))))] [] fun a H => ?_
   refine then_normal (wp_ret ?_)
   refine H.ret2 (fn := Tryd.f30) Tryd.results30 (RV.tmp_ (v := (.string (bstr (joinL (rows.take i))))) (by kernel_rfl)) (RV.tmp_ (v := (.bool (decide ((rows.length : Int) > 0)))) (by kernel_rfl)) ?_
   have hir : i = rows.length := by omega
   rw [hir, List.take_length]
   exact ⟨by rw [hyes (by simpa using g32p)]; exact cont_some (hyes (by simpa using g32p)), HP.bl⟩
  ·have g32p := g32
   refine H.ge HP [(2, (.string (bstr (joinL (rows.take i))))), (3, (.bool false))] [] fun a H => ?_
   refine then_normal (wp_ret ?_)
   refine H.ret2 (fn := Tryd.f30) Tryd.results30 (RV.tmp_ (v := (.string (bstr (joinL (rows.take i))))) (by kernel_rfl)) (RV.tmp_ (v := (.bool false)) (by kernel_rfl)) ?_
   have hir : i = rows.length := by omega
   rw [hir, List.take_length]
   exact ⟨by rw [(hno (by simpa using g32p)).1, (hno (by simpa using g32p)).2]; rfl, HP.bl⟩
theorem rcontentU_any (c : Cue) (w : World) (hl : c.text.length ≤ 1000000) : Calls Tryd.prog 30 #[cuV c] w fun e w' => ∃ s ok, e = .returned (.tuple #[.string (bstr s), .bool ok]) ∧ Below w.heap.size w w' ∧ (ok = true → ∃ rows, layP c.text = some rows ∧ joinL rows = s) ∧ (ok = false → layP c.text = none) :=
 (rcontent_any c w hl).mono fun e w' ⟨h1, h2⟩ => by
  subst h1
  cases h : layP c.text with
  | none => exact ⟨[], false, rfl, h2, (fun h => by cases h), fun _ => rfl⟩
  | some rows => exact ⟨joinL rows, true, rfl, h2, fun _ => ⟨rows, rfl, rfl⟩, fun h => by cases h⟩
theorem rput_sum (t : Str) (w : World) : Calls Tryd.prog 31 #[.int .i64 ((sumP t : Nat) : Int)] w fun e w' => e = .returned (.tuple #[.string (bstr (sumC t)), .int .i64 0]) ∧ Below w.heap.size w w' := by
 have h := rputInt_all ((sumP t : Nat) : Int) w (sumw t).2
 rw [if_pos (sumw t).1, if_pos (sumw t).1] at h
 exact h
set_option maxRecDepth 100000 in
set_option maxHeartbeats 4000000 in
theorem rblock_any (c : Cue) (w : World) (hl : c.text.length ≤ 1000000) : Calls Tryd.prog 10 #[(.agg #[(ii c.id), (ii c.from_), (ii c.to_), (ii c.pri), (.string (bstr c.text))])] w fun e w' => e = .returned (blkV (blockP c)) ∧ Below w.heap.size w w' := by
 have HP := Hp.start w
 refine w_enter 47 [(0, (.agg #[(ii c.id), (ii c.from_), (ii c.to_), (ii c.pri), (.string (bstr c.text))]))] Tryd.func10 rfl Tryd.ntmps10 (by kernel_rfl) (by kernel_rfl) fun a H => ?_
 refine wp_seq (w_region ?_)
 refine H.alloc HP 1 (fun b => (pt b 0)) 23 [(ii c.id), (ii c.from_), (ii c.to_), (ii c.pri), (.string (bstr c.text))] (by kernel_rfl) (fun w => by kernel_rfl) fun b_1 w_2 a H HP => ?_
 refine H.ge HP [(2, (.string (bstr ([])))), (3, (ii 0))] [] fun a H => ?_
 refine then_normal (wp_seq (w_region ?_))
 refine H.go HP 1 [(9, (.agg #[(ii c.id), (ii c.from_), (ii c.to_), (ii c.pri), (.string (bstr c.text))]))] [0] fun a H => ?_
 refine H.call 10 (by kernel_rfl) (Eq.trans (by kernel_rfl : _ = (callFunc 29 #[(.agg #[(ii c.id), (ii c.from_), (ii c.to_), (ii c.pri), (.string (bstr c.text))])]).run Tryd.prog w_2) (Tryd.call29 _ _)) (rvalid_any c w_2 hl) ?_
 rintro e w_3 ⟨rfl, hb⟩
 refine ⟨_, rfl, ?_⟩
 intro a H
 have HP := HP.next hb
 refine H.ge HP [(4, (.bool (validC c)))] [] fun a H => ?_
 refine then_normal (wp_seq (w_region ?_))
 refine H.go HP 1 [(12, (.agg #[(ii c.id), (ii c.from_), (ii c.to_), (ii c.pri), (.string (bstr c.text))]))] [0] fun a H => ?_
 refine H.call 13 (by kernel_rfl) (Eq.trans (by kernel_rfl : _ = (callFunc 30 #[(.agg #[(ii c.id), (ii c.from_), (ii c.to_), (ii c.pri), (.string (bstr c.text))])]).run Tryd.prog w_3) (Tryd.call30 _ _)) (rcontentU_any c w_3 hl) ?_
 rintro e w_4 ⟨s, ok, rfl, hb, hyes, hno⟩
 refine ⟨_, rfl, ?_⟩
 intro a H
 have HP := HP.next hb
 refine H.ge HP [(5, (.string (bstr s))), (6, (.bool ok))] [] fun a H => ?_
 refine then_normal (wp_seq (wp_seq (w_region ?_)))
 refine H.go HP 3 [(18, (.bool (!(validC c))))] [] fun a H => ?_
 refine H.split 18 rfl (fun g18 H => ?_) (fun g18 H => ?_)
 ·have g18p := not_is_true g18
  refine H.ge HP [(21, (.bool true))] [] fun a H => ?_
  refine then_normal ?_
  refine w_ift H rfl ?_
  refine wp_seq (w_region ?_)
  refine H.ge HP [(2, (.string (bstr ([])))), (3, (ii 160))] [] fun a H => ?_
  refine then_normal (wp_ret (then_ret ?_))
  refine H.ret2 (fn := Tryd.f10) Tryd.results10 (RV.tmp_ (v := (.string (bstr ([])))) (by kernel_rfl)) (RV.tmp_ (v := (ii 160)) (by kernel_rfl)) ?_
  refine ⟨congrArg Ending.returned ?_, HP.bl⟩
  unfold blockP; rw [if_neg (by simp_all)]; rfl
 ·have g18p := not_is_false g18
  refine H.ge HP [(21, (.bool (!ok)))] [] fun a H => ?_
  refine then_normal ?_
  refine w_if H rfl (fun g21 => ?_) (fun g21 => ?_)
  ·have g21p := not_is_true g21
   refine wp_seq (w_region ?_)
   refine H.ge HP [(2, (.string (bstr ([])))), (3, (ii 160))] [] fun a H => ?_
   refine then_normal (wp_ret (then_ret ?_))
   refine H.ret2 (fn := Tryd.f10) Tryd.results10 (RV.tmp_ (v := (.string (bstr ([])))) (by kernel_rfl)) (RV.tmp_ (v := (ii 160)) (by kernel_rfl)) ?_
   refine ⟨congrArg Ending.returned ?_, HP.bl⟩
   unfold blockP; rw [hno (by simp_all)]; split <;> rfl
  ·have g21p := not_is_false g21
   refine wp_skip (then_normal (wp_seq ?_))
   obtain ⟨rows, hlay, rfl⟩ := hyes (by simp_all)
   have hjl := lay_join hlay
   have hsl := encSum_len (joinL rows)
   refine w_region ?_
   refine H.go HP 1 [(23, (.string (bstr (joinL rows))))] [] fun a H => ?_
   refine H.call 24 (by kernel_rfl) (Eq.trans (by kernel_rfl : _ = (callFunc 32 #[(.string (bstr (joinL rows)))]).run Tryd.prog w_4) (Tryd.call32 _ _)) (rsum_any (joinL rows) w_4 (by omega)) ?_
   rintro e w_5 ⟨rfl, hbs⟩
   refine ⟨_, rfl, ?_⟩
   intro a H
   have HP := HP.next hbs
   refine H.call 25 (by kernel_rfl) (Eq.trans (by kernel_rfl : _ = (callFunc 31 #[(ii ((sumP (joinL rows) : Nat) : Int))]).run Tryd.prog w_5) (Tryd.call31 _ _)) (rput_sum (joinL rows) w_5) ?_
   rintro e w_6 ⟨rfl, hbp⟩
   refine ⟨_, rfl, ?_⟩
   intro a H
   have HP := HP.next hbp
   refine H.ge HP [(7, (.string (bstr (sumC (joinL rows)))))] [] fun a H => ?_
   refine then_normal (wp_seq (wp_seq (w_region ?_)))
   refine H.go HP 4 [(29, (ii (((sumC (joinL rows)).length : Nat) : Int))), (31, (ii (((joinL rows).length : Nat) : Int)))] [] fun a H => ?_
   refine H.wi 32 ((((sumC (joinL rows)).length : Nat) : Int) + (((joinL rows).length : Nat) : Int)) fun a H => ?_
   refine H.wi 33 (((((sumC (joinL rows)).length : Nat) : Int) + (((joinL rows).length : Nat) : Int)) + 1) fun a H => ?_
   refine H.ge HP [(34, (.bool (decide ((((((sumC (joinL rows)).length : Nat) : Int) + (((joinL rows).length : Nat) : Int)) + 1) > 96))))] [] fun a H => ?_
   refine then_normal ?_
   refine w_if H rfl (fun g34 => ?_) (fun g34 => ?_)
   ·have g34p := of_decide_eq_true g34
    refine wp_seq (w_region ?_)
    refine H.ge HP [(2, (.string (bstr ([])))), (3, (ii 160))] [] fun a H => ?_
    refine then_normal (wp_ret (then_ret ?_))
    refine H.ret2 (fn := Tryd.f10) Tryd.results10 (RV.tmp_ (v := (.string (bstr ([])))) (by kernel_rfl)) (RV.tmp_ (v := (ii 160)) (by kernel_rfl)) ?_
    refine ⟨congrArg Ending.returned ?_, HP.bl⟩
    unfold blockP; rw [if_pos (by simp_all), hlay]; simp only; rw [if_neg (by omega)]; rfl
   ·have g34p := of_decide_eq_false g34
    refine wp_skip (then_normal (wp_seq (w_region ?_)))
    refine H.go HP 4 [(36, (ii (((sumC (joinL rows)).length : Nat) : Int))), (38, (ii (((joinL rows).length : Nat) : Int)))] [] fun a H => ?_
    refine H.wi 39 ((((sumC (joinL rows)).length : Nat) : Int) + (((joinL rows).length : Nat) : Int)) fun a H => ?_
    refine H.valE 40 (.int .u8 (IntKind.u8.wrap ((((sumC (joinL rows)).length : Nat) : Int) + (((joinL rows).length : Nat) : Int)))) (.int .u8 (((sumC (joinL rows)).length + (joinL rows).length : Nat) : Int)) (by kernel_rfl) (by kernel_rfl) ((by rw [wrap_inu8 _ (by omega)]; exact congrArg (Value.int .u8) (by omega))) fun a H => ?_
    refine H.alloc HP 41 (fun b => (.slice (some ⟨b, 0, none⟩) 1 1)) 5 [(.int .u8 (((sumC (joinL rows)).length + (joinL rows).length : Nat) : Int))] (by kernel_rfl) (fun w => by kernel_rfl) fun b_7 w_8 a H HP => ?_
    refine H.u 42 (.string (bstr ([UInt8.ofNat ((sumC (joinL rows)).length + (joinL rows).length)]))) (ex_b2sR (l := ([UInt8.ofNat ((sumC (joinL rows)).length + (joinL rows).length)])) (e := 5) (m := 1) (c := 1) (by kernel_rfl) (by rw [show Lib.byteCells [UInt8.ofNat ((sumC (joinL rows)).length + (joinL rows).length)] = [.int .u8 (((sumC (joinL rows)).length + (joinL rows).length : Nat) : Int)] from by simp only [Lib.byteCells, List.map_cons, List.map_nil, ofNat_toNat (show (sumC (joinL rows)).length + (joinL rows).length < 256 by omega)]]; exact Rd.of_box (HP.at_ 0 rfl) rfl) (by kernel_rfl) (by kernel_rfl) (by kernel_rfl)) fun a H => ?_
    refine H.go HP 1 [(43, (.string (bstr (sumC (joinL rows)))))] [] fun a H => ?_
    refine H.u 44 (.string (bstr (([UInt8.ofNat ((sumC (joinL rows)).length + (joinL rows).length)]) ++ (sumC (joinL rows))))) (ex_sadd (by kernel_rfl) (by kernel_rfl) (by (simp only [List.length_append, List.length_cons, List.length_nil]; omega))) fun a H => ?_
    refine H.go HP 1 [(45, (.string (bstr (joinL rows))))] [] fun a H => ?_
    refine H.u 46 (.string (bstr ((([UInt8.ofNat ((sumC (joinL rows)).length + (joinL rows).length)]) ++ (sumC (joinL rows))) ++ (joinL rows)))) (ex_sadd (by kernel_rfl) (by kernel_rfl) (by (simp only [List.length_append, List.length_cons, List.length_nil]; omega))) fun a H => ?_
    refine H.ge HP [(2, (.string (bstr ((([UInt8.ofNat ((sumC (joinL rows)).length + (joinL rows).length)]) ++ (sumC (joinL rows))) ++ (joinL rows))))), (3, (ii 0))] [] fun a H => ?_
    refine then_normal (wp_ret ?_)
    refine H.ret2 (fn := Tryd.f10) Tryd.results10 (RV.tmp_ (v := (.string (bstr ((([UInt8.ofNat ((sumC (joinL rows)).length + (joinL rows).length)]) ++ (sumC (joinL rows))) ++ (joinL rows))))) (by kernel_rfl)) (RV.tmp_ (v := (ii 0)) (by kernel_rfl)) ?_
    refine ⟨congrArg Ending.returned ?_, HP.bl⟩
    unfold blockP; rw [if_pos (by simp_all), hlay]; simp only; rw [if_pos (by omega)]; simp [blkV]
theorem u8_10 {b : UInt8} (h : b.toNat = 10) : b = 10 := (ru8_eq (n := 10) (by omega)).1 h
theorem lines_byte {t : Str} {l : List Str} {acc : Str} {i : Nat} (h : i < t.length) (hb : ((t.getD i 0).toNat : Int) ≠ 10) : l ++ splitG (acc ++ (t.drop i).take (i + 1 - i)) (t.drop (i + 1)) = l ++ splitG acc (t.drop i) := by
 rw [take_one h, rdrop_get h, splitG, if_neg fun e => hb (by rw [e]; rfl)]
theorem lines_nl {t : Str} {l : List Str} {acc : Str} {i : Nat} (h : i < t.length) (hb : ((t.getD i 0).toNat : Int) = 10) : (l ++ [acc]) ++ splitG [] (t.drop (i + 1)) = l ++ splitG acc (t.drop i) := by
 rw [rdrop_get h, splitG, if_pos (u8_10 (by omega)), List.append_assoc]
 rfl
set_option maxRecDepth 100000 in
set_option maxHeartbeats 4000000 in
theorem rlines_any (t : Str) (w : World) (hl : t.length ≤ 1000000) : Calls Tryd.prog 37 #[.string (bstr t)] w fun e w' => ∃ A c, e = .returned (.slice A (splitG [] t).length c) ∧ Below w.heap.size w w' ∧ (rowsR w.heap.size 9 1 strC okT feF (.slice A (splitG [] t).length c) (splitG [] t)).F w' := by
 have HP := Hp.start w
 refine w_enter 31 [(0, (.string (bstr t)))] Tryd.func37 rfl Tryd.ntmps37 (by kernel_rfl) (by kernel_rfl) fun a H => ?_
 refine wp_seq (w_region ?_)
 refine H.ge HP [(2, (.slice none 0 0))] [] fun a H => ?_
 refine then_normal (wp_seq (w_region ?_))
 refine H.ge HP [(3, (.slice none 0 0))] [] fun a H => ?_
 refine then_normal (wp_seq (w_region ?_))
 refine H.ge HP [(4, (.string (bstr ([]))))] [] fun a H => ?_
 refine then_normal (wp_seq (wp_seq (w_region ?_)))
 refine H.ge HP [(5, (ii 0))] [] fun a H => ?_
 refine then_normal (wp_block ?_)
 have HP := HP.nilRow w.heap.size 9 1 strC okT feF elOk_flat
 refine w_loop (fun mm a wv => ∃ (i : Nat), ∃ (WA : Option Addr), ∃ (wc : Nat), ∃ (ws : List Str), ∃ (acc : Str), t.length - i = mm ∧ Sl 31 [(5, (ii i)), (3, (.slice WA ws.length wc)), (4, (.string (bstr acc))), (2, (.slice none 0 0)), (0, (.string (bstr t)))] a ∧ Hp w wv [(rowsR w.heap.size 9 1 strC okT feF (.slice WA ws.length wc) ws)] [] ∧ (i ≤ t.length) ∧ (ws ++ splitG acc (t.drop i) = splitG [] t) ∧ (acc.length ≤ i) ∧ (ws.length ≤ i)) (t.length - 0) ?_ ?_
 ·exact ⟨0, none, 0, [], [], (by omega), H.keep (by kernel_rfl), HP, (Nat.zero_le _), rfl, (by simp), (by simp)⟩
 rintro mm a w_1 ⟨i, WA, wc, ws, acc, hmeas, H, HP, hib, hrel, hal, hwl⟩
 refine wp_seq (wp_seq (w_region ?_))
 refine H.ge HP [(9, (.bool (decide ((i : Int) < (t.length : Int)))))] [] fun a H => ?_
 refine then_normal ?_
 refine w_if H rfl (fun g9 => ?_) (fun g9 => ?_)
 ·have g9p := of_decide_eq_true g9
  refine wp_skip (then_normal (wp_seq (wp_block (wp_seq (wp_seq (w_region ?_))))))
  refine H.go HP 2 [(12, (.string (bstr t))), (13, (ii i))] [] fun a H => ?_
  refine H.u 14 (.int .u8 (((t.getD i 0).toNat : Nat) : Int)) (ex_sindex (k := .i64) (l := t) (i := (i : Int)) (m := i) (by kernel_rfl) (by kernel_rfl) (by kernel_rfl) (by omega) (by omega)) fun a H => ?_
  refine H.ge HP [(15, (.bool ((((t.getD i 0).toNat : Nat) : Int) == 10)))] [] fun a H => ?_
  refine then_normal ?_
  refine w_if H rfl (fun g15 => ?_) (fun g15 => ?_)
  ·have g15p := eq_of_beq g15
   refine wp_seq (w_region ?_)
   refine H.go HP 2 [(16, (.slice WA ws.length wc)), (17, (.string (bstr acc)))] [] fun a H => ?_
   refine H.alloc HP 18 (fun b => (.slice (some ⟨b, 0, none⟩) 1 1)) 9 [(.string (bstr acc))] (by kernel_rfl) (fun w => by kernel_rfl) fun b_2 w_3 a H HP => ?_
   have HP := HP.pend0 1 rfl elOk_flat acc [bx b_2 9 [(.string (bstr acc))] true, (rowsP w.heap.size 9 1 strC okT feF (.slice WA ws.length wc) ws acc)] (by kernel_rfl) trivial (fun _ h => h)
   refine H.push HP 19 1 0 (v := (.slice WA ws.length wc)) (e := 9) (p := acc) (l := ws) (cs := strC) (ok := okT) (fe := feF) (size := 1) (z := (.string ByteArray.empty)) (bytes := 16) (bb := b_2) (tb := 9) (fb := true) (by kernel_rfl) elOk_flat (by kernel_rfl) (by kernel_rfl) rfl (by kernel_rfl) (by kernel_rfl) (by kernel_rfl) (by kernel_rfl) (by kernel_rfl) rfl (by kernel_rfl) (by unfold maxLen; omega) (by omega) fun B_4 c_5 w_6 a H HP => ?_
   have HP : Hp w w_6 [bx b_2 9 [(.string (bstr acc))] true, (rowsR w.heap.size 9 1 strC okT feF (.slice B_4 (ws.length + 1) c_5) (ws ++ [acc]))] [] := HP
   refine H.ge HP [(3, (.slice B_4 (ws.length + 1) c_5))] [] fun a H => ?_
   refine then_normal (wp_seq (w_region ?_))
   refine H.ge HP [(4, (.string (bstr ([]))))] [] fun a H => ?_
   refine then_normal (wp_exit (then_exit ?_))
   refine w_exit_here ?_
   refine then_normal (w_region ?_)
   refine H.go HP 1 [(10, (ii i))] [] fun a H => ?_
   refine H.wi 11 ((i : Int) + 1) fun a H => ?_
   refine H.ge HP [(5, (ii ((i : Int) + 1)))] [] fun a H => ?_
   refine then_normal ?_
   have H := H.as 5 (ii ((i + 1 : Nat) : Int)) rfl rfl
   have H := H.as 3 (.slice B_4 ((ws ++ [acc]).length) c_5) rfl (congrArg (fun n => Value.slice _ n _) (len_snoc _ _))
   refine ⟨_, ?_, i + 1, B_4, c_5, ws ++ [acc], [], rfl, H.keep (by kernel_rfl), (by have hh := (HP.tail rfl); rw [← show (ws ++ [acc]).length = ws.length + 1 from (len_snoc _ _).symm] at hh; exact hh), (by omega), (by rw [← hrel]; exact lines_nl (by omega) g15p), (by simp), (by simp only [List.length_append, List.length_cons, List.length_nil]; omega)⟩
   omega
  ·have g15p := ne_of_beq_false g15
   refine wp_skip (then_normal (w_region ?_))
   refine H.go HP 4 [(20, (.string (bstr acc))), (21, (.string (bstr t))), (22, (ii i)), (23, (ii i))] [] fun a H => ?_
   refine H.valE 24 (ii (IntKind.i64.wrap ((i : Int) + 1))) (ii ((i + 1 : Nat) : Int)) (by kernel_rfl) (by kernel_rfl) ((by rw [wrap_ini64 _ (by omega)]; rfl)) fun a H => ?_
   refine H.u 25 (.string (bstr ((t.drop i).take ((i + 1) - i)))) (ex_sslice (k := .i64) (kk := .i64) (l := t) (i := (i : Int)) (j := ((i + 1 : Nat) : Int)) (a := i) (b := (i + 1)) (by kernel_rfl) (by kernel_rfl) (by kernel_rfl) (by kernel_rfl) (by omega) (by omega) (by omega) (by omega)) fun a H => ?_
   refine H.u 26 (.string (bstr (acc ++ ((t.drop i).take ((i + 1) - i))))) (ex_sadd (by kernel_rfl) (by kernel_rfl) (by (simp only [List.length_append, List.length_take, List.length_drop]; omega))) fun a H => ?_
   refine H.ge HP [(4, (.string (bstr (acc ++ ((t.drop i).take ((i + 1) - i))))))] [] fun a H => ?_
   refine inb_normal (then_normal (w_region ?_))
   refine H.go HP 1 [(10, (ii i))] [] fun a H => ?_
   refine H.wi 11 ((i : Int) + 1) fun a H => ?_
   refine H.ge HP [(5, (ii ((i : Int) + 1)))] [] fun a H => ?_
   refine then_normal ?_
   have H := H.as 5 (ii ((i + 1 : Nat) : Int)) rfl rfl
   refine ⟨_, ?_, i + 1, WA, wc, ws, acc ++ ((t.drop i).take ((i + 1) - i)), rfl, H.keep (by kernel_rfl), HP, (by omega), (by rw [← hrel]; exact lines_byte (by omega) g15p), (by simp only [List.length_append, List.length_take, List.length_drop]; omega), (by omega)⟩
   omega
 ·have g9p := of_decide_eq_false g9
  refine wp_exit (then_exit (then_exit ?_))
  refine w_exit_here ?_
  refine then_normal (wp_seq (w_region ?_))
  refine H.go HP 2 [(27, (.slice WA ws.length wc)), (28, (.string (bstr acc)))] [] fun a H => ?_
  refine H.alloc HP 29 (fun b => (.slice (some ⟨b, 0, none⟩) 1 1)) 9 [(.string (bstr acc))] (by kernel_rfl) (fun w => by kernel_rfl) fun b_7 w_8 a H HP => ?_
  have HP := HP.pend0 1 rfl elOk_flat acc [bx b_7 9 [(.string (bstr acc))] true, (rowsP w.heap.size 9 1 strC okT feF (.slice WA ws.length wc) ws acc)] (by kernel_rfl) trivial (fun _ h => h)
  refine H.push HP 30 1 0 (v := (.slice WA ws.length wc)) (e := 9) (p := acc) (l := ws) (cs := strC) (ok := okT) (fe := feF) (size := 1) (z := (.string ByteArray.empty)) (bytes := 16) (bb := b_7) (tb := 9) (fb := true) (by kernel_rfl) elOk_flat (by kernel_rfl) (by kernel_rfl) rfl (by kernel_rfl) (by kernel_rfl) (by kernel_rfl) (by kernel_rfl) (by kernel_rfl) rfl (by kernel_rfl) (by unfold maxLen; omega) (by omega) fun B_9 c_10 w_11 a H HP => ?_
  have HP : Hp w w_11 [bx b_7 9 [(.string (bstr acc))] true, (rowsR w.heap.size 9 1 strC okT feF (.slice B_9 (ws.length + 1) c_10) (ws ++ [acc]))] [] := HP
  refine H.ge HP [(2, (.slice B_9 (ws.length + 1) c_10))] [] fun a H => ?_
  refine then_normal (wp_ret ?_)
  refine H.ret1 (fn := Tryd.f37) Tryd.results37 (RV.tmp_ (v := (.slice B_9 (ws.length + 1) c_10)) (by kernel_rfl)) ?_
  have hit : i = t.length := by omega
  rw [hit, List.drop_length] at hrel
  have hF := HP.held 1 rfl
  have hw : splitG [] t = ws ++ [acc] := by rw [← hrel]; rfl
  rw [hw]
  exact ⟨B_9, c_10, by simp, HP.bl, by simpa using hF⟩
def rdecFp (b : Nat) (R : Option Addr) (m : Nat) (k : Nat) : Prop := k = b ∨ rowFp m R k
def rdecR (b : Nat) (R : Option Addr) (cr : Nat) (d : Dec) : HB := HB.of (rdecFp b R d.rows.length)
 (fun w => Box w b 64 #[.slice R d.rows.length cr, .string (bstr d.buf)] ∧ IsRow 1 strC w R d.rows ∧ ¬ rowFp d.rows.length R b) true
theorem rdecR_ok (b : Nat) (R : Option Addr) (cr : Nat) (d : Dec) : (rdecR b R cr d).ok := fun w1 w2 ⟨h1, h3, h4⟩ hk hs =>
 ⟨(hk b (.inl rfl)).trans h1, h3.keep (fun k h => hk k (.inr h)) hs, h4⟩
theorem rdec_mk {b : Nat} {R : Option Addr} {cr : Nat} {l : Str} {rows : List Str} {w : World} (hb : Box w b 64 #[.slice R rows.length cr, .string (bstr l)]) (hr : IsRow 1 strC w R rows) (h2 : ¬ rowFp rows.length R b) : (rdecR b R cr ⟨l, rows⟩).F w := ⟨hb, hr, h2⟩
def RDecPost (b : Nat) (R : Option Addr) (m : Nat) (d : Dec) (w : World) (e : Ending) (w' : World) : Prop :=
 e = .returned (.tuple #[]) ∧ ∃ R' cr', (rdecR b R' cr' d).F w' ∧ Agree w w' (fun k => k = b) ∧ ∀ k, rdecFp b R' d.rows.length k → rdecFp b R m k ∨ w.heap.size ≤ k
theorem rdec_fpe {b k : Nat} (h : rdecFp b none 0 k) : k = b := by
 rcases h with h | ⟨h, _⟩
 ·exact h
 ·omega
theorem rdec_fpN {b : Nat} {R R' : Option Addr} {m m' k n : Nat} (hn : ∀ k, rowFp m' R' k → n ≤ k) (h : rdecFp b R' m' k) : rdecFp b R m k ∨ n ≤ k := by
 rcases h with h | h
 ·exact .inl (.inl h)
 ·exact .inr (hn k h)
def FeedN (cd l : Str) (rows : List Str) (nb : Str) : Prop := (nb = [] → feedP cd ⟨l, rows⟩ = ⟨[], rows⟩) ∧ (nb ≠ [] → feedP cd ⟨l, rows⟩ = doneP ⟨nb, rows⟩)
theorem FeedN.no {cd l : Str} {rows : List Str} {nb : Str} (h : FeedN cd l rows nb) (hn : nb = []) : feedP cd ⟨l, rows⟩ = ⟨[], rows⟩ := h.1 hn
theorem FeedN.yes {cd l : Str} {rows : List Str} {nb : Str} (h : FeedN cd l rows nb) (hn : nb ≠ []) : feedP cd ⟨l, rows⟩ = doneP ⟨nb, rows⟩ := h.2 hn
theorem feedN_start {c l : Str} {rows : List Str} (h : c.length = 3) (h1 : (c.getD 0 0).toNat = 128) : FeedN c l rows (c.drop 1) :=
 ⟨fun e => by have := congrArg List.length e; rw [List.length_drop] at this; simp only [List.length_nil] at this; omega, fun _ => dfeed_start h h1⟩
theorem feedN_cont {c l : Str} {rows : List Str} (h : c.length = 3) (h1 : 192 < (c.getD 0 0).toNat) (h2 : l.length = 2 * ((c.getD 0 0).toNat - 192)) : FeedN c l rows (l ++ c.drop 1) :=
 ⟨fun e => by have := congrArg List.length e; rw [List.length_append, List.length_drop] at this; simp only [List.length_nil] at this; omega, fun _ => dfeed_cont h h1 h2⟩
theorem feedN_no {c l : Str} {rows : List Str} (h : c.length = 3) (h1 : (c.getD 0 0).toNat ≠ 64) (h2 : (c.getD 0 0).toNat ≠ 128) (h3 : ¬ (192 < (c.getD 0 0).toNat ∧ l.length = 2 * ((c.getD 0 0).toNat - 192))) : FeedN c l rows [] :=
 ⟨fun _ => dfeed_no h h1 h2 h3, fun h => absurd rfl h⟩
theorem feed_few {c l : Str} {rows : List Str} (h : c.length ≠ 3 ∨ (c.getD 0 0).toNat < 64) : feedP c ⟨l, rows⟩ = ⟨[], rows⟩ := by
 by_cases h3 : c.length = 3
 ·exact dfeed_no h3 (by omega) (by omega) (fun h => by omega)
 ·exact dfeed_bad h3
theorem rintU_any (s : Str) (w : World) (hs : s.length ≤ 1000000) : Calls Tryd.prog 36 #[.string (bstr s), .int .i64 0] w fun e w' => ∃ n k er, e = .returned (.tuple #[.int .i64 n, .int .i64 ((k : Nat) : Int), .int .i64 er]) ∧ Below w.heap.size w w' ∧ (er = 0 → rdInt s 0 = some (n, k) ∧ k ≤ s.length) ∧ (er ≠ 0 → rdInt s 0 = none) := by
 refine (rint_any s 0 w hs (Nat.zero_le _)).mono ?_
 rintro e w' ⟨rfl, hb⟩
 cases h : rdInt s 0 with
 | none => exact ⟨0, 0, 10, rfl, hb, (fun h => by cases h), fun _ => rfl⟩
 | some p =>
  obtain ⟨n, k⟩ := p
  exact ⟨n, k, 0, rfl, hb, (fun _ => ⟨rfl, (rdInt_canon (Nat.zero_le _) h).2.2.2.1⟩), fun h => absurd rfl h⟩
set_option maxRecDepth 100000 in
set_option maxHeartbeats 4000000 in
theorem rnew_any (w : World) : Calls Tryd.prog 12 #[] w fun e w' => ∃ b, e = .returned (pt b 0) ∧ (rdecR b none 0 ⟨[], []⟩).F w' ∧ Below w.heap.size w w' ∧ ∀ k, rdecFp b none 0 k → w.heap.size ≤ k := by
 have HP := Hp.start w
 refine w_enter 3 [] Tryd.func12 rfl Tryd.ntmps12 (by kernel_rfl) (by kernel_rfl) fun a H => ?_
 refine wp_seq (w_region ?_)
 refine H.ge HP [(0, (.pointer none))] [] fun a H => ?_
 refine then_normal (wp_seq (w_region ?_))
 refine H.go HP 1 [(1, (.agg #[(.slice none 0 0), (.string (bstr ([])))]))] [] fun a H => ?_
 refine H.alloc HP 2 (fun b => (pt b 0)) 64 [(.slice none 0 0), (.string (bstr ([])))] (by kernel_rfl) (fun w => by kernel_rfl) fun b_1 w_2 a H HP => ?_
 refine H.ge HP [(0, (pt b_1 0))] [] fun a H => ?_
 refine then_normal (wp_ret ?_)
 refine H.ret1 (fn := Tryd.f12) Tryd.results12 (RV.tmp_ (v := (pt b_1 0)) (by kernel_rfl)) ?_
 exact ⟨b_1, rfl, rdec_mk (HP.at_ 0 rfl) (IsRow_nil _ _ _) (fun h => by have h0 : 0 < 0 := h.1; omega), HP.bl, fun k hk => HP.fresh _ (List.mem_singleton.2 rfl) rfl k (rdec_fpe hk)⟩
set_option maxRecDepth 100000 in
set_option maxHeartbeats 4000000 in
theorem rsize_any (b : Nat) (R : Option Addr) (cr : Nat) (l : Str) (rows : List Str) (w : World) (hd : (rdecR b R cr ⟨l, rows⟩).F w) : Calls Tryd.prog 22 #[.pointer (some ⟨b, 0, none⟩)] w fun e w' => e = .returned (ii l.length) ∧ Below w.heap.size w w' := by
 obtain ⟨hbx, hr, hs2⟩ := hd
 have hbx : Box w b 64 #[.slice R rows.length cr, .string (bstr l)] := hbx
 have HP := (Hp.own hbx).keepF (rowF 1 strC R rows) hr (rowF_ok _ _ _ _) fun k hk => ⟨hr.lt k hk, fun x hx => by rcases List.mem_singleton.1 hx with rfl; exact fun e => hs2 (by have e : k = b := e; exact e ▸ hk)⟩
 refine w_enter 8 [(0, (pt b 0))] Tryd.func22 rfl Tryd.ntmps22 (by kernel_rfl) (by kernel_rfl) fun a H => ?_
 refine wp_seq (w_region ?_)
 refine H.ge HP [(2, (ii 0))] [] fun a H => ?_
 refine then_normal (wp_seq (w_region ?_))
 refine H.ge HP [(3, (pt b 0)), (4, (pt b 0)), (5, (pt b 1)), (2, (ii l.length))] [0] fun a H => ?_
 refine then_normal (wp_ret ?_)
 refine H.ret1 (fn := Tryd.f22) Tryd.results22 (RV.tmp_ (v := (ii l.length)) (by kernel_rfl)) ?_
 exact ⟨rfl, Below.refl _ _⟩
set_option maxRecDepth 100000 in
set_option maxHeartbeats 4000000 in
theorem rdrows_any (b : Nat) (R : Option Addr) (cr : Nat) (l : Str) (rows : List Str) (w : World) (hd : (rdecR b R cr ⟨l, rows⟩).F w) : Calls Tryd.prog 20 #[.pointer (some ⟨b, 0, none⟩)] w fun e w' => e = .returned (.slice R rows.length cr) ∧ Below w.heap.size w w' := by
 obtain ⟨hbx, hr, hs2⟩ := hd
 have hbx : Box w b 64 #[.slice R rows.length cr, .string (bstr l)] := hbx
 have HP := (Hp.own hbx).keepF (rowF 1 strC R rows) hr (rowF_ok _ _ _ _) fun k hk => ⟨hr.lt k hk, fun x hx => by rcases List.mem_singleton.1 hx with rfl; exact fun e => hs2 (by have e : k = b := e; exact e ▸ hk)⟩
 refine w_enter 7 [(0, (pt b 0))] Tryd.func20 rfl Tryd.ntmps20 (by kernel_rfl) (by kernel_rfl) fun a H => ?_
 refine wp_seq (w_region ?_)
 refine H.ge HP [(2, (.slice none 0 0))] [] fun a H => ?_
 refine then_normal (wp_seq (w_region ?_))
 refine H.ge HP [(3, (pt b 0)), (4, (pt b 0)), (5, (pt b 0)), (2, (.slice R rows.length cr))] [0] fun a H => ?_
 refine then_normal (wp_ret ?_)
 refine H.ret1 (fn := Tryd.f20) Tryd.results20 (RV.tmp_ (v := (.slice R rows.length cr)) (by kernel_rfl)) ?_
 exact ⟨rfl, Below.refl _ _⟩
set_option maxRecDepth 100000 in
set_option maxHeartbeats 4000000 in
theorem rfeed_any (b : Nat) (R : Option Addr) (cr : Nat) (l : Str) (rows : List Str) (cd : Str) (w : World) (hd : (rdecR b R cr ⟨l, rows⟩).F w) (hl : l.length ≤ 95) :
  Calls Tryd.prog 17 #[.pointer (some ⟨b, 0, none⟩), .string (bstr cd)] w (RDecPost b R rows.length (feedP cd ⟨l, rows⟩) w) := by
 obtain ⟨hbx, hr, hs2⟩ := hd
 have hbx : Box w b 64 #[.slice R rows.length cr, .string (bstr l)] := hbx
 have HP := (Hp.own hbx).keepF (rowF 1 strC R rows) hr (rowF_ok _ _ _ _) fun k hk => ⟨hr.lt k hk, fun x hx => by rcases List.mem_singleton.1 hx with rfl; exact fun e => hs2 (by have e : k = b := e; exact e ▸ hk)⟩
 refine w_enter 118 [(0, (pt b 0)), (1, (.string (bstr cd)))] Tryd.func17 rfl Tryd.ntmps17 (by kernel_rfl) (by kernel_rfl) fun a H => ?_
 refine wp_seq (w_region ?_)
 refine H.ge HP [(4, (.string (bstr l)))] [0] fun a H => ?_
 refine then_normal (wp_seq (w_region ?_))
 refine H.go HP 3 [(16, (pt b 1))] [] fun a H => ?_
 refine H.sh HP 0 1 (.string (bstr ([]))) rfl fun w_1 a H HP => ?_
 refine wpList_nil (then_normal (wp_seq (wp_seq ?_)))
 have hx0 := (cd.getD 0 0).toNat_lt
 refine w_region ?_
 refine H.go HP 4 [(20, (.bool ((cd.length : Int) != 3)))] [] fun a H => ?_
 refine H.split 20 rfl (fun g20 H => ?_) (fun g20 H => ?_)
 ·have g20p := bne_iff_ne.1 g20
  refine H.ge HP [(24, (.bool true))] [] fun a H => ?_
  refine then_normal ?_
  refine w_ift H rfl ?_
  refine wp_ret (then_ret ?_)
  refine H.ret0 (fn := Tryd.f17) Tryd.results17  ?_
  have HP : Hp w w_1 [bx b 64 [(.slice R rows.length cr), (.string (bstr ([])))] false] [rowF 1 strC R rows] := HP
  have hbx := HP.at_ 0 rfl
  rw [feed_few (by omega)]
  exact ⟨rfl, R, cr, rdec_mk hbx (HP.fact 0 rfl) hs2, (HP.agreeF _ fun x hx => by simp only [List.mem_cons, List.not_mem_nil, or_false] at hx; rcases hx with rfl <;> simp [bx, rowsR]), fun k hk => .inl hk⟩
 ·have g20p := eq_of_bne_false g20
  refine H.go HP 1 [(21, (.string (bstr cd)))] [] fun a H => ?_
  refine H.u 22 (.int .u8 (((cd.getD 0 0).toNat : Nat) : Int)) (ex_sindex (k := .i64) (l := cd) (i := 0) (m := 0) (by kernel_rfl) (by kernel_rfl) (by kernel_rfl) (by omega) (by (first | omega | (have := (hw0 (by assumption)).2; omega)))) fun a H => ?_
  refine H.ge HP [(24, (.bool (decide ((((cd.getD 0 0).toNat : Nat) : Int) < 64))))] [] fun a H => ?_
  refine then_normal ?_
  refine w_if H rfl (fun g24 => ?_) (fun g24 => ?_)
  ·have g24p := of_decide_eq_true g24
   refine wp_ret (then_ret ?_)
   refine H.ret0 (fn := Tryd.f17) Tryd.results17  ?_
   have HP : Hp w w_1 [bx b 64 [(.slice R rows.length cr), (.string (bstr ([])))] false] [rowF 1 strC R rows] := HP
   have hbx := HP.at_ 0 rfl
   rw [feed_few (by omega)]
   exact ⟨rfl, R, cr, rdec_mk hbx (HP.fact 0 rfl) hs2, (HP.agreeF _ fun x hx => by simp only [List.mem_cons, List.not_mem_nil, or_false] at hx; rcases hx with rfl <;> simp [bx, rowsR]), fun k hk => .inl hk⟩
  ·have g24p := of_decide_eq_false g24
   refine wp_skip (then_normal (wp_seq (wp_seq (w_region ?_))))
   refine H.go HP 1 [(25, (.string (bstr cd)))] [] fun a H => ?_
   refine H.u 26 (.int .u8 (((cd.getD 0 0).toNat : Nat) : Int)) (ex_sindex (k := .i64) (l := cd) (i := 0) (m := 0) (by kernel_rfl) (by kernel_rfl) (by kernel_rfl) (by omega) (by (first | omega | (have := (hw0 (by assumption)).2; omega)))) fun a H => ?_
   refine H.ge HP [(27, (.bool (decide ((((cd.getD 0 0).toNat : Nat) : Int) < 128))))] [] fun a H => ?_
   refine then_normal ?_
   refine w_if H rfl (fun g27 => ?_) (fun g27 => ?_)
   ·have g27p := of_decide_eq_true g27
    refine wp_seq (wp_seq (w_region ?_))
    refine H.go HP 1 [(28, (.string (bstr cd)))] [] fun a H => ?_
    refine H.u 29 (.int .u8 (((cd.getD 0 0).toNat : Nat) : Int)) (ex_sindex (k := .i64) (l := cd) (i := 0) (m := 0) (by kernel_rfl) (by kernel_rfl) (by kernel_rfl) (by omega) (by (first | omega | (have := (hw0 (by assumption)).2; omega)))) fun a H => ?_
    refine H.ge HP [(30, (.bool ((((cd.getD 0 0).toNat : Nat) : Int) == 64)))] [] fun a H => ?_
    refine then_normal ?_
    refine w_if H rfl (fun g30 => ?_) (fun g30 => ?_)
    ·have g30p := eq_of_beq g30
     refine w_region ?_
     refine H.go HP 3 [(33, (pt b 0))] [] fun a H => ?_
     refine H.sh HP 0 0 (.slice none 0 0) rfl fun w_2 a H HP => ?_
     refine wpList_nil (then_normal (wp_ret (then_ret ?_)))
     refine H.ret0 (fn := Tryd.f17) Tryd.results17  ?_
     have HP : Hp w w_2 [bx b 64 [(.slice none 0 0), (.string (bstr ([])))] false] [rowF 1 strC R rows] := HP
     have hbx := HP.at_ 0 rfl
     rw [dfeed_clear (by omega) (by omega)]
     exact ⟨rfl, none, 0, rdec_mk hbx (IsRow_nil _ _ _) (fun h => by have h0 : 0 < 0 := h.1; omega), (HP.agreeF _ fun x hx => by simp only [List.mem_cons, List.not_mem_nil, or_false] at hx; rcases hx with rfl <;> simp [bx, rowsR]), fun k hk => .inl (.inl (rdec_fpe hk))⟩
    ·have g30p := ne_of_beq_false g30
     refine wp_skip (then_normal (wp_ret (then_ret ?_)))
     refine H.ret0 (fn := Tryd.f17) Tryd.results17  ?_
     have HP : Hp w w_1 [bx b 64 [(.slice R rows.length cr), (.string (bstr ([])))] false] [rowF 1 strC R rows] := HP
     have hbx := HP.at_ 0 rfl
     rw [dfeed_no (by omega) (by omega) (by omega) (fun h => by omega)]
     exact ⟨rfl, R, cr, rdec_mk hbx (HP.fact 0 rfl) hs2, (HP.agreeF _ fun x hx => by simp only [List.mem_cons, List.not_mem_nil, or_false] at hx; rcases hx with rfl <;> simp [bx, rowsR]), fun k hk => .inl hk⟩
   ·have g27p := of_decide_eq_false g27
    refine wp_skip (then_normal (wp_seq (wp_seq (w_region ?_))))
    refine H.go HP 1 [(34, (.string (bstr cd)))] [] fun a H => ?_
    refine H.u 35 (.int .u8 (((cd.getD 0 0).toNat : Nat) : Int)) (ex_sindex (k := .i64) (l := cd) (i := 0) (m := 0) (by kernel_rfl) (by kernel_rfl) (by kernel_rfl) (by omega) (by (first | omega | (have := (hw0 (by assumption)).2; omega)))) fun a H => ?_
    refine H.ge HP [(36, (.bool ((((cd.getD 0 0).toNat : Nat) : Int) == 128)))] [] fun a H => ?_
    refine then_normal ?_
    refine w_if H rfl (fun g36 => ?_) (fun g36 => ?_)
    ·have g36p := eq_of_beq g36
     refine w_region ?_
     refine H.go HP 2 [(37, (pt b 0)), (38, (.string (bstr cd)))] [] fun a H => ?_
     refine H.u 39 (.string (bstr (cd.drop 1))) (ex_ssliceL (k := .i64) (l := cd) (i := 1) (a := 1) (by kernel_rfl) (by kernel_rfl) (by kernel_rfl) (by omega) (by (first | omega | (have := (hw0 (by assumption)).2; omega)))) fun a H => ?_
     refine H.go HP 2 [(41, (pt b 1))] [] fun a H => ?_
     refine H.sh HP 0 1 (.string (bstr (cd.drop 1))) rfl fun w_3 a H HP => ?_
     refine wpList_nil (then_normal ?_)
     refine w_cut (fun a wv => ∃ (nb : Str), Sl 118 [(0, (pt b 0)), (1, (.string (bstr cd)))] a ∧ Hp w wv [bx b 64 [(.slice R rows.length cr), (.string (bstr nb))] false] [rowF 1 strC R rows] ∧ (FeedN cd l rows nb) ∧ (nb.length ≤ 1000)) ?_ ?_
     ·
      refine wp_seq (w_region ?_)
      refine H.go HP 1 [(42, (.string (bstr cd)))] [] fun a H => ?_
      refine H.u 43 (.int .u8 (((cd.getD 0 0).toNat : Nat) : Int)) (ex_sindex (k := .i64) (l := cd) (i := 0) (m := 0) (by kernel_rfl) (by kernel_rfl) (by kernel_rfl) (by omega) (by (first | omega | (have := (hw0 (by assumption)).2; omega)))) fun a H => ?_
      refine H.go HP 2 [(45, (.bool (decide ((((cd.getD 0 0).toNat : Nat) : Int) > 192))))] [] fun a H => ?_
      refine H.split 45 rfl (fun g45 H => ?_) (fun g45 H => ?_)
      ·have g45p := of_decide_eq_true g45
       refine H.go HP 3 [(47, (ii l.length)), (48, (.string (bstr cd)))] [] fun a H => ?_
       refine H.u 49 (.int .u8 (((cd.getD 0 0).toNat : Nat) : Int)) (ex_sindex (k := .i64) (l := cd) (i := 0) (m := 0) (by kernel_rfl) (by kernel_rfl) (by kernel_rfl) (by omega) (by (first | omega | (have := (hw0 (by assumption)).2; omega)))) fun a H => ?_
       refine H.valE 50 (.int .u8 (IntKind.u8.wrap ((((cd.getD 0 0).toNat : Nat) : Int) - 192))) (.int .u8 (((cd.getD 0 0).toNat - 192 : Nat) : Int)) (by kernel_rfl) (by kernel_rfl) ((by rw [wrap_inu8 _ (by omega)]; exact congrArg (Value.int .u8) (by omega))) fun a H => ?_
       refine H.valE 51 (ii (IntKind.i64.wrap (((cd.getD 0 0).toNat - 192 : Nat) : Int))) (ii (((cd.getD 0 0).toNat - 192 : Nat) : Int)) (by kernel_rfl) (by kernel_rfl) ((by rw [wrap_ini64 _ (by omega)])) fun a H => ?_
       refine H.valE 52 (ii (IntKind.i64.wrap (2 * (((cd.getD 0 0).toNat - 192 : Nat) : Int)))) (ii ((2 * ((cd.getD 0 0).toNat - 192) : Nat) : Int)) (by kernel_rfl) (by kernel_rfl) ((by rw [wrap_ini64 _ (by omega)]; exact congrArg (Value.int .i64) (by omega))) fun a H => ?_
       refine H.ge HP [(54, (.bool ((l.length : Int) == ((2 * ((cd.getD 0 0).toNat - 192) : Nat) : Int))))] [] fun a H => ?_
       refine then_normal ?_
       refine w_if H rfl (fun g54 => ?_) (fun g54 => ?_)
       ·have g54p := eq_of_beq g54
        refine w_region ?_
        refine H.go HP 3 [(55, (pt b 0)), (56, (.string (bstr l))), (57, (.string (bstr cd)))] [] fun a H => ?_
        refine H.u 58 (.string (bstr (cd.drop 1))) (ex_ssliceL (k := .i64) (l := cd) (i := 1) (a := 1) (by kernel_rfl) (by kernel_rfl) (by kernel_rfl) (by omega) (by (first | omega | (have := (hw0 (by assumption)).2; omega)))) fun a H => ?_
        refine H.u 59 (.string (bstr (l ++ (cd.drop 1)))) (ex_sadd (by kernel_rfl) (by kernel_rfl) (by (simp only [List.length_append, List.length_drop]; omega))) fun a H => ?_
        refine H.go HP 2 [(61, (pt b 1))] [] fun a H => ?_
        refine H.sh HP 0 1 (.string (bstr (l ++ (cd.drop 1)))) rfl fun w_4 a H HP => ?_
        refine wpList_nil (then_normal ?_)
        exact ⟨l ++ (cd.drop 1), H.keep (by kernel_rfl), HP, (by exfalso; omega), (by exfalso; omega)⟩
       ·have g54p := ne_of_beq_false g54
        refine wp_skip (then_normal ?_)
        exact ⟨cd.drop 1, H.keep (by kernel_rfl), HP, (feedN_start (by omega) (by omega)), (by rw [List.length_drop]; omega)⟩
      ·have g45p := of_decide_eq_false g45
       refine H.ge HP [(54, (.bool false))] [] fun a H => ?_
       refine then_normal ?_
       refine w_iff H rfl ?_
       refine wp_skip (then_normal ?_)
       exact ⟨cd.drop 1, H.keep (by kernel_rfl), HP, (feedN_start (by omega) (by omega)), (by rw [List.length_drop]; omega)⟩
     ·
      rintro a w_5 ⟨nb, H, HP, hnb, hnl⟩
      refine wp_seq (wp_seq (w_region ?_))
      refine H.go HP 4 [(65, (.string (bstr nb)))] [0] fun a H => ?_
      refine H.valE 66 (.bool ((bstr nb).toList == (bstr ([])).toList)) (.bool (nb == ([]))) (by kernel_rfl) (by kernel_rfl) ((congrArg Value.bool (bstr_eq _ _))) fun a H => ?_
      refine wpList_nil (then_normal ?_)
      refine w_if H rfl (fun g66 => ?_) (fun g66 => ?_)
      ·have g66p := eq_of_beq g66
       refine wp_ret (then_ret ?_)
       refine H.ret0 (fn := Tryd.f17) Tryd.results17  ?_
       have HP : Hp w w_5 [bx b 64 [(.slice R rows.length cr), (.string (bstr nb))] false] [rowF 1 strC R rows] := HP
       have hbx := HP.at_ 0 rfl
       have hn0 : nb = [] := by simpa using g66p
       rw [hn0] at hbx
       rw [hnb.no hn0]
       exact ⟨rfl, R, cr, rdec_mk hbx (HP.fact 0 rfl) hs2, (HP.agreeF _ fun x hx => by simp only [List.mem_cons, List.not_mem_nil, or_false] at hx; rcases hx with rfl <;> simp [bx, rowsR]), fun k hk => .inl hk⟩
      ·have g66p := ne_of_beq_false g66
       refine wp_skip (then_normal (wp_seq ?_))
       have hn0 : nb ≠ [] := by simpa using g66p
       have hnp := List.length_pos_iff.2 hn0
       have hfd := hnb.yes hn0
       obtain ⟨nn, hnn⟩ : ∃ n, (nb.getD 0 0).toNat = n := ⟨_, rfl⟩
       have hnn2 : nn < 256 := by rw [← hnn]; exact (nb.getD 0 0).toNat_lt
       refine w_region ?_
       refine H.go HP 4 [(70, (.string (bstr nb)))] [0] fun a H => ?_
       refine H.u 71 (.int .u8 (((nb.getD 0 0).toNat : Nat) : Int)) (ex_sindex (k := .i64) (l := nb) (i := 0) (m := 0) (by kernel_rfl) (by kernel_rfl) (by kernel_rfl) (by omega) (by (first | omega | (have := (hw0 (by assumption)).2; omega)))) fun a H => ?_
       refine H.valE 72 (ii (IntKind.i64.wrap (((nb.getD 0 0).toNat : Nat) : Int))) (ii nn) (by kernel_rfl) (by kernel_rfl) ((by rw [wrap_ini64 _ (by omega), hnn])) fun a H => ?_
       refine H.ge HP [(5, (ii nn))] [] fun a H => ?_
       refine then_normal (wp_seq (wp_seq (w_region ?_)))
       refine H.ge HP [(74, (.bool (decide ((nn : Int) > 95))))] [] fun a H => ?_
       refine then_normal ?_
       refine w_if H rfl (fun g74 => ?_) (fun g74 => ?_)
       ·have g74p := of_decide_eq_true g74
        refine wp_seq (w_region ?_)
        refine H.go HP 3 [(77, (pt b 1))] [] fun a H => ?_
        refine H.sh HP 0 1 (.string (bstr ([]))) rfl fun w_6 a H HP => ?_
        refine wpList_nil (then_normal (wp_ret (then_ret ?_)))
        refine H.ret0 (fn := Tryd.f17) Tryd.results17  ?_
        have HP : Hp w w_6 [bx b 64 [(.slice R rows.length cr), (.string (bstr ([])))] false] [rowF 1 strC R rows] := HP
        have hbx := HP.at_ 0 rfl
        rw [hfd, dec_done1 (by rw [hnn]; omega)]
        exact ⟨rfl, R, cr, rdec_mk hbx (HP.fact 0 rfl) hs2, (HP.agreeF _ fun x hx => by simp only [List.mem_cons, List.not_mem_nil, or_false] at hx; rcases hx with rfl <;> simp [bx, rowsR]), fun k hk => .inl hk⟩
       ·have g74p := of_decide_eq_false g74
        refine wp_skip (then_normal (wp_seq (wp_seq (w_region ?_))))
        refine H.ge HP [(84, (.bool (decide ((nb.length : Int) ≤ (nn : Int)))))] [0] fun a H => ?_
        refine then_normal ?_
        refine w_if H rfl (fun g84 => ?_) (fun g84 => ?_)
        ·have g84p := of_decide_eq_true g84
         refine wp_ret (then_ret ?_)
         refine H.ret0 (fn := Tryd.f17) Tryd.results17  ?_
         have HP : Hp w w_5 [bx b 64 [(.slice R rows.length cr), (.string (bstr nb))] false] [rowF 1 strC R rows] := HP
         have hbx := HP.at_ 0 rfl
         rw [hfd, dec_done2 (by rw [hnn]; omega) (by rw [hnn]; omega)]
         exact ⟨rfl, R, cr, rdec_mk hbx (HP.fact 0 rfl) hs2, (HP.agreeF _ fun x hx => by simp only [List.mem_cons, List.not_mem_nil, or_false] at hx; rcases hx with rfl <;> simp [bx, rowsR]), fun k hk => .inl hk⟩
        ·have g84p := of_decide_eq_false g84
         refine wp_skip (then_normal (wp_seq (w_region ?_)))
         refine H.go HP 5 [(88, (.string (bstr nb))), (89, (ii nn))] [0] fun a H => ?_
         refine H.valE 90 (ii (IntKind.i64.wrap (1 + (nn : Int)))) (ii ((nn + 1 : Nat) : Int)) (by kernel_rfl) (by kernel_rfl) ((by rw [wrap_ini64 _ (by omega)]; exact congrArg (Value.int .i64) (by omega))) fun a H => ?_
         refine H.u 91 (.string (bstr ((nb.drop 1).take ((nn + 1) - 1)))) (ex_sslice (k := .i64) (kk := .i64) (l := nb) (i := 1) (j := ((nn + 1 : Nat) : Int)) (a := 1) (b := (nn + 1)) (by kernel_rfl) (by kernel_rfl) (by kernel_rfl) (by kernel_rfl) (by omega) (by omega) (by (first | omega | (have := (hw0 (by assumption)).2; omega))) (by (first | omega | (have := (hw0 (by assumption)).2; omega)))) fun a H => ?_
         refine H.ge HP [(6, (.string (bstr ((nb.drop 1).take ((nn + 1) - 1)))))] [] fun a H => ?_
         refine then_normal (wp_seq (w_region ?_))
         refine H.go HP 3 [(94, (pt b 1))] [] fun a H => ?_
         refine H.sh HP 0 1 (.string (bstr ([]))) rfl fun w_7 a H HP => ?_
         refine wpList_nil (then_normal (wp_seq ?_))
         obtain ⟨bk, hbkd⟩ : ∃ x, (nb.drop 1).take (nn + 1 - 1) = x := ⟨_, rfl⟩
         have hbk : bk.length = nn := by rw [← hbkd, List.length_take, List.length_drop]; omega
         have H := H.as 6 (.string (bstr bk)) rfl (congrArg (fun x => Value.string (bstr x)) hbkd)
         refine w_region ?_
         refine H.go HP 1 [(96, (.string (bstr bk)))] [] fun a H => ?_
         refine H.call 97 (by kernel_rfl) (Eq.trans (by kernel_rfl : _ = (callFunc 36 #[(.string (bstr bk)), (ii 0)]).run Tryd.prog w_7) (Tryd.call36 _ _)) (rintU_any bk w_7 (by omega)) ?_
         rintro e w_8 ⟨sm, ka, er, rfl, hbw, hw0, hw1⟩
         refine ⟨_, rfl, ?_⟩
         intro a H
         have HP := HP.next hbw
         refine H.ge HP [(7, (ii sm)), (8, (ii ka)), (9, (ii er))] [] fun a H => ?_
         refine then_normal (wp_seq (wp_seq (w_region ?_)))
         refine H.go HP 3 [(103, (.bool (er != 0)))] [] fun a H => ?_
         refine H.split 103 rfl (fun g103 H => ?_) (fun g103 H => ?_)
         ·have g103p := bne_iff_ne.1 g103
          refine H.ge HP [(110, (.bool true))] [] fun a H => ?_
          refine then_normal ?_
          refine w_ift H rfl ?_
          refine wp_ret (then_ret ?_)
          refine H.ret0 (fn := Tryd.f17) Tryd.results17  ?_
          have HP : Hp w w_8 [bx b 64 [(.slice R rows.length cr), (.string (bstr ([])))] false] [rowF 1 strC R rows] := HP
          have hbx := HP.at_ 0 rfl
          rw [hfd, dec_done3 (bk := bk) (by rw [hnn]; omega) (by rw [hnn]; omega) (by rw [hnn]; exact hbkd) (show_no1 (hw1 (by omega)))]
          exact ⟨rfl, R, cr, rdec_mk hbx (HP.fact 0 rfl) hs2, (HP.agreeF _ fun x hx => by simp only [List.mem_cons, List.not_mem_nil, or_false] at hx; rcases hx with rfl <;> simp [bx, rowsR]), fun k hk => .inl hk⟩
         ·have g103p := eq_of_bne_false g103
          refine H.go HP 3 [(104, (ii sm)), (105, (.string (bstr bk))), (106, (ii ka))] [] fun a H => ?_
          refine H.u 107 (.string (bstr (bk.drop ka))) (ex_ssliceL (k := .i64) (l := bk) (i := (ka : Int)) (a := ka) (by kernel_rfl) (by kernel_rfl) (by kernel_rfl) (by omega) (by (first | omega | (have := (hw0 (by assumption)).2; omega)))) fun a H => ?_
          refine H.call 108 (by kernel_rfl) (Eq.trans (by kernel_rfl : _ = (callFunc 32 #[(.string (bstr (bk.drop ka)))]).run Tryd.prog w_8) (Tryd.call32 _ _)) (rsum_any (bk.drop ka) w_8 (by rw [List.length_drop]; omega)) ?_
          rintro e w_9 ⟨rfl, hbs⟩
          refine ⟨_, rfl, ?_⟩
          intro a H
          have HP := HP.next hbs
          refine H.ge HP [(110, (.bool (sm != ((sumP (bk.drop ka) : Nat) : Int))))] [] fun a H => ?_
          refine then_normal ?_
          refine w_if H rfl (fun g110 => ?_) (fun g110 => ?_)
          ·have g110p := bne_iff_ne.1 g110
           refine wp_ret (then_ret ?_)
           refine H.ret0 (fn := Tryd.f17) Tryd.results17  ?_
           have HP : Hp w w_9 [bx b 64 [(.slice R rows.length cr), (.string (bstr ([])))] false] [rowF 1 strC R rows] := HP
           have hbx := HP.at_ 0 rfl
           rw [hfd, dec_done3 (bk := bk) (by rw [hnn]; omega) (by rw [hnn]; omega) (by rw [hnn]; exact hbkd) (show_no2 (hw0 (by omega)).1 (by omega))]
           exact ⟨rfl, R, cr, rdec_mk hbx (HP.fact 0 rfl) hs2, (HP.agreeF _ fun x hx => by simp only [List.mem_cons, List.not_mem_nil, or_false] at hx; rcases hx with rfl <;> simp [bx, rowsR]), fun k hk => .inl hk⟩
          ·have g110p := eq_of_bne_false g110
           refine wp_skip (then_normal (w_region ?_))
           refine H.go HP 3 [(111, (pt b 0)), (112, (.string (bstr bk))), (113, (ii ka))] [] fun a H => ?_
           refine H.u 114 (.string (bstr (bk.drop ka))) (ex_ssliceL (k := .i64) (l := bk) (i := (ka : Int)) (a := ka) (by kernel_rfl) (by kernel_rfl) (by kernel_rfl) (by omega) (by (first | omega | (have := (hw0 (by assumption)).2; omega)))) fun a H => ?_
           refine H.call 115 (by kernel_rfl) (Eq.trans (by kernel_rfl : _ = (callFunc 37 #[(.string (bstr (bk.drop ka)))]).run Tryd.prog w_9) (Tryd.call37 _ _)) (rlines_any (bk.drop ka) w_9 (by rw [List.length_drop]; omega)) ?_
           rintro e w_10 ⟨R2, cr2, rfl, hbs, hrw⟩
           refine ⟨_, rfl, ?_⟩
           intro a H
           have HP := HP.gain hbs _ hrw (rowsR_ok elOk_flat) (fun k hk => (rows_lt hrw hk).1) (fun k hk => (rows_lt hrw hk).2)
           refine H.go HP 2 [(117, (pt b 0))] [] fun a H => ?_
           refine H.sh HP 1 0 (.slice R2 ((splitG [] (bk.drop ka)).length) cr2) rfl fun w_11 a H HP => ?_
           refine wpList_nil ?_
           refine H.end0 (fn := Tryd.f17) Tryd.results17  ?_
           have HP : Hp w w_11 [(rowsR w_9.heap.size 9 1 strC okT feF (.slice R2 (splitG [] (bk.drop ka)).length cr2) (splitG [] (bk.drop ka))), bx b 64 [(.slice R2 ((splitG [] (bk.drop ka)).length) cr2), (.string (bstr ([])))] false] [rowF 1 strC R rows] := HP
           have hbx := HP.at_ 1 rfl
           rw [hfd, dec_done3 (bk := bk) (by rw [hnn]; omega) (by rw [hnn]; omega) (by rw [hnn]; exact hbkd) (show_yes (hw0 (by omega)).1 (by omega))]
           exact ⟨rfl, R2, cr2, rdec_mk hbx (IsRow.ofRows (HP.held 0 rfl)) (fun h => HP.row_off 0 rfl 1 rfl h), (HP.agreeF _ fun x hx => by simp only [List.mem_cons, List.not_mem_nil, or_false] at hx; rcases hx with rfl | rfl <;> simp [bx, rowsR]), fun k hk => rdec_fpN (fun k h => HP.row_new 0 rfl h) hk⟩
    ·have g36p := ne_of_beq_false g36
     refine wp_skip (then_normal ?_)
     refine w_cut (fun a wv => ∃ (nb : Str), Sl 118 [(0, (pt b 0)), (1, (.string (bstr cd)))] a ∧ Hp w wv [bx b 64 [(.slice R rows.length cr), (.string (bstr nb))] false] [rowF 1 strC R rows] ∧ (FeedN cd l rows nb) ∧ (nb.length ≤ 1000)) ?_ ?_
     ·
      refine wp_seq (w_region ?_)
      refine H.go HP 1 [(42, (.string (bstr cd)))] [] fun a H => ?_
      refine H.u 43 (.int .u8 (((cd.getD 0 0).toNat : Nat) : Int)) (ex_sindex (k := .i64) (l := cd) (i := 0) (m := 0) (by kernel_rfl) (by kernel_rfl) (by kernel_rfl) (by omega) (by (first | omega | (have := (hw0 (by assumption)).2; omega)))) fun a H => ?_
      refine H.go HP 2 [(45, (.bool (decide ((((cd.getD 0 0).toNat : Nat) : Int) > 192))))] [] fun a H => ?_
      refine H.split 45 rfl (fun g45 H => ?_) (fun g45 H => ?_)
      ·have g45p := of_decide_eq_true g45
       refine H.go HP 3 [(47, (ii l.length)), (48, (.string (bstr cd)))] [] fun a H => ?_
       refine H.u 49 (.int .u8 (((cd.getD 0 0).toNat : Nat) : Int)) (ex_sindex (k := .i64) (l := cd) (i := 0) (m := 0) (by kernel_rfl) (by kernel_rfl) (by kernel_rfl) (by omega) (by (first | omega | (have := (hw0 (by assumption)).2; omega)))) fun a H => ?_
       refine H.valE 50 (.int .u8 (IntKind.u8.wrap ((((cd.getD 0 0).toNat : Nat) : Int) - 192))) (.int .u8 (((cd.getD 0 0).toNat - 192 : Nat) : Int)) (by kernel_rfl) (by kernel_rfl) ((by rw [wrap_inu8 _ (by omega)]; exact congrArg (Value.int .u8) (by omega))) fun a H => ?_
       refine H.valE 51 (ii (IntKind.i64.wrap (((cd.getD 0 0).toNat - 192 : Nat) : Int))) (ii (((cd.getD 0 0).toNat - 192 : Nat) : Int)) (by kernel_rfl) (by kernel_rfl) ((by rw [wrap_ini64 _ (by omega)])) fun a H => ?_
       refine H.valE 52 (ii (IntKind.i64.wrap (2 * (((cd.getD 0 0).toNat - 192 : Nat) : Int)))) (ii ((2 * ((cd.getD 0 0).toNat - 192) : Nat) : Int)) (by kernel_rfl) (by kernel_rfl) ((by rw [wrap_ini64 _ (by omega)]; exact congrArg (Value.int .i64) (by omega))) fun a H => ?_
       refine H.ge HP [(54, (.bool ((l.length : Int) == ((2 * ((cd.getD 0 0).toNat - 192) : Nat) : Int))))] [] fun a H => ?_
       refine then_normal ?_
       refine w_if H rfl (fun g54 => ?_) (fun g54 => ?_)
       ·have g54p := eq_of_beq g54
        refine w_region ?_
        refine H.go HP 3 [(55, (pt b 0)), (56, (.string (bstr l))), (57, (.string (bstr cd)))] [] fun a H => ?_
        refine H.u 58 (.string (bstr (cd.drop 1))) (ex_ssliceL (k := .i64) (l := cd) (i := 1) (a := 1) (by kernel_rfl) (by kernel_rfl) (by kernel_rfl) (by omega) (by (first | omega | (have := (hw0 (by assumption)).2; omega)))) fun a H => ?_
        refine H.u 59 (.string (bstr (l ++ (cd.drop 1)))) (ex_sadd (by kernel_rfl) (by kernel_rfl) (by (simp only [List.length_append, List.length_drop]; omega))) fun a H => ?_
        refine H.go HP 2 [(61, (pt b 1))] [] fun a H => ?_
        refine H.sh HP 0 1 (.string (bstr (l ++ (cd.drop 1)))) rfl fun w_12 a H HP => ?_
        refine wpList_nil (then_normal ?_)
        exact ⟨l ++ (cd.drop 1), H.keep (by kernel_rfl), HP, (feedN_cont (by omega) (by omega) (by omega)), (by simp only [List.length_append, List.length_drop]; omega)⟩
       ·have g54p := ne_of_beq_false g54
        refine wp_skip (then_normal ?_)
        exact ⟨[], H.keep (by kernel_rfl), HP, (feedN_no (by omega) (by omega) (by omega) (by omega)), (by simp)⟩
      ·have g45p := of_decide_eq_false g45
       refine H.ge HP [(54, (.bool false))] [] fun a H => ?_
       refine then_normal ?_
       refine w_iff H rfl ?_
       refine wp_skip (then_normal ?_)
       exact ⟨[], H.keep (by kernel_rfl), HP, (feedN_no (by omega) (by omega) (by omega) (by omega)), (by simp)⟩
     ·
      rintro a w_13 ⟨nb, H, HP, hnb, hnl⟩
      refine wp_seq (wp_seq (w_region ?_))
      refine H.go HP 4 [(65, (.string (bstr nb)))] [0] fun a H => ?_
      refine H.valE 66 (.bool ((bstr nb).toList == (bstr ([])).toList)) (.bool (nb == ([]))) (by kernel_rfl) (by kernel_rfl) ((congrArg Value.bool (bstr_eq _ _))) fun a H => ?_
      refine wpList_nil (then_normal ?_)
      refine w_if H rfl (fun g66 => ?_) (fun g66 => ?_)
      ·have g66p := eq_of_beq g66
       refine wp_ret (then_ret ?_)
       refine H.ret0 (fn := Tryd.f17) Tryd.results17  ?_
       have HP : Hp w w_13 [bx b 64 [(.slice R rows.length cr), (.string (bstr nb))] false] [rowF 1 strC R rows] := HP
       have hbx := HP.at_ 0 rfl
       have hn0 : nb = [] := by simpa using g66p
       rw [hn0] at hbx
       rw [hnb.no hn0]
       exact ⟨rfl, R, cr, rdec_mk hbx (HP.fact 0 rfl) hs2, (HP.agreeF _ fun x hx => by simp only [List.mem_cons, List.not_mem_nil, or_false] at hx; rcases hx with rfl <;> simp [bx, rowsR]), fun k hk => .inl hk⟩
      ·have g66p := ne_of_beq_false g66
       refine wp_skip (then_normal (wp_seq ?_))
       have hn0 : nb ≠ [] := by simpa using g66p
       have hnp := List.length_pos_iff.2 hn0
       have hfd := hnb.yes hn0
       obtain ⟨nn, hnn⟩ : ∃ n, (nb.getD 0 0).toNat = n := ⟨_, rfl⟩
       have hnn2 : nn < 256 := by rw [← hnn]; exact (nb.getD 0 0).toNat_lt
       refine w_region ?_
       refine H.go HP 4 [(70, (.string (bstr nb)))] [0] fun a H => ?_
       refine H.u 71 (.int .u8 (((nb.getD 0 0).toNat : Nat) : Int)) (ex_sindex (k := .i64) (l := nb) (i := 0) (m := 0) (by kernel_rfl) (by kernel_rfl) (by kernel_rfl) (by omega) (by (first | omega | (have := (hw0 (by assumption)).2; omega)))) fun a H => ?_
       refine H.valE 72 (ii (IntKind.i64.wrap (((nb.getD 0 0).toNat : Nat) : Int))) (ii nn) (by kernel_rfl) (by kernel_rfl) ((by rw [wrap_ini64 _ (by omega), hnn])) fun a H => ?_
       refine H.ge HP [(5, (ii nn))] [] fun a H => ?_
       refine then_normal (wp_seq (wp_seq (w_region ?_)))
       refine H.ge HP [(74, (.bool (decide ((nn : Int) > 95))))] [] fun a H => ?_
       refine then_normal ?_
       refine w_if H rfl (fun g74 => ?_) (fun g74 => ?_)
       ·have g74p := of_decide_eq_true g74
        refine wp_seq (w_region ?_)
        refine H.go HP 3 [(77, (pt b 1))] [] fun a H => ?_
        refine H.sh HP 0 1 (.string (bstr ([]))) rfl fun w_14 a H HP => ?_
        refine wpList_nil (then_normal (wp_ret (then_ret ?_)))
        refine H.ret0 (fn := Tryd.f17) Tryd.results17  ?_
        have HP : Hp w w_14 [bx b 64 [(.slice R rows.length cr), (.string (bstr ([])))] false] [rowF 1 strC R rows] := HP
        have hbx := HP.at_ 0 rfl
        rw [hfd, dec_done1 (by rw [hnn]; omega)]
        exact ⟨rfl, R, cr, rdec_mk hbx (HP.fact 0 rfl) hs2, (HP.agreeF _ fun x hx => by simp only [List.mem_cons, List.not_mem_nil, or_false] at hx; rcases hx with rfl <;> simp [bx, rowsR]), fun k hk => .inl hk⟩
       ·have g74p := of_decide_eq_false g74
        refine wp_skip (then_normal (wp_seq (wp_seq (w_region ?_))))
        refine H.ge HP [(84, (.bool (decide ((nb.length : Int) ≤ (nn : Int)))))] [0] fun a H => ?_
        refine then_normal ?_
        refine w_if H rfl (fun g84 => ?_) (fun g84 => ?_)
        ·have g84p := of_decide_eq_true g84
         refine wp_ret (then_ret ?_)
         refine H.ret0 (fn := Tryd.f17) Tryd.results17  ?_
         have HP : Hp w w_13 [bx b 64 [(.slice R rows.length cr), (.string (bstr nb))] false] [rowF 1 strC R rows] := HP
         have hbx := HP.at_ 0 rfl
         rw [hfd, dec_done2 (by rw [hnn]; omega) (by rw [hnn]; omega)]
         exact ⟨rfl, R, cr, rdec_mk hbx (HP.fact 0 rfl) hs2, (HP.agreeF _ fun x hx => by simp only [List.mem_cons, List.not_mem_nil, or_false] at hx; rcases hx with rfl <;> simp [bx, rowsR]), fun k hk => .inl hk⟩
        ·have g84p := of_decide_eq_false g84
         refine wp_skip (then_normal (wp_seq (w_region ?_)))
         refine H.go HP 5 [(88, (.string (bstr nb))), (89, (ii nn))] [0] fun a H => ?_
         refine H.valE 90 (ii (IntKind.i64.wrap (1 + (nn : Int)))) (ii ((nn + 1 : Nat) : Int)) (by kernel_rfl) (by kernel_rfl) ((by rw [wrap_ini64 _ (by omega)]; exact congrArg (Value.int .i64) (by omega))) fun a H => ?_
         refine H.u 91 (.string (bstr ((nb.drop 1).take ((nn + 1) - 1)))) (ex_sslice (k := .i64) (kk := .i64) (l := nb) (i := 1) (j := ((nn + 1 : Nat) : Int)) (a := 1) (b := (nn + 1)) (by kernel_rfl) (by kernel_rfl) (by kernel_rfl) (by kernel_rfl) (by omega) (by omega) (by (first | omega | (have := (hw0 (by assumption)).2; omega))) (by (first | omega | (have := (hw0 (by assumption)).2; omega)))) fun a H => ?_
         refine H.ge HP [(6, (.string (bstr ((nb.drop 1).take ((nn + 1) - 1)))))] [] fun a H => ?_
         refine then_normal (wp_seq (w_region ?_))
         refine H.go HP 3 [(94, (pt b 1))] [] fun a H => ?_
         refine H.sh HP 0 1 (.string (bstr ([]))) rfl fun w_15 a H HP => ?_
         refine wpList_nil (then_normal (wp_seq ?_))
         obtain ⟨bk, hbkd⟩ : ∃ x, (nb.drop 1).take (nn + 1 - 1) = x := ⟨_, rfl⟩
         have hbk : bk.length = nn := by rw [← hbkd, List.length_take, List.length_drop]; omega
         have H := H.as 6 (.string (bstr bk)) rfl (congrArg (fun x => Value.string (bstr x)) hbkd)
         refine w_region ?_
         refine H.go HP 1 [(96, (.string (bstr bk)))] [] fun a H => ?_
         refine H.call 97 (by kernel_rfl) (Eq.trans (by kernel_rfl : _ = (callFunc 36 #[(.string (bstr bk)), (ii 0)]).run Tryd.prog w_15) (Tryd.call36 _ _)) (rintU_any bk w_15 (by omega)) ?_
         rintro e w_16 ⟨sm, ka, er, rfl, hbw, hw0, hw1⟩
         refine ⟨_, rfl, ?_⟩
         intro a H
         have HP := HP.next hbw
         refine H.ge HP [(7, (ii sm)), (8, (ii ka)), (9, (ii er))] [] fun a H => ?_
         refine then_normal (wp_seq (wp_seq (w_region ?_)))
         refine H.go HP 3 [(103, (.bool (er != 0)))] [] fun a H => ?_
         refine H.split 103 rfl (fun g103 H => ?_) (fun g103 H => ?_)
         ·have g103p := bne_iff_ne.1 g103
          refine H.ge HP [(110, (.bool true))] [] fun a H => ?_
          refine then_normal ?_
          refine w_ift H rfl ?_
          refine wp_ret (then_ret ?_)
          refine H.ret0 (fn := Tryd.f17) Tryd.results17  ?_
          have HP : Hp w w_16 [bx b 64 [(.slice R rows.length cr), (.string (bstr ([])))] false] [rowF 1 strC R rows] := HP
          have hbx := HP.at_ 0 rfl
          rw [hfd, dec_done3 (bk := bk) (by rw [hnn]; omega) (by rw [hnn]; omega) (by rw [hnn]; exact hbkd) (show_no1 (hw1 (by omega)))]
          exact ⟨rfl, R, cr, rdec_mk hbx (HP.fact 0 rfl) hs2, (HP.agreeF _ fun x hx => by simp only [List.mem_cons, List.not_mem_nil, or_false] at hx; rcases hx with rfl <;> simp [bx, rowsR]), fun k hk => .inl hk⟩
         ·have g103p := eq_of_bne_false g103
          refine H.go HP 3 [(104, (ii sm)), (105, (.string (bstr bk))), (106, (ii ka))] [] fun a H => ?_
          refine H.u 107 (.string (bstr (bk.drop ka))) (ex_ssliceL (k := .i64) (l := bk) (i := (ka : Int)) (a := ka) (by kernel_rfl) (by kernel_rfl) (by kernel_rfl) (by omega) (by (first | omega | (have := (hw0 (by assumption)).2; omega)))) fun a H => ?_
          refine H.call 108 (by kernel_rfl) (Eq.trans (by kernel_rfl : _ = (callFunc 32 #[(.string (bstr (bk.drop ka)))]).run Tryd.prog w_16) (Tryd.call32 _ _)) (rsum_any (bk.drop ka) w_16 (by rw [List.length_drop]; omega)) ?_
          rintro e w_17 ⟨rfl, hbs⟩
          refine ⟨_, rfl, ?_⟩
          intro a H
          have HP := HP.next hbs
          refine H.ge HP [(110, (.bool (sm != ((sumP (bk.drop ka) : Nat) : Int))))] [] fun a H => ?_
          refine then_normal ?_
          refine w_if H rfl (fun g110 => ?_) (fun g110 => ?_)
          ·have g110p := bne_iff_ne.1 g110
           refine wp_ret (then_ret ?_)
           refine H.ret0 (fn := Tryd.f17) Tryd.results17  ?_
           have HP : Hp w w_17 [bx b 64 [(.slice R rows.length cr), (.string (bstr ([])))] false] [rowF 1 strC R rows] := HP
           have hbx := HP.at_ 0 rfl
           rw [hfd, dec_done3 (bk := bk) (by rw [hnn]; omega) (by rw [hnn]; omega) (by rw [hnn]; exact hbkd) (show_no2 (hw0 (by omega)).1 (by omega))]
           exact ⟨rfl, R, cr, rdec_mk hbx (HP.fact 0 rfl) hs2, (HP.agreeF _ fun x hx => by simp only [List.mem_cons, List.not_mem_nil, or_false] at hx; rcases hx with rfl <;> simp [bx, rowsR]), fun k hk => .inl hk⟩
          ·have g110p := eq_of_bne_false g110
           refine wp_skip (then_normal (w_region ?_))
           refine H.go HP 3 [(111, (pt b 0)), (112, (.string (bstr bk))), (113, (ii ka))] [] fun a H => ?_
           refine H.u 114 (.string (bstr (bk.drop ka))) (ex_ssliceL (k := .i64) (l := bk) (i := (ka : Int)) (a := ka) (by kernel_rfl) (by kernel_rfl) (by kernel_rfl) (by omega) (by (first | omega | (have := (hw0 (by assumption)).2; omega)))) fun a H => ?_
           refine H.call 115 (by kernel_rfl) (Eq.trans (by kernel_rfl : _ = (callFunc 37 #[(.string (bstr (bk.drop ka)))]).run Tryd.prog w_17) (Tryd.call37 _ _)) (rlines_any (bk.drop ka) w_17 (by rw [List.length_drop]; omega)) ?_
           rintro e w_18 ⟨R2, cr2, rfl, hbs, hrw⟩
           refine ⟨_, rfl, ?_⟩
           intro a H
           have HP := HP.gain hbs _ hrw (rowsR_ok elOk_flat) (fun k hk => (rows_lt hrw hk).1) (fun k hk => (rows_lt hrw hk).2)
           refine H.go HP 2 [(117, (pt b 0))] [] fun a H => ?_
           refine H.sh HP 1 0 (.slice R2 ((splitG [] (bk.drop ka)).length) cr2) rfl fun w_19 a H HP => ?_
           refine wpList_nil ?_
           refine H.end0 (fn := Tryd.f17) Tryd.results17  ?_
           have HP : Hp w w_19 [(rowsR w_17.heap.size 9 1 strC okT feF (.slice R2 (splitG [] (bk.drop ka)).length cr2) (splitG [] (bk.drop ka))), bx b 64 [(.slice R2 ((splitG [] (bk.drop ka)).length) cr2), (.string (bstr ([])))] false] [rowF 1 strC R rows] := HP
           have hbx := HP.at_ 1 rfl
           rw [hfd, dec_done3 (bk := bk) (by rw [hnn]; omega) (by rw [hnn]; omega) (by rw [hnn]; exact hbkd) (show_yes (hw0 (by omega)).1 (by omega))]
           exact ⟨rfl, R2, cr2, rdec_mk hbx (IsRow.ofRows (HP.held 0 rfl)) (fun h => HP.row_off 0 rfl 1 rfl h), (HP.agreeF _ fun x hx => by simp only [List.mem_cons, List.not_mem_nil, or_false] at hx; rcases hx with rfl | rfl <;> simp [bx, rowsR]), fun k hk => rdec_fpN (fun k h => HP.row_new 0 rfl h) hk⟩
def pickP (c n : Int) : Int := (if c < 0 then -(c + 1) else c) % n
theorem pickP_in {c n : Int} (h : 0 < n) : 0 ≤ pickP c n ∧ pickP c n < n := ⟨Int.emod_nonneg _ (by omega), Int.emod_lt_of_pos _ h⟩
abbrev Quad := Int × Int × Int × Int
def texts6 : List Str := [[72, 105],
  [82, 97, 105, 110, 32, 101, 120, 112, 101, 99, 116, 101, 100, 32, 105, 110, 32, 116, 104, 101, 32, 110, 111, 114, 116, 104],
  [71, 111, 111, 100, 32, 101, 118, 101, 110, 105, 110, 103, 44, 32, 97, 110, 100, 32, 119, 101, 108, 99, 111, 109, 101, 32, 116, 111, 32, 116, 104, 101, 32, 112, 114, 111, 103, 114, 97, 109, 109, 101],
  [71, 111, 97, 108, 33],
  [73, 116, 32, 105, 115, 32, 110, 111, 119, 32, 110, 105, 110, 101, 32, 111, 39, 99, 108, 111, 99, 107, 44, 32, 97, 110, 100, 32, 104, 101, 114, 101, 32, 97, 114, 101, 32, 116, 104, 101, 32, 104, 101, 97, 100, 108, 105, 110, 101, 115, 32, 111, 102, 32, 116, 104, 105, 115, 32, 100, 97, 121, 32, 105, 110, 32, 116, 104, 101, 32, 99, 105, 116, 121],
  [78, 111, 46]]
def cueP (i : Nat) (q : Quad) : Cue := ⟨((i : Nat) : Int) + 1, pickP q.1 400, pickP q.1 400 + 1 + pickP q.2.1 150, pickP q.2.2.1 3, texts6.getD (pickP q.2.2.2 6).toNat []⟩
def makeG : Nat → List Quad → List Cue
  | _, [] => []
  | i, q :: l => cueP i q :: makeG (i + 1) l
def makeP (x : List Quad) : List Cue := makeG 0 (x.take 8)
theorem makeG_snoc : ∀ (l : List Quad) (i : Nat) (q : Quad), makeG i (l ++ [q]) = makeG i l ++ [cueP (i + l.length) q]
  | [], i, q => by simp [makeG]
  | p :: l, i, q => by
    simp only [List.cons_append, makeG, List.length_cons]
    rw [makeG_snoc l (i + 1) q, show i + 1 + l.length = i + (l.length + 1) by omega]
theorem makeG_len : ∀ (l : List Quad) (i : Nat), (makeG i l).length = l.length
  | [], _ => rfl
  | _ :: l, i => by simp [makeG, makeG_len l (i + 1)]
theorem makeP_len (x : List Quad) : (makeP x).length = min 8 x.length := by unfold makeP; rw [makeG_len, List.length_take]
theorem makeG_in : ∀ (l : List Quad) (i : Nat), ∀ c ∈ makeG i l, ∃ j q, c = cueP j q
  | [], _, c, h => by cases h
  | q :: l, i, c, h => by
    rcases List.mem_cons.1 h with rfl | h
    · exact ⟨i, q, rfl⟩
    · exact makeG_in l (i + 1) c h
theorem makeP_pri {x : List Quad} {c : Cue} (h : c ∈ makeP x) : 0 ≤ c.pri ∧ c.pri ≤ 2 := by
  obtain ⟨j, q, rfl⟩ := makeG_in _ _ c h
  have := pickP_in (c := q.2.2.1) (n := 3) (by omega)
  show 0 ≤ pickP q.2.2.1 3 ∧ pickP q.2.2.1 3 ≤ 2
  omega
def topC (text : Int) : Cue := ⟨99, 0, 1000, 3, texts6.getD (pickP text 6).toNat []⟩
theorem act_pri {f : Int} : ∀ {l : List Cue} {b : Option Cue}, (∀ c ∈ l, c.pri ≤ 2) → (∀ c, b = some c → c.pri ≤ 2) → ∀ c, l.foldl (actS f) b = some c → c.pri ≤ 2
  | [], b, _, hb, c, h => hb c h
  | x :: l, b, hl, hb, c, h => by
    refine act_pri (l := l) (fun y hy => hl y (List.mem_cons_of_mem _ hy)) (fun y hy => ?_) c h
    have hx := hl x (List.mem_cons_self ..)
    unfold actS at hy
    split at hy
    · split at hy
      · cases hy; exact hx
      · split at hy
        · cases hy; exact hx
        · cases hy; exact hb _ rfl
    · exact hb y hy
theorem top_active {x : List Quad} {text f : Int} (h0 : 0 ≤ f) (h1 : f < 1000) : activeP (makeP x ++ [topC text]) f = some (topC text) := by
  unfold activeP
  rw [List.foldl_append]
  have hp := act_pri (f := f) (l := makeP x) (b := none) (fun c hc => (makeP_pri hc).2) (fun c h => by cases h)
  generalize List.foldl (actS f) none (makeP x) = b at hp
  simp only [List.foldl_cons, List.foldl_nil]
  unfold actS
  rw [if_pos ⟨h0, h1⟩]
  cases b with
  | none => rfl
  | some c =>
    have := hp c rfl
    simp only
    rw [if_pos]
    unfold prefC
    rw [if_pos (show (topC text).pri ≠ c.pri from fun e => by rw [← e] at this; exact absurd this (by show ¬ (3 : Int) ≤ 2; omega))]
    exact decide_eq_true (show c.pri < 3 by omega)
theorem top_block6 : ∀ n : Nat, n < 6 → (blockP ⟨99, 0, 1000, 3, texts6.getD n []⟩).isSome = true := by decide +kernel
theorem top_want {x : List Quad} {text f : Int} (h0 : 0 ≤ f) (h1 : f < 1000) : ∃ b, wantP (makeP x ++ [topC text]) f = some (topC text, b) := by
  have h := top_block6 (pickP text 6).toNat (by have := pickP_in (c := text) (n := 6) (by omega); omega)
  obtain ⟨b, hb⟩ := Option.isSome_iff_exists.1 h
  refine ⟨b, ?_⟩
  unfold wantP
  rw [top_active h0 h1]
  simp only [topC, hb]
def in64 (n : Int) : Prop := -9223372036854775808 ≤ n ∧ n ≤ 9223372036854775807
theorem ex_rem {P : Program} {ρ : Operand → Value} {w : World} {t t' : TypeId} {x y : Operand} {dst : Option Tmp} {ty : TypeId} {pos : String} {af : Array Edge} {g : Option (Nat × Bool)} {a b : Int} {k : IntKind}
  (hx : ρ x = .int k a) (hy : ρ y = .int k b) (hb : b ≠ 0) : (execOp ρ ⟨dst, .binOp .rem t x y t', ty, pos, af, g⟩).run P w = .ok (.value (.int k (a.tmod b))) w := by
 simp [execOp, hx, hy, go_sem, hb]
theorem take_snoc {α : Type} {l : List α} {i : Nat} {x : α} (hx : l[i]? = some x) : l.take (i + 1) = l.take i ++ [x] := by
 rw [List.take_add_one, hx]; rfl
theorem take_eq_snoc {α : Type} {l m : List α} {i : Nat} {x y : α} (h : l.take i = m.take i) (hx : l[i]? = some x) (hy : m[i]? = some y) (e : x = y) : l.take (i + 1) = m.take (i + 1) := by
 rw [take_snoc hx, take_snoc hy, h, e]
theorem activeW_any (A : Option Addr) (c : Nat) (l : List Cue) (fr : Int) (w : World) (hr : IsRow 5 cuC w A l) (hl : l.length ≤ maxLen) : Calls Tryd.prog 38 #[.slice A l.length c, .int .i64 fr] w fun e w' => ∃ ac fd, e = .returned (.tuple #[cuV ac, .bool fd]) ∧ Below w.heap.size w w' ∧ (fd = true → activeP l fr = some ac) ∧ (fd = false → activeP l fr = none ∧ ac = zeroC) :=
 (active_any A c l fr w hr hl).mono fun e w' ⟨h1, h2⟩ => by
  subst h1
  cases h : activeP l fr with
  | none => exact ⟨zeroC, false, rfl, h2, (fun h => by cases h), fun _ => ⟨rfl, rfl⟩⟩
  | some x => exact ⟨x, true, rfl, h2, fun _ => rfl, fun h => by cases h⟩
theorem want_tx {l : List Cue} {fr : Int} {ac : Cue} {fd : Bool} (htx : ∀ x ∈ l, x.text.length ≤ 1000000) (h1 : fd = true → activeP l fr = some ac) (h2 : fd = false → activeP l fr = none ∧ ac = zeroC) : ac.text.length ≤ 1000000 := by
 cases fd with
 | true => exact htx _ (active_mem (h1 rfl))
 | false => rw [(h2 rfl).2]; simp [zeroC]
set_option maxRecDepth 100000 in
set_option maxHeartbeats 4000000 in
theorem pick_any (c n : Int) (w : World) (hc : in64 c) (hn : 0 < n) : Calls Tryd.prog 14 #[.int .i64 c, .int .i64 n] w fun e w' => e = .returned (ii (pickP c n)) ∧ Below w.heap.size w w' := by
 have HP := Hp.start w
 obtain ⟨hc1, hc2⟩ := hc
 refine w_enter 13 [(0, (ii c)), (1, (ii n))] Tryd.func14 rfl Tryd.ntmps14 (by kernel_rfl) (by kernel_rfl) fun a H => ?_
 refine wp_seq (w_region ?_)
 refine H.ge HP [(4, (ii 0))] [] fun a H => ?_
 refine then_normal (wp_seq (wp_seq (w_region ?_)))
 refine H.ge HP [(5, (ii c)), (6, (.bool (decide (c < 0))))] [] fun a H => ?_
 refine then_normal ?_
 refine w_if H rfl (fun g6 => ?_) (fun g6 => ?_)
 ·have g6p := of_decide_eq_true g6
  refine w_region ?_
  refine H.go HP 1 [(7, (ii c))] [] fun a H => ?_
  refine H.wi 8 (c + 1) fun a H => ?_
  refine H.wi 9 (0 - (c + 1)) fun a H => ?_
  refine H.ge HP [(0, (ii (0 - (c + 1))))] [] fun a H => ?_
  refine then_normal (wp_seq (w_region ?_))
  refine H.go HP 2 [(10, (ii (0 - (c + 1)))), (11, (ii n))] [] fun a H => ?_
  refine H.valE 12 (ii ((0 - (c + 1)).tmod n)) (ii ((0 - (c + 1)) % n)) (by kernel_rfl) (ex_rem (k := .i64) (by kernel_rfl) (by kernel_rfl) (by omega)) ((by rw [tmod_nn _ _ (by omega)])) fun a H => ?_
  refine H.ge HP [(4, (ii ((0 - (c + 1)) % n)))] [] fun a H => ?_
  refine then_normal (wp_ret ?_)
  refine H.ret1 (fn := Tryd.f14) Tryd.results14 (RV.tmp_ (v := (ii ((0 - (c + 1)) % n))) (by kernel_rfl)) ?_
  exact ⟨by unfold pickP; rw [if_pos (by omega), Int.zero_sub], HP.bl⟩
 ·have g6p := of_decide_eq_false g6
  refine wp_skip (then_normal (wp_seq (w_region ?_)))
  refine H.go HP 2 [(10, (ii c)), (11, (ii n))] [] fun a H => ?_
  refine H.valE 12 (ii (c.tmod n)) (ii (c % n)) (by kernel_rfl) (ex_rem (k := .i64) (by kernel_rfl) (by kernel_rfl) (by omega)) ((by rw [tmod_nn _ _ (by omega)])) fun a H => ?_
  refine H.ge HP [(4, (ii (c % n)))] [] fun a H => ?_
  refine then_normal (wp_ret ?_)
  refine H.ret1 (fn := Tryd.f14) Tryd.results14 (RV.tmp_ (v := (ii (c % n))) (by kernel_rfl)) ?_
  exact ⟨by unfold pickP; rw [if_neg (by omega)], HP.bl⟩
set_option maxRecDepth 100000 in
set_option maxHeartbeats 4000000 in
theorem same_any (A1 A2 : Option Addr) (c1 c2 : Nat) (l1 l2 : List Str) (w : World) (hr1 : IsRow 1 strC w A1 l1) (hr2 : IsRow 1 strC w A2 l2) (hl1 : l1.length ≤ 1000000) (hl2 : l2.length ≤ 1000000) : Calls Tryd.prog 18 #[.slice A1 l1.length c1, .slice A2 l2.length c2] w fun e w' => e = .returned (.bool (decide (l1 = l2))) ∧ Below w.heap.size w w' := by
 have HP := ((Hp.start w).keepF (rowF 1 strC A2 l2) hr2 (rowF_ok _ _ _ _) fun k hk => ⟨hr2.lt k hk, fun x hx => by cases hx⟩).keepF (rowF 1 strC A1 l1) hr1 (rowF_ok _ _ _ _) fun k hk => ⟨hr1.lt k hk, fun x hx => by cases hx⟩
 refine w_enter 26 [(0, (.slice A1 l1.length c1)), (1, (.slice A2 l2.length c2))] Tryd.func18 rfl Tryd.ntmps18 (by kernel_rfl) (by kernel_rfl) fun a H => ?_
 refine wp_seq (w_region ?_)
 refine H.ge HP [(4, (.bool false))] [] fun a H => ?_
 refine then_normal (wp_seq (wp_seq (w_region ?_)))
 refine H.ge HP [(6, (.slice A1 l1.length c1)), (10, (.bool ((l1.length : Int) != (l2.length : Int))))] [] fun a H => ?_
 refine then_normal ?_
 refine w_if H rfl (fun g10 => ?_) (fun g10 => ?_)
 ·have g10p := bne_iff_ne.1 g10
  refine wp_seq (w_region ?_)
  refine H.ge HP [(4, (.bool false))] [] fun a H => ?_
  refine then_normal (wp_ret (then_ret ?_))
  refine H.ret1 (fn := Tryd.f18) Tryd.results18 (RV.tmp_ (v := (.bool false)) (by kernel_rfl)) ?_
  exact ⟨by rw [decide_eq_false (fun h => by subst h; omega)], HP.bl⟩
 ·have g10p := eq_of_bne_false g10
  refine wp_skip (then_normal (wp_seq (wp_seq (w_region ?_))))
  refine H.ge HP [(5, (ii 0))] [] fun a H => ?_
  refine then_normal (wp_block ?_)
  refine w_loop (fun mm a wv => ∃ (i : Nat), l1.length - i = mm ∧ Sl 26 [(5, (ii i)), (6, (.slice A1 l1.length c1)), (10, (.bool ((l1.length : Int) != (l2.length : Int)))), (0, (.slice A1 l1.length c1)), (1, (.slice A2 l2.length c2))] a ∧ Hp w wv [] [rowF 1 strC A1 l1, rowF 1 strC A2 l2] ∧ (i ≤ l1.length) ∧ (l1.take i = l2.take i)) (l1.length - 0) ?_ ?_
  ·exact ⟨0, (by omega), H.keep (by kernel_rfl), HP, (Nat.zero_le _), rfl⟩
  rintro mm a w_1 ⟨i, hmeas, H, HP, hib, hrel⟩
  refine wp_seq (wp_seq (w_region ?_))
  refine H.ge HP [(14, (.bool (decide ((i : Int) < (l1.length : Int)))))] [] fun a H => ?_
  refine then_normal ?_
  refine w_if H rfl (fun g14 => ?_) (fun g14 => ?_)
  ·have g14p := of_decide_eq_true g14
   refine wp_skip (then_normal (wp_seq (wp_block (wp_seq ?_))))
   refine An.start (fun v => Hp w v [] [rowF 1 strC A1 l1, rowF 1 strC A2 l2]) 9 9 HP wide_follows rfl fun w_2 HP => ?_
   refine An.go H (.inr (HP)) 7 [0, 1] [(17, (.slice A1 l1.length c1)), (18, (ii i))] [] fun a H => ?_
   obtain ⟨bu_3, ou_4, x_5, hA_6, _, hd_8, hx_7, hm_9, _⟩ := IsRow.get strC_size (HP.fact 0 rfl : IsRow 1 strC _ A1 l1) (i := i) (by omega)
   refine An.pure H (.inr (HP)) 2 19 (.pointer (some ⟨bu_3, ou_4 + i * 1, none⟩)) rfl (by kernel_rfl) (by kernel_rfl) (fun _ _ _ h => h) (fun _ => ex_indexA (b := bu_3) (off := ou_4) (len := l1.length) (cap := c1) (e := 9) (k := 1) (ik := .i64) (i := (i : Int)) (m := i) hA_6 (by kernel_rfl) (by kernel_rfl) rfl (by omega) (by kernel_rfl) (by kernel_rfl)) fun a H => ?_
   refine An.val H (HP) 3 20 (.string (bstr x_5)) rfl (by kernel_rfl) (by kernel_rfl) (fun _ _ _ h => h) (fun _ hS => ex_l1 (by have hh := IsRow.cells strC_size (hS.fact 0 rfl : IsRow 1 strC _ A1 l1) hA_6 hx_7 0 _ rfl; rwa [Nat.add_zero] at hh)) fun a H => ?_
   refine An.go H (.inr (HP)) 3 [4, 5] [(21, (.slice A2 l2.length c2)), (22, (ii i))] [] fun a H => ?_
   obtain ⟨bu_10, ou_11, x_12, hA_13, _, hd_15, hx_14, hm_16, _⟩ := IsRow.get strC_size (HP.fact 1 rfl : IsRow 1 strC _ A2 l2) (i := i) (by omega)
   refine An.pure H (.inr (HP)) 6 23 (.pointer (some ⟨bu_10, ou_11 + i * 1, none⟩)) rfl (by kernel_rfl) (by kernel_rfl) (fun _ _ _ h => h) (fun _ => ex_indexA (b := bu_10) (off := ou_11) (len := l2.length) (cap := c2) (e := 9) (k := 1) (ik := .i64) (i := (i : Int)) (m := i) hA_13 (by kernel_rfl) (by kernel_rfl) rfl (by omega) (by kernel_rfl) (by kernel_rfl)) fun a H => ?_
   refine An.val H (HP) 7 24 (.string (bstr x_12)) rfl (by kernel_rfl) (by kernel_rfl) (fun _ _ _ h => h) (fun _ hS => ex_l1 (by have hh := IsRow.cells strC_size (hS.fact 1 rfl : IsRow 1 strC _ A2 l2) hA_13 hx_14 0 _ rfl; rwa [Nat.add_zero] at hh)) fun a H => ?_
   refine An.pureE H (.inr (HP)) 8 25 (.bool (!((bstr x_5).toList == (bstr x_12).toList))) (.bool (!(x_5 == x_12))) rfl (by kernel_rfl) (by kernel_rfl) (fun _ _ _ h => h) (fun _ => by kernel_rfl) ((congrArg (fun b => Value.bool (!b)) (bstr_eq _ _))) fun a H => ?_
   refine An.done (by kernel_rfl) ?_
   refine then_normal ?_
   refine w_if H rfl (fun g25 => ?_) (fun g25 => ?_)
   ·have g25p := not_is_true g25
    refine wp_seq (w_region ?_)
    refine H.ge HP [(4, (.bool false))] [] fun a H => ?_
    refine then_normal (wp_ret (inb_ret (then_ret (then_ret (inb_ret (then_ret ?_))))))
    refine H.ret1 (fn := Tryd.f18) Tryd.results18 (RV.tmp_ (v := (.bool false)) (by kernel_rfl)) ?_
    exact ⟨by rw [decide_eq_false (fun h => by subst h; rw [hx_7] at hx_14; cases hx_14; simp at g25p)], HP.bl⟩
   ·have g25p := not_is_false g25
    refine wp_skip (inb_normal (then_normal (w_region ?_)))
    refine H.go HP 1 [(15, (ii i))] [] fun a H => ?_
    refine H.wi 16 ((i : Int) + 1) fun a H => ?_
    refine H.ge HP [(5, (ii ((i : Int) + 1)))] [] fun a H => ?_
    refine then_normal ?_
    have H := H.as 5 (ii ((i + 1 : Nat) : Int)) rfl rfl
    refine ⟨_, ?_, i + 1, rfl, H.keep (by kernel_rfl), HP, (by omega), (take_eq_snoc hrel hx_7 hx_14 (eq_of_beq g25p))⟩
    omega
  ·have g14p := of_decide_eq_false g14
   refine wp_exit (then_exit (then_exit ?_))
   refine w_exit_here ?_
   refine then_normal (wp_seq (w_region ?_))
   refine H.ge HP [(4, (.bool true))] [] fun a H => ?_
   refine then_normal (wp_ret ?_)
   refine H.ret1 (fn := Tryd.f18) Tryd.results18 (RV.tmp_ (v := (.bool true)) (by kernel_rfl)) ?_
   exact ⟨by rw [decide_eq_true (show l1 = l2 from by rw [show i = l1.length by omega, List.take_length] at hrel; rw [hrel, List.take_of_length_le (by omega)])], HP.bl⟩
set_option maxRecDepth 100000 in
set_option maxHeartbeats 4000000 in
theorem wanted_any (A : Option Addr) (c : Nat) (l : List Cue) (fr : Int) (w : World) (hL : Laid w) (hr : IsRow 5 cuC w A l) (hlm : l.length ≤ 1000000) (htx : ∀ x ∈ l, x.text.length ≤ 1000000) : Calls Tryd.prog 23 #[.slice A l.length c, .int .i64 fr] w fun e w' => ∃ ac fd, e = .returned (.tuple #[cuV ac, .bool fd]) ∧ Below w.heap.size w w' ∧ (fd = true → ∃ b, wantP l fr = some (ac, b)) ∧ (fd = false → wantP l fr = none) := by
 have HP := ((Hp.start w).keepF laidK hL laidK_ok (fun k hk => ⟨hL.lt k hk, fun x hx => by cases hx⟩)).keepF (rowF 5 cuC A l) hr (rowF_ok _ _ _ _) fun k hk => ⟨hr.lt k hk, fun x hx => by cases hx⟩
 refine w_enter 27 [(0, (.slice A l.length c)), (1, (ii fr))] Tryd.func23 rfl Tryd.ntmps23 (by kernel_rfl) (by kernel_rfl) fun a H => ?_
 refine wp_seq (w_region ?_)
 refine H.alloc HP 4 (fun b => (pt b 0)) 23 [(ii 0), (ii 0), (ii 0), (ii 0), (.string (bstr ([])))] (by kernel_rfl) (fun w => by kernel_rfl) fun b_1 w_2 a H HP => ?_
 refine H.ge HP [(5, (.bool false))] [] fun a H => ?_
 refine then_normal (wp_seq (w_region ?_))
 refine H.go HP 2 [(11, (.slice A l.length c)), (12, (ii fr))] [] fun a H => ?_
 refine H.call 13 (by kernel_rfl) (Eq.trans (by kernel_rfl : _ = (callFunc 38 #[(.slice A l.length c), (ii fr)]).run Tryd.prog w_2) (Tryd.call38 _ _)) (activeW_any A c l fr w_2 (HP.fact 0 rfl) (by unfold maxLen; omega)) ?_
 rintro e w_3 ⟨ac, fd, rfl, hba, ha1, ha2⟩
 refine ⟨_, rfl, ?_⟩
 intro a H
 have HP := HP.next hba
 refine H.go HP 3 [(14, (.agg #[(ii ac.id), (ii ac.from_), (ii ac.to_), (ii ac.pri), (.string (bstr ac.text))])), (15, (.bool fd))] [] fun a H => ?_
 refine H.alloc HP 6 (fun b => (pt b 0)) 23 [(ii 0), (ii 0), (ii 0), (ii 0), (.string (bstr ([])))] (by kernel_rfl) (fun w => by kernel_rfl) fun b_4 w_5 a H HP => ?_
 refine H.sh HP 0 0 (.agg #[(ii ac.id), (ii ac.from_), (ii ac.to_), (ii ac.pri), (.string (bstr ac.text))]) rfl fun w_6 a H HP => ?_
 refine H.ge HP [(7, (.bool fd))] [] fun a H => ?_
 refine then_normal (wp_seq (w_region ?_))
 refine H.go HP 1 [(17, (.agg #[(ii ac.id), (ii ac.from_), (ii ac.to_), (ii ac.pri), (.string (bstr ac.text))]))] [0] fun a H => ?_
 refine H.call 18 (by kernel_rfl) (Eq.trans (by kernel_rfl : _ = (callFunc 9 #[(.agg #[(ii ac.id), (ii ac.from_), (ii ac.to_), (ii ac.pri), (.string (bstr ac.text))])]).run Tryd.prog w_6) (Tryd.call9 _ _)) (blockU_any ac w_6 (HP.fact 1 rfl) (want_tx htx ha1 ha2)) ?_
 rintro e w_7 ⟨bk, er, rfl, hbb, hb1, hb2⟩
 refine ⟨_, rfl, ?_⟩
 intro a H
 have HP := HP.next hbb
 refine H.ge HP [(9, (ii er))] [] fun a H => ?_
 refine then_normal (wp_seq (w_region ?_))
 refine H.go HP 3 [(21, (.agg #[(ii ac.id), (ii ac.from_), (ii ac.to_), (ii ac.pri), (.string (bstr ac.text))])), (23, (.bool fd))] [0] fun a H => ?_
 refine H.split 23 rfl (fun g23 H => ?_) (fun g23 H => ?_)
 ·have g23p := g23
  refine H.go HP 3 [(26, (.bool (er == 0)))] [] fun a H => ?_
  refine H.sh HP 1 0 (.agg #[(ii ac.id), (ii ac.from_), (ii ac.to_), (ii ac.pri), (.string (bstr ac.text))]) rfl fun w_8 a H HP => ?_
  refine H.ge HP [(5, (.bool (er == 0)))] [] fun a H => ?_
  refine then_normal (wp_ret ?_)
  refine H.ret2 (fn := Tryd.f23) Tryd.results23 (RV.cellN (vs := [(ii ac.id), (ii ac.from_), (ii ac.to_), (ii ac.pri), (.string (bstr ac.text))]) (b := b_1) (off := 0) (k := 5) (by kernel_rfl) (by kernel_rfl) (by kernel_rfl) rfl (HP.cells 1 rfl 0 5 (by kernel_rfl))) (RV.tmp_ (v := (.bool (er == 0))) (by kernel_rfl)) ?_
  exact ⟨ac, (er == 0), rfl, HP.bl, (fun h => ⟨bk, want_some (ha1 g23p) (hb1 (by simpa using h))⟩), fun h => want_none2 (ha1 g23p) (hb2 (by simpa using h))⟩
 ·have g23p := g23
  refine H.go HP 3 [(26, (.bool false))] [] fun a H => ?_
  refine H.sh HP 1 0 (.agg #[(ii ac.id), (ii ac.from_), (ii ac.to_), (ii ac.pri), (.string (bstr ac.text))]) rfl fun w_9 a H HP => ?_
  refine H.ge HP [(5, (.bool false))] [] fun a H => ?_
  refine then_normal (wp_ret ?_)
  refine H.ret2 (fn := Tryd.f23) Tryd.results23 (RV.cellN (vs := [(ii ac.id), (ii ac.from_), (ii ac.to_), (ii ac.pri), (.string (bstr ac.text))]) (b := b_1) (off := 0) (k := 5) (by kernel_rfl) (by kernel_rfl) (by kernel_rfl) rfl (HP.cells 1 rfl 0 5 (by kernel_rfl))) (RV.tmp_ (v := (.bool false)) (by kernel_rfl)) ?_
  exact ⟨ac, false, rfl, HP.bl, (fun h => by cases h), fun _ => want_none1 (ha2 g23p).1⟩
abbrev quC (q : Quad) : Array Value := #[.int .i64 q.1, .int .i64 q.2.1, .int .i64 q.2.2.1, .int .i64 q.2.2.2]
theorem quC_size (q : Quad) : (quC q).size = 4 := rfl
def qIn (q : Quad) : Prop := in64 q.1 ∧ in64 q.2.1 ∧ in64 q.2.2.1 ∧ in64 q.2.2.2
theorem pick_nat6 (c : Int) : ∃ k : Nat, pickP c 6 = ((k : Nat) : Int) ∧ k < 6 := by
 have := pickP_in (c := c) (n := 6) (by omega)
 exact ⟨(pickP c 6).toNat, by omega, by omega⟩
theorem take_end8 {α : Type} {l : List α} {i : Nat} (h : i = 8 ∨ (i = l.length ∧ i ≤ 8)) : l.take i = l.take 8 := by
 rcases h with rfl | ⟨h1, h2⟩
 ·rfl
 ·rw [List.take_of_length_le (by omega), List.take_of_length_le (by omega)]
theorem texts_cell {w : World} {b k : Nat} {p : Int} (h : Box w b 9 #[(.string (bstr ([72, 105]))), (.string (bstr ([82, 97, 105, 110, 32, 101, 120, 112, 101, 99, 116, 101, 100, 32, 105, 110, 32, 116, 104, 101, 32, 110, 111, 114, 116, 104]))), (.string (bstr ([71, 111, 111, 100, 32, 101, 118, 101, 110, 105, 110, 103, 44, 32, 97, 110, 100, 32, 119, 101, 108, 99, 111, 109, 101, 32, 116, 111, 32, 116, 104, 101, 32, 112, 114, 111, 103, 114, 97, 109, 109, 101]))), (.string (bstr ([71, 111, 97, 108, 33]))), (.string (bstr ([73, 116, 32, 105, 115, 32, 110, 111, 119, 32, 110, 105, 110, 101, 32, 111, 39, 99, 108, 111, 99, 107, 44, 32, 97, 110, 100, 32, 104, 101, 114, 101, 32, 97, 114, 101, 32, 116, 104, 101, 32, 104, 101, 97, 100, 108, 105, 110, 101, 115, 32, 111, 102, 32, 116, 104, 105, 115, 32, 100, 97, 121, 32, 105, 110, 32, 116, 104, 101, 32, 99, 105, 116, 121]))), (.string (bstr ([78, 111, 46])))]) (hp : p = ((k : Nat) : Int)) (hk : k < 6) : w.cell? ⟨b, 0 + k * 1, none⟩ = some (.string (bstr (texts6.getD p.toNat []))) := by
 subst hp
 match k, hk with
 | 0, _ => exact h.cell rfl
 | 1, _ => exact h.cell rfl
 | 2, _ => exact h.cell rfl
 | 3, _ => exact h.cell rfl
 | 4, _ => exact h.cell rfl
 | 5, _ => exact h.cell rfl
set_option maxRecDepth 100000 in
set_option maxHeartbeats 4000000 in
theorem make_any (A : Option Addr) (c : Nat) (x : List Quad) (w : World) (hr : IsRow 4 quC w A x) (hin : ∀ q ∈ x, qIn q) : Calls Tryd.prog 13 #[.slice A x.length c] w fun e w' => ∃ B c', e = .returned (.slice B (makeP x).length c') ∧ Below w.heap.size w w' ∧ (rowsR w.heap.size 23 5 cuC okT feF (.slice B (makeP x).length c') (makeP x)).F w' := by
 have HP := (Hp.start w).keepF (rowF 4 quC A x) hr (rowF_ok _ _ _ _) fun k hk => ⟨hr.lt k hk, fun x hx => by cases hx⟩
 refine w_enter 60 [(0, (.slice A x.length c))] Tryd.func13 rfl Tryd.ntmps13 (by kernel_rfl) (by kernel_rfl) fun a H => ?_
 refine wp_seq (w_region ?_)
 refine H.ge HP [(2, (.slice none 0 0))] [] fun a H => ?_
 refine then_normal (wp_seq (w_region ?_))
 refine H.alloc HP 7 (fun b => (.slice (some ⟨b, 0, none⟩) 6 6)) 9 [(.string (bstr ([72, 105]))), (.string (bstr ([82, 97, 105, 110, 32, 101, 120, 112, 101, 99, 116, 101, 100, 32, 105, 110, 32, 116, 104, 101, 32, 110, 111, 114, 116, 104]))), (.string (bstr ([71, 111, 111, 100, 32, 101, 118, 101, 110, 105, 110, 103, 44, 32, 97, 110, 100, 32, 119, 101, 108, 99, 111, 109, 101, 32, 116, 111, 32, 116, 104, 101, 32, 112, 114, 111, 103, 114, 97, 109, 109, 101]))), (.string (bstr ([71, 111, 97, 108, 33]))), (.string (bstr ([73, 116, 32, 105, 115, 32, 110, 111, 119, 32, 110, 105, 110, 101, 32, 111, 39, 99, 108, 111, 99, 107, 44, 32, 97, 110, 100, 32, 104, 101, 114, 101, 32, 97, 114, 101, 32, 116, 104, 101, 32, 104, 101, 97, 100, 108, 105, 110, 101, 115, 32, 111, 102, 32, 116, 104, 105, 115, 32, 100, 97, 121, 32, 105, 110, 32, 116, 104, 101, 32, 99, 105, 116, 121]))), (.string (bstr ([78, 111, 46])))] (by kernel_rfl) (fun w => by kernel_rfl) fun b_1 w_2 a H HP => ?_
 refine H.ge HP [(3, (.slice (some ⟨b_1, 0, none⟩) 6 6))] [] fun a H => ?_
 have HP : Hp w w_2 [bx b_1 9 [(.string (bstr ([72, 105]))), (.string (bstr ([82, 97, 105, 110, 32, 101, 120, 112, 101, 99, 116, 101, 100, 32, 105, 110, 32, 116, 104, 101, 32, 110, 111, 114, 116, 104]))), (.string (bstr ([71, 111, 111, 100, 32, 101, 118, 101, 110, 105, 110, 103, 44, 32, 97, 110, 100, 32, 119, 101, 108, 99, 111, 109, 101, 32, 116, 111, 32, 116, 104, 101, 32, 112, 114, 111, 103, 114, 97, 109, 109, 101]))), (.string (bstr ([71, 111, 97, 108, 33]))), (.string (bstr ([73, 116, 32, 105, 115, 32, 110, 111, 119, 32, 110, 105, 110, 101, 32, 111, 39, 99, 108, 111, 99, 107, 44, 32, 97, 110, 100, 32, 104, 101, 114, 101, 32, 97, 114, 101, 32, 116, 104, 101, 32, 104, 101, 97, 100, 108, 105, 110, 101, 115, 32, 111, 102, 32, 116, 104, 105, 115, 32, 100, 97, 121, 32, 105, 110, 32, 116, 104, 101, 32, 99, 105, 116, 121]))), (.string (bstr ([78, 111, 46])))] true] [rowF 4 quC A x] := HP
 refine then_normal (wp_seq (w_region ?_))
 refine H.ge HP [(4, (.slice none 0 0))] [] fun a H => ?_
 refine then_normal (wp_seq (wp_seq (w_region ?_)))
 refine H.ge HP [(5, (ii 0))] [] fun a H => ?_
 refine then_normal (wp_block ?_)
 have HP := HP.nilRow w.heap.size 23 5 cuC okT feF elOk_flat
 refine w_loop (fun mm a wv => ∃ (i : Nat), ∃ (RA : Option Addr), ∃ (rc : Nat), ∃ (l : List Cue), ∃ (bt : Nat), 8 - i = mm ∧ Sl 60 [(5, (ii i)), (4, (.slice RA l.length rc)), (3, (.slice (some ⟨bt, 0, none⟩) 6 6)), (0, (.slice A x.length c))] a ∧ Hp w wv [(rowsR w.heap.size 23 5 cuC okT feF (.slice RA l.length rc) l), bx bt 9 [(.string (bstr ([72, 105]))), (.string (bstr ([82, 97, 105, 110, 32, 101, 120, 112, 101, 99, 116, 101, 100, 32, 105, 110, 32, 116, 104, 101, 32, 110, 111, 114, 116, 104]))), (.string (bstr ([71, 111, 111, 100, 32, 101, 118, 101, 110, 105, 110, 103, 44, 32, 97, 110, 100, 32, 119, 101, 108, 99, 111, 109, 101, 32, 116, 111, 32, 116, 104, 101, 32, 112, 114, 111, 103, 114, 97, 109, 109, 101]))), (.string (bstr ([71, 111, 97, 108, 33]))), (.string (bstr ([73, 116, 32, 105, 115, 32, 110, 111, 119, 32, 110, 105, 110, 101, 32, 111, 39, 99, 108, 111, 99, 107, 44, 32, 97, 110, 100, 32, 104, 101, 114, 101, 32, 97, 114, 101, 32, 116, 104, 101, 32, 104, 101, 97, 100, 108, 105, 110, 101, 115, 32, 111, 102, 32, 116, 104, 105, 115, 32, 100, 97, 121, 32, 105, 110, 32, 116, 104, 101, 32, 99, 105, 116, 121]))), (.string (bstr ([78, 111, 46])))] true] [rowF 4 quC A x] ∧ (i ≤ x.length ∧ i ≤ 8) ∧ (l = makeG 0 (x.take i))) (8 - 0) ?_ ?_
 ·exact ⟨0, none, 0, [], b_1, (by omega), H.keep (by kernel_rfl), HP, ⟨Nat.zero_le _, Nat.zero_le _⟩, rfl⟩
 rintro mm a w_3 ⟨i, RA, rc, l, bt, hmeas, H, HP, hi, hrel⟩
 have hll : l.length = i := by rw [hrel, makeG_len, List.length_take]; omega
 refine wp_seq (wp_seq (w_region ?_))
 refine H.go HP 5 [(12, (.bool (decide ((i : Int) < (x.length : Int)))))] [] fun a H => ?_
 refine H.split 12 rfl (fun g12 H => ?_) (fun g12 H => ?_)
 ·have g12p := of_decide_eq_true g12
  refine H.ge HP [(15, (.bool (decide ((i : Int) < 8))))] [] fun a H => ?_
  refine then_normal ?_
  refine w_if H rfl (fun g15 => ?_) (fun g15 => ?_)
  ·have g15p := of_decide_eq_true g15
   refine wp_skip (then_normal (wp_seq (wp_block ?_)))
   refine w_cut (fun a wv => ∃ (bu : Nat), ∃ (ou : Nat), ∃ (q : Quad), ∃ (b6 : Nat), Sl 60 [(6, (pt b6 0)), (0, (.slice A x.length c)), (3, (.slice (some ⟨bt, 0, none⟩) 6 6)), (4, (.slice RA l.length rc)), (5, (ii i))] a ∧ Hp w wv [bx b6 23 [(ii ((i : Int) + 1)), (ii (pickP q.1 400)), (ii 0), (ii (pickP q.2.2.1 3)), (.string (bstr (texts6.getD (pickP q.2.2.2 6).toNat [])))] true, (rowsR w.heap.size 23 5 cuC okT feF (.slice RA l.length rc) l), bx bt 9 [(.string (bstr ([72, 105]))), (.string (bstr ([82, 97, 105, 110, 32, 101, 120, 112, 101, 99, 116, 101, 100, 32, 105, 110, 32, 116, 104, 101, 32, 110, 111, 114, 116, 104]))), (.string (bstr ([71, 111, 111, 100, 32, 101, 118, 101, 110, 105, 110, 103, 44, 32, 97, 110, 100, 32, 119, 101, 108, 99, 111, 109, 101, 32, 116, 111, 32, 116, 104, 101, 32, 112, 114, 111, 103, 114, 97, 109, 109, 101]))), (.string (bstr ([71, 111, 97, 108, 33]))), (.string (bstr ([73, 116, 32, 105, 115, 32, 110, 111, 119, 32, 110, 105, 110, 101, 32, 111, 39, 99, 108, 111, 99, 107, 44, 32, 97, 110, 100, 32, 104, 101, 114, 101, 32, 97, 114, 101, 32, 116, 104, 101, 32, 104, 101, 97, 100, 108, 105, 110, 101, 115, 32, 111, 102, 32, 116, 104, 105, 115, 32, 100, 97, 121, 32, 105, 110, 32, 116, 104, 101, 32, 99, 105, 116, 121]))), (.string (bstr ([78, 111, 46])))] true] [rowF 4 quC A x] ∧ (A = some ⟨bu, ou, none⟩) ∧ (x[i]? = some q) ∧ (qIn q)) ?_ ?_
   ·
    refine An.start (fun v => Hp w v [(rowsR w.heap.size 23 5 cuC okT feF (.slice RA l.length rc) l), bx bt 9 [(.string (bstr ([72, 105]))), (.string (bstr ([82, 97, 105, 110, 32, 101, 120, 112, 101, 99, 116, 101, 100, 32, 105, 110, 32, 116, 104, 101, 32, 110, 111, 114, 116, 104]))), (.string (bstr ([71, 111, 111, 100, 32, 101, 118, 101, 110, 105, 110, 103, 44, 32, 97, 110, 100, 32, 119, 101, 108, 99, 111, 109, 101, 32, 116, 111, 32, 116, 104, 101, 32, 112, 114, 111, 103, 114, 97, 109, 109, 101]))), (.string (bstr ([71, 111, 97, 108, 33]))), (.string (bstr ([73, 116, 32, 105, 115, 32, 110, 111, 119, 32, 110, 105, 110, 101, 32, 111, 39, 99, 108, 111, 99, 107, 44, 32, 97, 110, 100, 32, 104, 101, 114, 101, 32, 97, 114, 101, 32, 116, 104, 101, 32, 104, 101, 97, 100, 108, 105, 110, 101, 115, 32, 111, 102, 32, 116, 104, 105, 115, 32, 100, 97, 121, 32, 105, 110, 32, 116, 104, 101, 32, 99, 105, 116, 121]))), (.string (bstr ([78, 111, 46])))] true] [rowF 4 quC A x]) 27 28 HP wide_follows rfl fun w_4 HP => ?_
    refine An.go H (.inr (HP)) 27 [0] [(18, (ii i))] [] fun a H => ?_
    refine An.pureE H (.inr (HP)) 1 19 (ii (IntKind.i64.wrap ((i : Int) + 1))) (ii ((i : Int) + 1)) rfl (by kernel_rfl) (by kernel_rfl) (fun _ _ _ h => h) (fun _ => by kernel_rfl) ((by rw [wrap_ini64 _ (by omega)])) fun a H => ?_
    refine An.go H (.inr (HP)) 24 [2, 3] [(20, (.slice A x.length c)), (21, (ii i))] [] fun a H => ?_
    obtain ⟨bu, ou, q, hA, _, hd, hx, hm, _⟩ := IsRow.get quC_size (HP.fact 0 rfl : IsRow 4 quC _ A x) (i := i) (by omega)
    have hq := hin q hm
    refine An.pure H (.inr (HP)) 4 22 (.pointer (some ⟨bu, ou + i * 4, none⟩)) rfl (by kernel_rfl) (by kernel_rfl) (fun _ _ _ h => h) (fun _ => ex_indexA (b := bu) (off := ou) (len := x.length) (cap := c) (e := 53) (k := 4) (ik := .i64) (i := (i : Int)) (m := i) hA (by kernel_rfl) (by kernel_rfl) rfl (by omega) (by kernel_rfl) (by kernel_rfl)) fun a H => ?_
    refine An.p H (.inr HP) 5 23 (.pointer (some ⟨bu, ou + i * 4, none⟩)) fun a H => ?_
    refine An.val H (HP) 6 24 (ii q.1) rfl (by kernel_rfl) (by kernel_rfl) (fun _ _ _ h => h) (fun _ hS => ex_l1 (IsRow.cells quC_size (hS.fact 0 rfl : IsRow 4 quC _ A x) hA hx 0 _ rfl)) fun a H => ?_
    refine An.go H (.inr (HP)) 19 [8, 9] [(26, (.slice A x.length c)), (27, (ii i))] [] fun a H => ?_
    refine An.pure H (.inr (HP)) 10 28 (.pointer (some ⟨bu, ou + i * 4, none⟩)) rfl (by kernel_rfl) (by kernel_rfl) (fun _ _ _ h => h) (fun _ => ex_indexA (b := bu) (off := ou) (len := x.length) (cap := c) (e := 53) (k := 4) (ik := .i64) (i := (i : Int)) (m := i) hA (by kernel_rfl) (by kernel_rfl) rfl (by omega) (by kernel_rfl) (by kernel_rfl)) fun a H => ?_
    refine An.p H (.inr HP) 11 29 (.pointer (some ⟨bu, ou + i * 4 + 2, none⟩)) fun a H => ?_
    refine An.val H (HP) 12 30 (ii q.2.2.1) rfl (by kernel_rfl) (by kernel_rfl) (fun _ _ _ h => h) (fun _ hS => ex_l1 (IsRow.cells quC_size (hS.fact 0 rfl : IsRow 4 quC _ A x) hA hx 2 _ rfl)) fun a H => ?_
    refine An.go H (.inr (HP)) 13 [14, 15, 16] [(32, (.slice (some ⟨bt, 0, none⟩) 6 6)), (33, (.slice A x.length c)), (34, (ii i))] [] fun a H => ?_
    refine An.pure H (.inr (HP)) 17 35 (.pointer (some ⟨bu, ou + i * 4, none⟩)) rfl (by kernel_rfl) (by kernel_rfl) (fun _ _ _ h => h) (fun _ => ex_indexA (b := bu) (off := ou) (len := x.length) (cap := c) (e := 53) (k := 4) (ik := .i64) (i := (i : Int)) (m := i) hA (by kernel_rfl) (by kernel_rfl) rfl (by omega) (by kernel_rfl) (by kernel_rfl)) fun a H => ?_
    refine An.p H (.inr HP) 18 36 (.pointer (some ⟨bu, ou + i * 4 + 3, none⟩)) fun a H => ?_
    refine An.val H (HP) 19 37 (ii q.2.2.2) rfl (by kernel_rfl) (by kernel_rfl) (fun _ _ _ h => h) (fun _ hS => ex_l1 (IsRow.cells quC_size (hS.fact 0 rfl : IsRow 4 quC _ A x) hA hx 3 _ rfl)) fun a H => ?_
    refine An.go H (.inr (HP)) 8 [20, 21] [(39, (ii 6))] [] fun a H => ?_
    refine An.two 7 26 (by kernel_rfl) ?_ ?_
    ·refine Op.call H 25 rfl (by kernel_rfl) (Eq.trans (by kernel_rfl : _ = (callFunc 14 #[(ii q.1), (ii 400)]).run Tryd.prog w_4) (Tryd.call14 _ _)) (pick_any q.1 400 w_4 hq.1 (by omega)) ?_
     rintro e w_5 ⟨rfl, hbp⟩
     refine ⟨_, rfl, ?_⟩
     intro a H
     have HP := HP.next hbp
     refine ⟨.inr (HP), ?_⟩
     refine An.two 13 26 (by kernel_rfl) ?_ ?_
     ·refine Op.call H 31 rfl (by kernel_rfl) (Eq.trans (by kernel_rfl : _ = (callFunc 14 #[(ii q.2.2.1), (ii 3)]).run Tryd.prog w_5) (Tryd.call14 _ _)) (pick_any q.2.2.1 3 w_5 hq.2.2.1 (by omega)) ?_
      rintro e w_6 ⟨rfl, hbp⟩
      refine ⟨_, rfl, ?_⟩
      intro a H
      have HP := HP.next hbp
      refine ⟨.inr (HP), ?_⟩
      refine An.two 22 26 (by kernel_rfl) ?_ ?_
      ·refine Op.call H 40 rfl (by kernel_rfl) (Eq.trans (by kernel_rfl : _ = (callFunc 14 #[(ii q.2.2.2), (ii 6)]).run Tryd.prog w_6) (Tryd.call14 _ _)) (pick_any q.2.2.2 6 w_6 hq.2.2.2 (by omega)) ?_
       rintro e w_7 ⟨rfl, hbp⟩
       refine ⟨_, rfl, ?_⟩
       intro a H
       have HP := HP.next hbp
       refine ⟨.inr (HP), ?_⟩
       obtain ⟨kt, hkt, hkt6⟩ : ∃ k : Nat, pickP q.2.2.2 6 = (k : Int) ∧ k < 6 := pick_nat6 _
       refine An.pure H (.inr (HP)) 23 41 (.pointer (some ⟨bt, 0 + kt * 1, none⟩)) rfl (by kernel_rfl) (by kernel_rfl) (fun _ _ _ h => h) (fun _ => ex_index (b := bt) (off := 0) (len := 6) (cap := 6) (e := 9) (k := 1) (ik := .i64) (i := pickP q.2.2.2 6) (m := kt) (by kernel_rfl) (by kernel_rfl) hkt (by omega) (by kernel_rfl) (by kernel_rfl)) fun a H => ?_
       refine An.val H (HP) 24 42 (.string (bstr (texts6.getD (pickP q.2.2.2 6).toNat []))) rfl (by kernel_rfl) (by kernel_rfl) (fun _ _ _ h => h) (fun _ hS => ex_load1 (p := ⟨bt, 0 + kt * 1, none⟩) (by kernel_rfl) (by kernel_rfl) (texts_cell (hS.at_ 1 rfl) hkt hkt6)) fun a H => ?_
       refine An.go H (.inr (HP)) 2 [25] [(43, (.agg #[(ii ((i : Int) + 1)), (ii (pickP q.1 400)), (ii 0), (ii (pickP q.2.2.1 3)), (.string (bstr (texts6.getD (pickP q.2.2.2 6).toNat [])))]))] [] fun a H => ?_
       refine An.one 26 (by kernel_rfl) ?_
       refine Op.alloc H HP 6 (fun b => (pt b 0)) 23 [(ii 0), (ii 0), (ii 0), (ii 0), (.string (bstr ([])))] rfl (by kernel_rfl) (fun w => by kernel_rfl) fun b_8 w_9 a H HP => ?_
       refine ⟨.inr ((HP.tail rfl)), ?_⟩
       refine An.one 27 (by kernel_rfl) ?_
       refine Op.sh H HP 0 0 (.agg #[(ii ((i : Int) + 1)), (ii (pickP q.1 400)), (ii 0), (ii (pickP q.2.2.1 3)), (.string (bstr (texts6.getD (pickP q.2.2.2 6).toNat [])))]) rfl rfl fun w_10 a H HP => ?_
       refine ⟨.inl (by kernel_rfl), ?_⟩
       refine An.done (by kernel_rfl) ?_
       refine then_normal ?_
       exact ⟨bu, ou, q, b_8, H.keep (by kernel_rfl), HP, hA, hx, hq⟩
      ·refine Op.alloc H HP 6 (fun b => (pt b 0)) 23 [(ii 0), (ii 0), (ii 0), (ii 0), (.string (bstr ([])))] rfl (by kernel_rfl) (fun w => by kernel_rfl) fun b_11 w_12 a H HP => ?_
       refine ⟨.inr ((HP.tail rfl)), ?_⟩
       refine An.one 22 (by kernel_rfl) ?_
       refine Op.call H 40 rfl (by kernel_rfl) (Eq.trans (by kernel_rfl : _ = (callFunc 14 #[(ii q.2.2.2), (ii 6)]).run Tryd.prog w_12) (Tryd.call14 _ _)) (pick_any q.2.2.2 6 w_12 hq.2.2.2 (by omega)) ?_
       rintro e w_13 ⟨rfl, hbp⟩
       refine ⟨_, rfl, ?_⟩
       intro a H
       have HP := HP.next hbp
       refine ⟨.inr ((HP.tail rfl)), ?_⟩
       obtain ⟨kt, hkt, hkt6⟩ : ∃ k : Nat, pickP q.2.2.2 6 = (k : Int) ∧ k < 6 := pick_nat6 _
       refine An.pure H (.inr ((HP.tail rfl))) 23 41 (.pointer (some ⟨bt, 0 + kt * 1, none⟩)) rfl (by kernel_rfl) (by kernel_rfl) (fun _ _ _ h => h) (fun _ => ex_index (b := bt) (off := 0) (len := 6) (cap := 6) (e := 9) (k := 1) (ik := .i64) (i := pickP q.2.2.2 6) (m := kt) (by kernel_rfl) (by kernel_rfl) hkt (by omega) (by kernel_rfl) (by kernel_rfl)) fun a H => ?_
       refine An.val H ((HP.tail rfl)) 24 42 (.string (bstr (texts6.getD (pickP q.2.2.2 6).toNat []))) rfl (by kernel_rfl) (by kernel_rfl) (fun _ _ _ h => h) (fun _ hS => ex_load1 (p := ⟨bt, 0 + kt * 1, none⟩) (by kernel_rfl) (by kernel_rfl) (texts_cell (hS.at_ 1 rfl) hkt hkt6)) fun a H => ?_
       refine An.go H (.inr ((HP.tail rfl))) 1 [25] [(43, (.agg #[(ii ((i : Int) + 1)), (ii (pickP q.1 400)), (ii 0), (ii (pickP q.2.2.1 3)), (.string (bstr (texts6.getD (pickP q.2.2.2 6).toNat [])))]))] [] fun a H => ?_
       refine An.one 27 (by kernel_rfl) ?_
       refine Op.sh H HP 0 0 (.agg #[(ii ((i : Int) + 1)), (ii (pickP q.1 400)), (ii 0), (ii (pickP q.2.2.1 3)), (.string (bstr (texts6.getD (pickP q.2.2.2 6).toNat [])))]) rfl rfl fun w_14 a H HP => ?_
       refine ⟨.inl (by kernel_rfl), ?_⟩
       refine An.done (by kernel_rfl) ?_
       refine then_normal ?_
       exact ⟨bu, ou, q, b_11, H.keep (by kernel_rfl), HP, hA, hx, hq⟩
     ·refine Op.alloc H HP 6 (fun b => (pt b 0)) 23 [(ii 0), (ii 0), (ii 0), (ii 0), (.string (bstr ([])))] rfl (by kernel_rfl) (fun w => by kernel_rfl) fun b_15 w_16 a H HP => ?_
      refine ⟨.inr ((HP.tail rfl)), ?_⟩
      refine An.one 13 (by kernel_rfl) ?_
      refine Op.call H 31 rfl (by kernel_rfl) (Eq.trans (by kernel_rfl : _ = (callFunc 14 #[(ii q.2.2.1), (ii 3)]).run Tryd.prog w_16) (Tryd.call14 _ _)) (pick_any q.2.2.1 3 w_16 hq.2.2.1 (by omega)) ?_
      rintro e w_17 ⟨rfl, hbp⟩
      refine ⟨_, rfl, ?_⟩
      intro a H
      have HP := HP.next hbp
      refine ⟨.inr ((HP.tail rfl)), ?_⟩
      refine An.one 22 (by kernel_rfl) ?_
      refine Op.call H 40 rfl (by kernel_rfl) (Eq.trans (by kernel_rfl : _ = (callFunc 14 #[(ii q.2.2.2), (ii 6)]).run Tryd.prog w_17) (Tryd.call14 _ _)) (pick_any q.2.2.2 6 w_17 hq.2.2.2 (by omega)) ?_
      rintro e w_18 ⟨rfl, hbp⟩
      refine ⟨_, rfl, ?_⟩
      intro a H
      have HP := HP.next hbp
      refine ⟨.inr ((HP.tail rfl)), ?_⟩
      obtain ⟨kt, hkt, hkt6⟩ : ∃ k : Nat, pickP q.2.2.2 6 = (k : Int) ∧ k < 6 := pick_nat6 _
      refine An.pure H (.inr ((HP.tail rfl))) 23 41 (.pointer (some ⟨bt, 0 + kt * 1, none⟩)) rfl (by kernel_rfl) (by kernel_rfl) (fun _ _ _ h => h) (fun _ => ex_index (b := bt) (off := 0) (len := 6) (cap := 6) (e := 9) (k := 1) (ik := .i64) (i := pickP q.2.2.2 6) (m := kt) (by kernel_rfl) (by kernel_rfl) hkt (by omega) (by kernel_rfl) (by kernel_rfl)) fun a H => ?_
      refine An.val H ((HP.tail rfl)) 24 42 (.string (bstr (texts6.getD (pickP q.2.2.2 6).toNat []))) rfl (by kernel_rfl) (by kernel_rfl) (fun _ _ _ h => h) (fun _ hS => ex_load1 (p := ⟨bt, 0 + kt * 1, none⟩) (by kernel_rfl) (by kernel_rfl) (texts_cell (hS.at_ 1 rfl) hkt hkt6)) fun a H => ?_
      refine An.go H (.inr ((HP.tail rfl))) 1 [25] [(43, (.agg #[(ii ((i : Int) + 1)), (ii (pickP q.1 400)), (ii 0), (ii (pickP q.2.2.1 3)), (.string (bstr (texts6.getD (pickP q.2.2.2 6).toNat [])))]))] [] fun a H => ?_
      refine An.one 27 (by kernel_rfl) ?_
      refine Op.sh H HP 0 0 (.agg #[(ii ((i : Int) + 1)), (ii (pickP q.1 400)), (ii 0), (ii (pickP q.2.2.1 3)), (.string (bstr (texts6.getD (pickP q.2.2.2 6).toNat [])))]) rfl rfl fun w_19 a H HP => ?_
      refine ⟨.inl (by kernel_rfl), ?_⟩
      refine An.done (by kernel_rfl) ?_
      refine then_normal ?_
      exact ⟨bu, ou, q, b_15, H.keep (by kernel_rfl), HP, hA, hx, hq⟩
    ·refine Op.alloc H HP 6 (fun b => (pt b 0)) 23 [(ii 0), (ii 0), (ii 0), (ii 0), (.string (bstr ([])))] rfl (by kernel_rfl) (fun w => by kernel_rfl) fun b_20 w_21 a H HP => ?_
     refine ⟨.inr ((HP.tail rfl)), ?_⟩
     refine An.one 7 (by kernel_rfl) ?_
     refine Op.call H 25 rfl (by kernel_rfl) (Eq.trans (by kernel_rfl : _ = (callFunc 14 #[(ii q.1), (ii 400)]).run Tryd.prog w_21) (Tryd.call14 _ _)) (pick_any q.1 400 w_21 hq.1 (by omega)) ?_
     rintro e w_22 ⟨rfl, hbp⟩
     refine ⟨_, rfl, ?_⟩
     intro a H
     have HP := HP.next hbp
     refine ⟨.inr ((HP.tail rfl)), ?_⟩
     refine An.one 13 (by kernel_rfl) ?_
     refine Op.call H 31 rfl (by kernel_rfl) (Eq.trans (by kernel_rfl : _ = (callFunc 14 #[(ii q.2.2.1), (ii 3)]).run Tryd.prog w_22) (Tryd.call14 _ _)) (pick_any q.2.2.1 3 w_22 hq.2.2.1 (by omega)) ?_
     rintro e w_23 ⟨rfl, hbp⟩
     refine ⟨_, rfl, ?_⟩
     intro a H
     have HP := HP.next hbp
     refine ⟨.inr ((HP.tail rfl)), ?_⟩
     refine An.one 22 (by kernel_rfl) ?_
     refine Op.call H 40 rfl (by kernel_rfl) (Eq.trans (by kernel_rfl : _ = (callFunc 14 #[(ii q.2.2.2), (ii 6)]).run Tryd.prog w_23) (Tryd.call14 _ _)) (pick_any q.2.2.2 6 w_23 hq.2.2.2 (by omega)) ?_
     rintro e w_24 ⟨rfl, hbp⟩
     refine ⟨_, rfl, ?_⟩
     intro a H
     have HP := HP.next hbp
     refine ⟨.inr ((HP.tail rfl)), ?_⟩
     obtain ⟨kt, hkt, hkt6⟩ : ∃ k : Nat, pickP q.2.2.2 6 = (k : Int) ∧ k < 6 := pick_nat6 _
     refine An.pure H (.inr ((HP.tail rfl))) 23 41 (.pointer (some ⟨bt, 0 + kt * 1, none⟩)) rfl (by kernel_rfl) (by kernel_rfl) (fun _ _ _ h => h) (fun _ => ex_index (b := bt) (off := 0) (len := 6) (cap := 6) (e := 9) (k := 1) (ik := .i64) (i := pickP q.2.2.2 6) (m := kt) (by kernel_rfl) (by kernel_rfl) hkt (by omega) (by kernel_rfl) (by kernel_rfl)) fun a H => ?_
     refine An.val H ((HP.tail rfl)) 24 42 (.string (bstr (texts6.getD (pickP q.2.2.2 6).toNat []))) rfl (by kernel_rfl) (by kernel_rfl) (fun _ _ _ h => h) (fun _ hS => ex_load1 (p := ⟨bt, 0 + kt * 1, none⟩) (by kernel_rfl) (by kernel_rfl) (texts_cell (hS.at_ 1 rfl) hkt hkt6)) fun a H => ?_
     refine An.go H (.inr ((HP.tail rfl))) 1 [25] [(43, (.agg #[(ii ((i : Int) + 1)), (ii (pickP q.1 400)), (ii 0), (ii (pickP q.2.2.1 3)), (.string (bstr (texts6.getD (pickP q.2.2.2 6).toNat [])))]))] [] fun a H => ?_
     refine An.one 27 (by kernel_rfl) ?_
     refine Op.sh H HP 0 0 (.agg #[(ii ((i : Int) + 1)), (ii (pickP q.1 400)), (ii 0), (ii (pickP q.2.2.1 3)), (.string (bstr (texts6.getD (pickP q.2.2.2 6).toNat [])))]) rfl rfl fun w_25 a H HP => ?_
     refine ⟨.inl (by kernel_rfl), ?_⟩
     refine An.done (by kernel_rfl) ?_
     refine then_normal ?_
     exact ⟨bu, ou, q, b_20, H.keep (by kernel_rfl), HP, hA, hx, hq⟩
   ·
    rintro a w_26 ⟨bu, ou, q, b6, H, HP, hA, hx, hq⟩
    refine w_cut (fun a wv => Sl 60 [(6, (pt b6 0)), (0, (.slice A x.length c)), (3, (.slice (some ⟨bt, 0, none⟩) 6 6)), (4, (.slice RA l.length rc)), (5, (ii i))] a ∧ Hp w wv [bx b6 23 [(ii ((i : Int) + 1)), (ii (pickP q.1 400)), (ii (pickP q.1 400 + 1 + pickP q.2.1 150)), (ii (pickP q.2.2.1 3)), (.string (bstr (texts6.getD (pickP q.2.2.2 6).toNat [])))] true, (rowsR w.heap.size 23 5 cuC okT feF (.slice RA l.length rc) l), bx bt 9 [(.string (bstr ([72, 105]))), (.string (bstr ([82, 97, 105, 110, 32, 101, 120, 112, 101, 99, 116, 101, 100, 32, 105, 110, 32, 116, 104, 101, 32, 110, 111, 114, 116, 104]))), (.string (bstr ([71, 111, 111, 100, 32, 101, 118, 101, 110, 105, 110, 103, 44, 32, 97, 110, 100, 32, 119, 101, 108, 99, 111, 109, 101, 32, 116, 111, 32, 116, 104, 101, 32, 112, 114, 111, 103, 114, 97, 109, 109, 101]))), (.string (bstr ([71, 111, 97, 108, 33]))), (.string (bstr ([73, 116, 32, 105, 115, 32, 110, 111, 119, 32, 110, 105, 110, 101, 32, 111, 39, 99, 108, 111, 99, 107, 44, 32, 97, 110, 100, 32, 104, 101, 114, 101, 32, 97, 114, 101, 32, 116, 104, 101, 32, 104, 101, 97, 100, 108, 105, 110, 101, 115, 32, 111, 102, 32, 116, 104, 105, 115, 32, 100, 97, 121, 32, 105, 110, 32, 116, 104, 101, 32, 99, 105, 116, 121]))), (.string (bstr ([78, 111, 46])))] true] [rowF 4 quC A x]) ?_ ?_
    ·
     have hp1 := pickP_in (c := q.1) (n := 400) (by omega)
     have hp2 := pickP_in (c := q.2.1) (n := 150) (by omega)
     have HP := HP.front 0 rfl [bx b6 23 [(ii ((i : Int) + 1)), (ii (pickP q.1 400)), (ii 0), (ii (pickP q.2.2.1 3)), (.string (bstr (texts6.getD (pickP q.2.2.2 6).toNat [])))] true, (rowsR w.heap.size 23 5 cuC okT feF (.slice RA l.length rc) l), bx bt 9 [(.string (bstr ([72, 105]))), (.string (bstr ([82, 97, 105, 110, 32, 101, 120, 112, 101, 99, 116, 101, 100, 32, 105, 110, 32, 116, 104, 101, 32, 110, 111, 114, 116, 104]))), (.string (bstr ([71, 111, 111, 100, 32, 101, 118, 101, 110, 105, 110, 103, 44, 32, 97, 110, 100, 32, 119, 101, 108, 99, 111, 109, 101, 32, 116, 111, 32, 116, 104, 101, 32, 112, 114, 111, 103, 114, 97, 109, 109, 101]))), (.string (bstr ([71, 111, 97, 108, 33]))), (.string (bstr ([73, 116, 32, 105, 115, 32, 110, 111, 119, 32, 110, 105, 110, 101, 32, 111, 39, 99, 108, 111, 99, 107, 44, 32, 97, 110, 100, 32, 104, 101, 114, 101, 32, 97, 114, 101, 32, 116, 104, 101, 32, 104, 101, 97, 100, 108, 105, 110, 101, 115, 32, 111, 102, 32, 116, 104, 105, 115, 32, 100, 97, 121, 32, 105, 110, 32, 116, 104, 101, 32, 99, 105, 116, 121]))), (.string (bstr ([78, 111, 46])))] true] (by kernel_rfl)
     refine An.start (fun v => Hp w v [(rowsR w.heap.size 23 5 cuC okT feF (.slice RA l.length rc) l), bx bt 9 [(.string (bstr ([72, 105]))), (.string (bstr ([82, 97, 105, 110, 32, 101, 120, 112, 101, 99, 116, 101, 100, 32, 105, 110, 32, 116, 104, 101, 32, 110, 111, 114, 116, 104]))), (.string (bstr ([71, 111, 111, 100, 32, 101, 118, 101, 110, 105, 110, 103, 44, 32, 97, 110, 100, 32, 119, 101, 108, 99, 111, 109, 101, 32, 116, 111, 32, 116, 104, 101, 32, 112, 114, 111, 103, 114, 97, 109, 109, 101]))), (.string (bstr ([71, 111, 97, 108, 33]))), (.string (bstr ([73, 116, 32, 105, 115, 32, 110, 111, 119, 32, 110, 105, 110, 101, 32, 111, 39, 99, 108, 111, 99, 107, 44, 32, 97, 110, 100, 32, 104, 101, 114, 101, 32, 97, 114, 101, 32, 116, 104, 101, 32, 104, 101, 97, 100, 108, 105, 110, 101, 115, 32, 111, 102, 32, 116, 104, 105, 115, 32, 100, 97, 121, 32, 105, 110, 32, 116, 104, 101, 32, 99, 105, 116, 121]))), (.string (bstr ([78, 111, 46])))] true] [rowF 4 quC A x]) 11 12 HP wide_follows rfl fun w_27 HP => ?_
     refine An.go H (.inr ((HP.tail rfl))) 9 [0, 3, 4] [(44, (pt b6 1)), (47, (.slice A x.length c)), (48, (ii i))] [] fun a H => ?_
     refine An.pure H (.inr ((HP.tail rfl))) 5 49 (.pointer (some ⟨bu, ou + i * 4, none⟩)) rfl (by kernel_rfl) (by kernel_rfl) (fun _ _ _ h => h) (fun _ => ex_indexA (b := bu) (off := ou) (len := x.length) (cap := c) (e := 53) (k := 4) (ik := .i64) (i := (i : Int)) (m := i) hA (by kernel_rfl) (by kernel_rfl) rfl (by omega) (by kernel_rfl) (by kernel_rfl)) fun a H => ?_
     refine An.p H (.inr ((HP.tail rfl))) 6 50 (.pointer (some ⟨bu, ou + i * 4 + 1, none⟩)) fun a H => ?_
     refine An.val H ((HP.tail rfl)) 7 51 (ii q.2.1) rfl (by kernel_rfl) (by kernel_rfl) (fun _ _ _ h => h) (fun _ hS => ex_l1 (IsRow.cells quC_size (hS.fact 0 rfl : IsRow 4 quC _ A x) hA hx 1 _ rfl)) fun a H => ?_
     refine An.two 1 8 (by kernel_rfl) ?_ ?_
     ·refine Op.val H 45 (ii (pickP q.1 400)) rfl (by kernel_rfl) (ex_l1 (HP.cell 0 rfl 1 rfl)) fun a H => ?_
      refine ⟨.inr ((HP.tail rfl)), ?_⟩
      refine An.pureE H (.inr ((HP.tail rfl))) 2 46 (ii (IntKind.i64.wrap ((pickP q.1 400) + 1))) (ii ((pickP q.1 400) + 1)) rfl (by kernel_rfl) (by kernel_rfl) (fun _ _ _ h => h) (fun _ => by kernel_rfl) ((by rw [wrap_ini64 _ (by omega)])) fun a H => ?_
      refine An.one 8 (by kernel_rfl) ?_
      refine Op.call H 52 rfl (by kernel_rfl) (Eq.trans (by kernel_rfl : _ = (callFunc 14 #[(ii q.2.1), (ii 150)]).run Tryd.prog w_27) (Tryd.call14 _ _)) (pick_any q.2.1 150 w_27 hq.2.1 (by omega)) ?_
      rintro e w_28 ⟨rfl, hbp⟩
      refine ⟨_, rfl, ?_⟩
      intro a H
      have HP := HP.next hbp
      refine ⟨.inr ((HP.tail rfl)), ?_⟩
      refine An.pureE H (.inr ((HP.tail rfl))) 9 53 (ii (IntKind.i64.wrap (((pickP q.1 400) + 1) + (pickP q.2.1 150)))) (ii (((pickP q.1 400) + 1) + (pickP q.2.1 150))) rfl (by kernel_rfl) (by kernel_rfl) (fun _ _ _ h => h) (fun _ => by kernel_rfl) ((by rw [wrap_ini64 _ (by omega)])) fun a H => ?_
      refine An.go H (.inr ((HP.tail rfl))) 1 [10] [(54, (pt b6 2))] [] fun a H => ?_
      refine An.one 11 (by kernel_rfl) ?_
      refine Op.sh H HP 0 2 (ii (((pickP q.1 400) + 1) + (pickP q.2.1 150))) rfl rfl fun w_29 a H HP => ?_
      refine ⟨.inl (by kernel_rfl), ?_⟩
      refine An.done (by kernel_rfl) ?_
      refine then_normal ?_
      exact ⟨H.keep (by kernel_rfl), HP⟩
     ·refine Op.call H 52 rfl (by kernel_rfl) (Eq.trans (by kernel_rfl : _ = (callFunc 14 #[(ii q.2.1), (ii 150)]).run Tryd.prog w_27) (Tryd.call14 _ _)) (pick_any q.2.1 150 w_27 hq.2.1 (by omega)) ?_
      rintro e w_30 ⟨rfl, hbp⟩
      refine ⟨_, rfl, ?_⟩
      intro a H
      have HP := HP.next hbp
      refine ⟨.inr ((HP.tail rfl)), ?_⟩
      refine An.one 1 (by kernel_rfl) ?_
      refine Op.val H 45 (ii (pickP q.1 400)) rfl (by kernel_rfl) (ex_l1 (HP.cell 0 rfl 1 rfl)) fun a H => ?_
      refine ⟨.inr ((HP.tail rfl)), ?_⟩
      refine An.pureE H (.inr ((HP.tail rfl))) 2 46 (ii (IntKind.i64.wrap ((pickP q.1 400) + 1))) (ii ((pickP q.1 400) + 1)) rfl (by kernel_rfl) (by kernel_rfl) (fun _ _ _ h => h) (fun _ => by kernel_rfl) ((by rw [wrap_ini64 _ (by omega)])) fun a H => ?_
      refine An.pureE H (.inr ((HP.tail rfl))) 9 53 (ii (IntKind.i64.wrap (((pickP q.1 400) + 1) + (pickP q.2.1 150)))) (ii (((pickP q.1 400) + 1) + (pickP q.2.1 150))) rfl (by kernel_rfl) (by kernel_rfl) (fun _ _ _ h => h) (fun _ => by kernel_rfl) ((by rw [wrap_ini64 _ (by omega)])) fun a H => ?_
      refine An.go H (.inr ((HP.tail rfl))) 1 [10] [(54, (pt b6 2))] [] fun a H => ?_
      refine An.one 11 (by kernel_rfl) ?_
      refine Op.sh H HP 0 2 (ii (((pickP q.1 400) + 1) + (pickP q.2.1 150))) rfl rfl fun w_31 a H HP => ?_
      refine ⟨.inl (by kernel_rfl), ?_⟩
      refine An.done (by kernel_rfl) ?_
      refine then_normal ?_
      exact ⟨H.keep (by kernel_rfl), HP⟩
    ·
     rintro a w_32 ⟨H, HP⟩
     refine w_region ?_
     refine H.go HP 2 [(55, (.slice RA l.length rc)), (56, (.agg #[(ii ((i : Int) + 1)), (ii (pickP q.1 400)), (ii (pickP q.1 400 + 1 + pickP q.2.1 150)), (ii (pickP q.2.2.1 3)), (.string (bstr (texts6.getD (pickP q.2.2.2 6).toNat [])))]))] [0] fun a H => ?_
     refine H.alloc HP 57 (fun b => (.slice (some ⟨b, 0, none⟩) 1 1)) 23 [(ii ((i : Int) + 1)), (ii (pickP q.1 400)), (ii (pickP q.1 400 + 1 + pickP q.2.1 150)), (ii (pickP q.2.2.1 3)), (.string (bstr (texts6.getD (pickP q.2.2.2 6).toNat [])))] (by kernel_rfl) (fun w => by kernel_rfl) fun b_33 w_34 a H HP => ?_
     have HP := HP.pend0 2 rfl elOk_flat (cueP i q) [bx b_33 23 [(ii ((i : Int) + 1)), (ii (pickP q.1 400)), (ii (pickP q.1 400 + 1 + pickP q.2.1 150)), (ii (pickP q.2.2.1 3)), (.string (bstr (texts6.getD (pickP q.2.2.2 6).toNat [])))] true, bx b6 23 [(ii ((i : Int) + 1)), (ii (pickP q.1 400)), (ii (pickP q.1 400 + 1 + pickP q.2.1 150)), (ii (pickP q.2.2.1 3)), (.string (bstr (texts6.getD (pickP q.2.2.2 6).toNat [])))] true, (rowsP w.heap.size 23 5 cuC okT feF (.slice RA l.length rc) l (cueP i q)), bx bt 9 [(.string (bstr ([72, 105]))), (.string (bstr ([82, 97, 105, 110, 32, 101, 120, 112, 101, 99, 116, 101, 100, 32, 105, 110, 32, 116, 104, 101, 32, 110, 111, 114, 116, 104]))), (.string (bstr ([71, 111, 111, 100, 32, 101, 118, 101, 110, 105, 110, 103, 44, 32, 97, 110, 100, 32, 119, 101, 108, 99, 111, 109, 101, 32, 116, 111, 32, 116, 104, 101, 32, 112, 114, 111, 103, 114, 97, 109, 109, 101]))), (.string (bstr ([71, 111, 97, 108, 33]))), (.string (bstr ([73, 116, 32, 105, 115, 32, 110, 111, 119, 32, 110, 105, 110, 101, 32, 111, 39, 99, 108, 111, 99, 107, 44, 32, 97, 110, 100, 32, 104, 101, 114, 101, 32, 97, 114, 101, 32, 116, 104, 101, 32, 104, 101, 97, 100, 108, 105, 110, 101, 115, 32, 111, 102, 32, 116, 104, 105, 115, 32, 100, 97, 121, 32, 105, 110, 32, 116, 104, 101, 32, 99, 105, 116, 121]))), (.string (bstr ([78, 111, 46])))] true] (by kernel_rfl) trivial (fun _ h => h)
     refine H.push HP 58 2 0 (v := (.slice RA l.length rc)) (e := 23) (p := (cueP i q)) (l := l) (cs := cuC) (ok := okT) (fe := feF) (size := 5) (z := (.agg #[(ii 0), (ii 0), (ii 0), (ii 0), (.string (bstr ([])))])) (bytes := 48) (bb := b_33) (tb := 23) (fb := true) (by kernel_rfl) elOk_flat (by kernel_rfl) (by kernel_rfl) rfl (by kernel_rfl) (by kernel_rfl) (by kernel_rfl) (by kernel_rfl) (by kernel_rfl) rfl (by kernel_rfl) (by rw [hll]; unfold maxLen; omega) (by rw [hll]; omega) fun B_35 c_36 w_37 a H HP => ?_
     have HP : Hp w w_37 [bx b_33 23 [(ii ((i : Int) + 1)), (ii (pickP q.1 400)), (ii (pickP q.1 400 + 1 + pickP q.2.1 150)), (ii (pickP q.2.2.1 3)), (.string (bstr (texts6.getD (pickP q.2.2.2 6).toNat [])))] true, bx b6 23 [(ii ((i : Int) + 1)), (ii (pickP q.1 400)), (ii (pickP q.1 400 + 1 + pickP q.2.1 150)), (ii (pickP q.2.2.1 3)), (.string (bstr (texts6.getD (pickP q.2.2.2 6).toNat [])))] true, (rowsR w.heap.size 23 5 cuC okT feF (.slice B_35 (l.length + 1) c_36) (l ++ [(cueP i q)])), bx bt 9 [(.string (bstr ([72, 105]))), (.string (bstr ([82, 97, 105, 110, 32, 101, 120, 112, 101, 99, 116, 101, 100, 32, 105, 110, 32, 116, 104, 101, 32, 110, 111, 114, 116, 104]))), (.string (bstr ([71, 111, 111, 100, 32, 101, 118, 101, 110, 105, 110, 103, 44, 32, 97, 110, 100, 32, 119, 101, 108, 99, 111, 109, 101, 32, 116, 111, 32, 116, 104, 101, 32, 112, 114, 111, 103, 114, 97, 109, 109, 101]))), (.string (bstr ([71, 111, 97, 108, 33]))), (.string (bstr ([73, 116, 32, 105, 115, 32, 110, 111, 119, 32, 110, 105, 110, 101, 32, 111, 39, 99, 108, 111, 99, 107, 44, 32, 97, 110, 100, 32, 104, 101, 114, 101, 32, 97, 114, 101, 32, 116, 104, 101, 32, 104, 101, 97, 100, 108, 105, 110, 101, 115, 32, 111, 102, 32, 116, 104, 105, 115, 32, 100, 97, 121, 32, 105, 110, 32, 116, 104, 101, 32, 99, 105, 116, 121]))), (.string (bstr ([78, 111, 46])))] true] [rowF 4 quC A x] := HP
     refine H.ge HP [(4, (.slice B_35 (l.length + 1) c_36))] [] fun a H => ?_
     refine inb_normal (then_normal (w_region ?_))
     refine H.go HP 1 [(16, (ii i))] [] fun a H => ?_
     refine H.wi 17 ((i : Int) + 1) fun a H => ?_
     refine H.ge HP [(5, (ii ((i : Int) + 1)))] [] fun a H => ?_
     refine then_normal ?_
     have H := H.as 5 (ii ((i + 1 : Nat) : Int)) rfl rfl
     have H := H.as 4 (.slice B_35 ((l ++ [cueP i q]).length) c_36) rfl (congrArg (fun n => Value.slice _ n _) (len_snoc _ _))
     refine ⟨_, ?_, i + 1, B_35, c_36, l ++ [cueP i q], bt, rfl, H.keep (by kernel_rfl), (by have hh := HP.sub [2, 3] [(rowsR w.heap.size 23 5 cuC okT feF (.slice B_35 (l.length + 1) c_36) (l ++ [(cueP i q)])), bx bt 9 [(.string (bstr ([72, 105]))), (.string (bstr ([82, 97, 105, 110, 32, 101, 120, 112, 101, 99, 116, 101, 100, 32, 105, 110, 32, 116, 104, 101, 32, 110, 111, 114, 116, 104]))), (.string (bstr ([71, 111, 111, 100, 32, 101, 118, 101, 110, 105, 110, 103, 44, 32, 97, 110, 100, 32, 119, 101, 108, 99, 111, 109, 101, 32, 116, 111, 32, 116, 104, 101, 32, 112, 114, 111, 103, 114, 97, 109, 109, 101]))), (.string (bstr ([71, 111, 97, 108, 33]))), (.string (bstr ([73, 116, 32, 105, 115, 32, 110, 111, 119, 32, 110, 105, 110, 101, 32, 111, 39, 99, 108, 111, 99, 107, 44, 32, 97, 110, 100, 32, 104, 101, 114, 101, 32, 97, 114, 101, 32, 116, 104, 101, 32, 104, 101, 97, 100, 108, 105, 110, 101, 115, 32, 111, 102, 32, 116, 104, 105, 115, 32, 100, 97, 121, 32, 105, 110, 32, 116, 104, 101, 32, 99, 105, 116, 121]))), (.string (bstr ([78, 111, 46])))] true] (by kernel_rfl) (by kernel_rfl); rw [← show (l ++ [cueP i q]).length = l.length + 1 from (len_snoc _ _).symm] at hh; exact hh), ⟨by omega, by omega⟩, (by rw [take_snoc hx, makeG_snoc, ← hrel, List.length_take, Nat.min_eq_left (by omega), Nat.zero_add])⟩
     omega
  ·have g15p := of_decide_eq_false g15
   refine wp_exit (then_exit (then_exit ?_))
   refine w_exit_here ?_
   refine then_normal (wp_seq (w_region ?_))
   refine H.ge HP [(2, (.slice RA l.length rc))] [] fun a H => ?_
   refine then_normal (wp_ret ?_)
   refine H.ret1 (fn := Tryd.f13) Tryd.results13 (RV.tmp_ (v := (.slice RA l.length rc)) (by kernel_rfl)) ?_
   have hlx : l = makeP x := by rw [hrel]; unfold makeP; rw [show x.take i = x.take 8 from take_end8 (by omega)]
   subst hlx
   exact ⟨RA, rc, rfl, HP.bl, HP.held 0 rfl⟩
 ·have g12p := of_decide_eq_false g12
  refine H.ge HP [(15, (.bool false))] [] fun a H => ?_
  refine then_normal ?_
  refine w_iff H rfl ?_
  refine wp_exit (then_exit (then_exit ?_))
  refine w_exit_here ?_
  refine then_normal (wp_seq (w_region ?_))
  refine H.ge HP [(2, (.slice RA l.length rc))] [] fun a H => ?_
  refine then_normal (wp_ret ?_)
  refine H.ret1 (fn := Tryd.f13) Tryd.results13 (RV.tmp_ (v := (.slice RA l.length rc)) (by kernel_rfl)) ?_
  have hlx : l = makeP x := by rw [hrel]; unfold makeP; rw [show x.take i = x.take 8 from take_end8 (by omega)]
  subst hlx
  exact ⟨RA, rc, rfl, HP.bl, HP.held 0 rfl⟩
def Dec.okk (d : Dec) : Prop := d.buf.length ≤ 95 ∧ d.rows.length ≤ 1000
theorem splitG_len : ∀ (l acc : Str), (splitG acc l).length ≤ l.length + 1
  | [], acc => by simp [splitG]
  | b :: l, acc => by
    simp only [splitG]
    split
    · have := splitG_len l []; simp only [List.length_cons]; omega
    · have := splitG_len l (acc ++ [b]); simp only [List.length_cons]; omega
theorem showP_len {b : Str} {rows : List Str} (hb : b.length ≤ 95) (hr : rows.length ≤ 1000) : (showP b rows).length ≤ 1000 := by
  unfold showP
  split
  · split
    · rename_i s k _ _
      have := splitG_len (b.drop k) []
      rw [List.length_drop] at this
      omega
    · exact hr
  · exact hr
theorem doneP_rows {d : Dec} (h : d.rows.length ≤ 1000) : (doneP d).rows.length ≤ 1000 := by
  unfold doneP
  split
  · exact h
  · split
    · exact h
    · refine showP_len ?_ h
      rw [List.length_take]; omega
theorem feedP_okk {c : Str} {d : Dec} (h : d.okk) : (feedP c d).okk := by
  refine ⟨(feedP_ok c d).len, ?_⟩
  unfold feedP
  split
  · exact h.2
  · split
    · simp
    · split
      · exact doneP_rows h.2
      · split
        · exact doneP_rows h.2
        · exact h.2
theorem dec0_okk : (⟨[], []⟩ : Dec).okk := ⟨Nat.zero_le _, Nat.zero_le _⟩
theorem decRun_okk {code : Nat → Str} {d : Dec} (h : d.okk) : ∀ k, (decRun code d k).okk
  | 0 => h
  | k + 1 => feedP_okk (decRun_okk h k)
theorem dec_lt {b : Nat} {B : Option Addr} {c : Nat} {R : Option Addr} {cr : Nat} {d : Dec} {w : World} (h : (decR b B c R cr d).F w) {k : Nat} (hk : (decR b B c R cr d).fp k) : k < w.heap.size := by
  obtain ⟨h1, h2, h3, _⟩ := h
  rcases hk with hk | hk | hk
  · have hk : k = b := hk
    rw [hk]; exact h1.lt
  · exact rowZ_lt h2 hk
  · exact h3.lt k hk
theorem rdec_lt {b : Nat} {R : Option Addr} {cr : Nat} {d : Dec} {w : World} (h : (rdecR b R cr d).F w) {k : Nat} (hk : (rdecR b R cr d).fp k) : k < w.heap.size := by
  obtain ⟨h1, h3, _⟩ := h
  rcases hk with hk | hk
  · have hk : k = b := hk
    rw [hk]; exact h1.lt
  · exact h3.lt k hk
section
variable {w0 w : World} {L : List HB} {K : List FK}
theorem laid_apart (H : Hp w0 w L K) (i : Nat) {x : HB} (hi : L[i]? = some x) (j : Nat) (hj : K[j]? = some laidK) (k : Nat) (hk : x.fp k) : k ≠ 0 ∧ k ≠ 1 := by
  have h1 := (H.kept _ (List.mem_of_getElem? hj)).2.2
  exact ⟨fun e => (h1 k (.inl e)).2 _ (List.mem_of_getElem? hi) hk, fun e => (h1 k (.inr e)).2 _ (List.mem_of_getElem? hi) hk⟩
theorem feedD (H : Hp w0 w L K) (i : Nat) (b : Nat) (B : Option Addr) (c : Nat) (R : Option Addr) (cr : Nat) (d : Dec) (cd : Str) (hi : L[i]? = some (decR b B c R cr d)) (j : Nat) (hj : K[j]? = some laidK) (hok : d.okk) :
    Calls Tryd.prog 16 #[.pointer (some ⟨b, 0, none⟩), .string (bstr cd)] w fun e w' => e = .returned (.tuple #[]) ∧ ∃ B' c' R' cr', Hp w0 w' (L.set i (decR b B' c' R' cr' (feedP cd d))) K := by
  have hap := laid_apart H i hi j hj
  refine (feed_any b B c R cr d.buf d.rows cd w (H.held i hi) (H.fact j hj) hok.1 (hap b (.inl rfl)) (fun k hk hz => ?_)).mono ?_
  · have := hap k (.inr (.inl hz)); omega
  · rintro e w' ⟨rfl, B', c', R', cr', hF, hag, hfp⟩
    exact ⟨rfl, B', c', R', cr', H.mut i hi _ _ rfl hag hF (decR_ok _ _ _ _ _ _) (fun k hk => dec_lt hF hk) hfp (fun k hk hx => by have := H.fresh _ (List.mem_of_getElem? hi) rfl k hx; omega) rfl⟩
theorem rfeedD (H : Hp w0 w L K) (i : Nat) (b : Nat) (R : Option Addr) (cr : Nat) (d : Dec) (cd : Str) (hi : L[i]? = some (rdecR b R cr d)) (hok : d.okk) :
    Calls Tryd.prog 17 #[.pointer (some ⟨b, 0, none⟩), .string (bstr cd)] w fun e w' => e = .returned (.tuple #[]) ∧ ∃ R' cr', Hp w0 w' (L.set i (rdecR b R' cr' (feedP cd d))) K := by
  refine (rfeed_any b R cr d.buf d.rows cd w (H.held i hi) hok.1).mono ?_
  rintro e w' ⟨rfl, R', cr', hF, hag, hfp⟩
  exact ⟨rfl, R', cr', H.mut i hi _ _ rfl ⟨hag.os, hag.tape, hag.output, hag.size, fun k hk hn => hag.block k hk fun e => hn (.inl e)⟩ hF (rdecR_ok _ _ _ _) (fun k hk => rdec_lt hF hk) hfp (fun k hk hx => by have := H.fresh _ (List.mem_of_getElem? hi) rfl k hx; omega) rfl⟩
theorem newD (H : Hp w0 w L K) : Calls Tryd.prog 11 #[] w fun e w' => ∃ b, e = .returned (.pointer (some ⟨b, 0, none⟩)) ∧ Hp w0 w' (decR b none 0 none 0 ⟨[], []⟩ :: L) K := by
  refine (new_any w).mono ?_
  rintro e w' ⟨b, rfl, hF, hb, hn⟩
  exact ⟨b, rfl, H.gain hb _ hF (decR_ok _ _ _ _ _ _) (fun k hk => dec_lt hF hk) hn⟩
theorem rnewD (H : Hp w0 w L K) : Calls Tryd.prog 12 #[] w fun e w' => ∃ b, e = .returned (.pointer (some ⟨b, 0, none⟩)) ∧ Hp w0 w' (rdecR b none 0 ⟨[], []⟩ :: L) K := by
  refine (rnew_any w).mono ?_
  rintro e w' ⟨b, rfl, hF, hb, hn⟩
  exact ⟨b, rfl, H.gain hb _ hF (rdecR_ok _ _ _ _) (fun k hk => rdec_lt hF hk) hn⟩
theorem rowsD (H : Hp w0 w L K) (i : Nat) (b : Nat) (B : Option Addr) (c : Nat) (R : Option Addr) (cr : Nat) (d : Dec) (hi : L[i]? = some (decR b B c R cr d)) (hok : d.okk) :
    Calls Tryd.prog 19 #[.pointer (some ⟨b, 0, none⟩)] w fun e w' => ∃ A c', e = .returned (.slice A d.rows.length c') ∧ Hp w0 w' (rowsR w.heap.size 9 1 strC okT feF (.slice A d.rows.length c') d.rows :: L) K := by
  refine (drows_any b B c R cr d.buf d.rows w (H.held i hi) (by have := hok.2; omega)).mono ?_
  rintro e w' ⟨A, c', rfl, hb, hF⟩
  exact ⟨A, c', rfl, H.gain hb _ hF (rowsR_ok elOk_flat) (fun k hk => (rows_lt hF hk).1) (fun k hk => (rows_lt hF hk).2)⟩
theorem rrowsD (H : Hp w0 w L K) (i : Nat) (b : Nat) (R : Option Addr) (cr : Nat) (d : Dec) (hi : L[i]? = some (rdecR b R cr d)) :
    Calls Tryd.prog 20 #[.pointer (some ⟨b, 0, none⟩)] w fun e w' => e = .returned (.slice R d.rows.length cr) ∧ Below w.heap.size w w' := rdrows_any b R cr d.buf d.rows w (H.held i hi)
theorem sizeD (H : Hp w0 w L K) (i : Nat) (b : Nat) (B : Option Addr) (c : Nat) (R : Option Addr) (cr : Nat) (d : Dec) (hi : L[i]? = some (decR b B c R cr d)) :
    Calls Tryd.prog 21 #[.pointer (some ⟨b, 0, none⟩)] w fun e w' => e = .returned (.int .i64 ((d.buf.length : Nat) : Int)) ∧ Below w.heap.size w w' := size_any b B c R cr d.buf d.rows w (H.held i hi)
theorem rsizeD (H : Hp w0 w L K) (i : Nat) (b : Nat) (R : Option Addr) (cr : Nat) (d : Dec) (hi : L[i]? = some (rdecR b R cr d)) :
    Calls Tryd.prog 22 #[.pointer (some ⟨b, 0, none⟩)] w fun e w' => e = .returned (.int .i64 ((d.buf.length : Nat) : Int)) ∧ Below w.heap.size w w' := rsize_any b R cr d.buf d.rows w (H.held i hi)
theorem rrow_of (H : Hp w0 w L K) (i : Nat) {b : Nat} {R : Option Addr} {cr : Nat} {d : Dec} (hi : L[i]? = some (rdecR b R cr d)) : IsRow 1 strC w R d.rows := (H.held i hi).2.1
end
theorem IsRow.ofCues {w : World} {base c : Nat} {e : TypeId} {A : Option Addr} {l : List Cue} (h : (rowsR base e 5 cuC okT feF (.slice A l.length c) l).F w) : IsRow 5 cuC w A l := Rd.of_own h.1
theorem IsRow.cue1 {w : World} {b t : Nat} {x : Cue} (h : Box w b t (cuL x).toArray) : IsRow 5 cuC w (some ⟨b, 0, none⟩) [x] := Rd.of_boxN h rfl
theorem IsRow.str1 {w : World} {b t : Nat} {x : Str} (h : Box w b t #[.string (bstr x)]) : IsRow 1 strC w (some ⟨b, 0, none⟩) [x] := Rd.of_boxN h rfl
theorem cueP_text (i : Nat) (q : Quad) : (cueP i q).text.length ≤ 1000 := by
  have : ∀ n : Nat, (texts6.getD n []).length ≤ 1000 := fun n => by
    match n with
    | 0 => decide
    | 1 => decide
    | 2 => decide
    | 3 => decide
    | 4 => decide
    | 5 => decide
    | n + 6 => simp [texts6]
  exact this _
theorem make_text {x : List Quad} : ∀ c ∈ makeP x, c.text.length ≤ 1000000 := fun c h => by
  obtain ⟨j, q, rfl⟩ := makeG_in _ _ c h
  have := cueP_text j q
  omega
theorem make_len8 (x : List Quad) : (makeP x).length ≤ 8 := by rw [makeP_len]; omega
def C1 : Cue := ⟨1, 10, 300, 0, [72, 105]⟩
def saneC (k : Nat) : Str := codeP [C1] 0 ((k : Nat) : Int)
theorem blk_C1 : blockP C1 = some [7, 128, 235, 177, 161, 17, 72, 105] := by decide +kernel
theorem c1_tx : ∀ x ∈ [C1], x.text.length ≤ 1000000 := fun x h => by rcases List.mem_singleton.1 h with rfl; decide
theorem sc_0 : codeP [C1] 0 0 = [64, 0, 0] := by decide +kernel
theorem sc_5 : codeP [C1] 0 5 = [0, 0, 0] := by decide +kernel
theorem sc_10 : codeP [C1] 0 10 = [128, 7, 128] := by decide +kernel
theorem sc_11 : codeP [C1] 0 11 = [193, 235, 177] := by decide +kernel
theorem sc_14 : codeP [C1] 0 14 = [0, 0, 0] := by decide +kernel
theorem sc_128 : codeP [C1] 0 128 = [128, 7, 128] := by decide +kernel
theorem sc_nil : codeP [] 0 128 = [64, 0, 0] := by decide +kernel
theorem sane_rows : (decRun saneC ⟨[], []⟩ 14).rows = [[72, 105]] := by decide +kernel
theorem sane_buf : (decRun saneC ⟨[], []⟩ 14).buf = [] := by decide +kernel
set_option maxRecDepth 100000 in
set_option maxHeartbeats 4000000 in
theorem sane_any (w : World) (hL : Laid w) : Calls Tryd.prog 8 #[] w fun e w' => e = .returned (.bool true) ∧ Below w.heap.size w w' := by
 have HP := (Hp.start w).keepF laidK hL laidK_ok fun k hk => ⟨hL.lt k hk, fun x hx => by cases hx⟩
 refine w_enter 116 [] Tryd.func8 rfl Tryd.ntmps8 (by kernel_rfl) (by kernel_rfl) fun a H => ?_
 refine wp_seq (w_region ?_)
 refine H.ge HP [(0, (.bool false))] [] fun a H => ?_
 refine then_normal (wp_seq (w_region ?_))
 refine H.go HP 1 [(9, (.agg #[(ii 1), (ii 10), (ii 300), (ii 0), (.string (bstr ([72, 105])))]))] [] fun a H => ?_
 refine H.alloc HP 10 (fun b => (.slice (some ⟨b, 0, none⟩) 1 1)) 23 [(ii 1), (ii 10), (ii 300), (ii 0), (.string (bstr ([72, 105])))] (by kernel_rfl) (fun w => by kernel_rfl) fun b_1 w_2 a H HP => ?_
 refine H.ge HP [(1, (.slice (some ⟨b_1, 0, none⟩) 1 1))] [] fun a H => ?_
 refine then_normal (wp_seq (w_region ?_))
 refine H.go HP 1 [(12, (.slice (some ⟨b_1, 0, none⟩) 1 1))] [] fun a H => ?_
 refine H.v 13 (pt b_1 0) fun a H => ?_
 refine H.go HP 1 [(14, (.agg #[(ii 1), (ii 10), (ii 300), (ii 0), (.string (bstr ([72, 105])))]))] [0] fun a H => ?_
 refine H.call 15 (by kernel_rfl) (Eq.trans (by kernel_rfl : _ = (callFunc 9 #[(.agg #[(ii 1), (ii 10), (ii 300), (ii 0), (.string (bstr ([72, 105])))])]).run Tryd.prog w_2) (Tryd.call9 _ _)) ((by have hh := block_any C1 w_2 (HP.fact 0 rfl) (by decide); rw [blk_C1] at hh; exact hh)) ?_
 rintro e w_3 ⟨rfl, hbk⟩
 refine ⟨_, rfl, ?_⟩
 intro a H
 have HP := HP.next hbk
 refine H.ge HP [(2, (.string (bstr ([7, 128, 235, 177, 161, 17, 72, 105])))), (3, (ii 0))] [] fun a H => ?_
 refine then_normal (wp_seq (w_region ?_))
 refine H.call 18 (by kernel_rfl) (Eq.trans (by kernel_rfl : _ = (callFunc 11 #[]).run Tryd.prog w_3) (Tryd.call11 _ _)) (newD HP) ?_
 rintro e w_4 ⟨bd, rfl, HPn⟩
 refine ⟨_, rfl, ?_⟩
 intro a H
 have HP := (HPn : Hp w _ [(decR bd none 0 none 0 (⟨[], []⟩)), bx b_1 23 [(ii 1), (ii 10), (ii 300), (ii 0), (.string (bstr ([72, 105])))] true] [laidK])
 refine H.ge HP [(4, (pt bd 0))] [] fun a H => ?_
 refine then_normal (wp_seq (wp_seq (w_region ?_)))
 refine H.go HP 13 [(30, (.bool false)), (31, (.string (bstr ([7, 128, 235, 177, 161, 17, 72, 105]))))] [] fun a H => ?_
 refine H.valE 32 (.int .u8 (((([7, 128, 235, 177, 161, 17, 72, 105] : Str).getD 0 0).toNat : Nat) : Int)) (.int .u8 7) (by kernel_rfl) (ex_sindex (k := .i64) (l := [7, 128, 235, 177, 161, 17, 72, 105]) (i := 0) (m := 0) (by kernel_rfl) (by kernel_rfl) (by kernel_rfl) (by omega) (by decide)) (rfl) fun a H => ?_
 refine H.go HP 4 [(35, (.bool false)), (36, (.string (bstr ([7, 128, 235, 177, 161, 17, 72, 105]))))] [] fun a H => ?_
 refine H.valE 37 (.int .u8 (((([7, 128, 235, 177, 161, 17, 72, 105] : Str).getD 1 0).toNat : Nat) : Int)) (.int .u8 128) (by kernel_rfl) (ex_sindex (k := .i64) (l := [7, 128, 235, 177, 161, 17, 72, 105]) (i := 1) (m := 1) (by kernel_rfl) (by kernel_rfl) (by kernel_rfl) (by omega) (by decide)) (rfl) fun a H => ?_
 refine H.ge HP [(39, (.bool false))] [] fun a H => ?_
 refine then_normal ?_
 refine w_iff H rfl ?_
 refine wp_skip (then_normal (wp_seq (wp_seq (w_region ?_))))
 refine H.ge HP [(5, (ii 0))] [] fun a H => ?_
 refine then_normal (wp_block ?_)
 refine w_loop (fun mm a wv => ∃ (i : Nat), ∃ (B : Option Addr), ∃ (c : Nat), ∃ (R : Option Addr), ∃ (cr : Nat), 14 - i = mm ∧ Sl 116 [(5, (ii i)), (39, (.bool false)), (37, (.int .u8 128)), (35, (.bool false)), (36, (.string (bstr ([7, 128, 235, 177, 161, 17, 72, 105])))), (32, (.int .u8 7)), (30, (.bool false)), (31, (.string (bstr ([7, 128, 235, 177, 161, 17, 72, 105])))), (4, (pt bd 0)), (18, (pt bd 0)), (2, (.string (bstr ([7, 128, 235, 177, 161, 17, 72, 105])))), (3, (ii 0)), (15, (.tuple #[(.string (bstr ([7, 128, 235, 177, 161, 17, 72, 105]))), (ii 0)])), (14, (.agg #[(ii 1), (ii 10), (ii 300), (ii 0), (.string (bstr ([72, 105])))])), (13, (pt b_1 0)), (12, (.slice (some ⟨b_1, 0, none⟩) 1 1)), (1, (.slice (some ⟨b_1, 0, none⟩) 1 1)), (10, (.slice (some ⟨b_1, 0, none⟩) 1 1)), (9, (.agg #[(ii 1), (ii 10), (ii 300), (ii 0), (.string (bstr ([72, 105])))])), (0, (.bool false))] a ∧ Hp w wv [(decR bd B c R cr (decRun saneC ⟨[], []⟩ i)), bx b_1 23 [(ii 1), (ii 10), (ii 300), (ii 0), (.string (bstr ([72, 105])))] true] [laidK] ∧ (i ≤ 14)) (14 - 0) ?_ ?_
 ·exact ⟨0, none, 0, none, 0, (by omega), H.keep (by kernel_rfl), HP, (Nat.zero_le _)⟩
 rintro mm a w_5 ⟨i, B, c, R, cr, hmeas, H, HP, hib⟩
 refine wp_seq (wp_seq (w_region ?_))
 refine H.go HP 1 [(40, (ii i))] [] fun a H => ?_
 refine H.v 41 (.bool (decide ((i : Int) ≤ 13))) fun a H => ?_
 refine wpList_nil (then_normal ?_)
 refine w_if H rfl (fun g41 => ?_) (fun g41 => ?_)
 ·have g41p := of_decide_eq_true g41
  refine wp_skip (then_normal (wp_seq (wp_block (w_region ?_))))
  refine H.go HP 3 [(44, (pt bd 0)), (45, (.slice (some ⟨b_1, 0, none⟩) 1 1)), (46, (ii i))] [] fun a H => ?_
  refine H.call 47 (by kernel_rfl) (Eq.trans (by kernel_rfl : _ = (callFunc 15 #[(.slice (some ⟨b_1, 0, none⟩) 1 1), (ii 0), (ii i)]).run Tryd.prog w_5) (Tryd.call15 _ _)) (code_all (some ⟨b_1, 0, none⟩) 1 ([C1]) 0 (i : Int) w_5 (HP.fact 0 rfl) (IsRow.cue1 (x := C1) (HP.at_ 1 rfl)) (by decide) c1_tx (by omega) (by omega) (by omega) (by omega)) ?_
  rintro e w_6 ⟨rfl, hbf⟩
  refine ⟨_, rfl, ?_⟩
  intro a H
  have HP := HP.next hbf
  refine H.call 48 (by kernel_rfl) (Eq.trans (by kernel_rfl : _ = (callFunc 16 #[(pt bd 0), (.string (bstr (codeP ([C1]) 0 (i : Int))))]).run Tryd.prog w_6) (Tryd.call16 _ _)) (feedD HP 0 bd B c R cr (decRun saneC ⟨[], []⟩ i) (codeP ([C1]) 0 (i : Int)) rfl 0 rfl (decRun_okk dec0_okk _)) ?_
  rintro e w_11 ⟨rfl, B_7, c_8, R_9, cr_10, HPn⟩
  refine ⟨_, rfl, ?_⟩
  intro a H
  have HP := (HPn : Hp w _ [(decR bd B_7 c_8 R_9 cr_10 (decRun saneC ⟨[], []⟩ (i + 1))), bx b_1 23 [(ii 1), (ii 10), (ii 300), (ii 0), (.string (bstr ([72, 105])))] true] [laidK])
  refine wpList_nil (inb_normal (then_normal (w_region ?_)))
  refine H.go HP 1 [(42, (ii i))] [] fun a H => ?_
  refine H.wi 43 ((i : Int) + 1) fun a H => ?_
  refine H.ge HP [(5, (ii ((i : Int) + 1)))] [] fun a H => ?_
  refine then_normal ?_
  have H := H.as 5 (ii ((i + 1 : Nat) : Int)) rfl rfl
  refine ⟨_, ?_, i + 1, B_7, c_8, R_9, cr_10, rfl, H.keep (by kernel_rfl), HP, (by omega)⟩
  omega
 ·have g41p := of_decide_eq_false g41
  refine wp_exit (then_exit (then_exit ?_))
  refine w_exit_here ?_
  refine then_normal (wp_seq ?_)
  have hi14 : i = 14 := by omega
  subst hi14
  refine w_region ?_
  refine H.ge HP [(6, (.pointer none))] [] fun a H => ?_
  refine then_normal (wp_seq (w_region ?_))
  refine H.go HP 1 [(49, (.pointer none))] [] fun a H => ?_
  refine H.call 50 (by kernel_rfl) (Eq.trans (by kernel_rfl : _ = (callFunc 16 #[(.pointer none), (.string (bstr ([97, 98, 99])))]).run Tryd.prog w_5) (Tryd.call16 _ _)) (feedN_any ([97, 98, 99]) w_5) ?_
  rintro e w_12 ⟨rfl, hbf⟩
  refine ⟨_, rfl, ?_⟩
  intro a H
  have HP := HP.next hbf
  refine wpList_nil (then_normal (wp_seq (w_region ?_)))
  refine H.go HP 1 [(51, (.pointer none))] [] fun a H => ?_
  refine H.call 52 (by kernel_rfl) (Eq.trans (by kernel_rfl : _ = (callFunc 19 #[(.pointer none)]).run Tryd.prog w_12) (Tryd.call19 _ _)) (rowsN_any w_12) ?_
  rintro e w_13 ⟨rfl, hbf⟩
  refine ⟨_, rfl, ?_⟩
  intro a H
  have HP := HP.next hbf
  refine H.go HP 1 [(53, (ii 0))] [] fun a H => ?_
  refine H.valE 54 (.bool ((0 : Int) == 0)) (.bool true) (by kernel_rfl) (by kernel_rfl) (rfl) fun a H => ?_
  refine H.go HP 2 [(55, (.bool true)), (56, (.pointer none))] [] fun a H => ?_
  refine H.call 57 (by kernel_rfl) (Eq.trans (by kernel_rfl : _ = (callFunc 21 #[(.pointer none)]).run Tryd.prog w_13) (Tryd.call21 _ _)) (sizeN_any w_13) ?_
  rintro e w_14 ⟨rfl, hbf⟩
  refine ⟨_, rfl, ?_⟩
  intro a H
  have HP := HP.next hbf
  refine H.valE 58 (.bool ((0 : Int) == 0)) (.bool true) (by kernel_rfl) (by kernel_rfl) (rfl) fun a H => ?_
  refine H.ge HP [(7, (.bool true))] [] fun a H => ?_
  refine then_normal (wp_seq ?_)
  refine An.start (fun v => Hp w v [(decR bd B c R cr (decRun saneC ⟨[], []⟩ 14)), bx b_1 23 [(ii 1), (ii 10), (ii 300), (ii 0), (.string (bstr ([72, 105])))] true] [laidK]) 42 42 HP wide_follows rfl fun w_15 HP => ?_
  refine An.go H (.inr (HP)) 41 [0] [(60, (.slice (some ⟨b_1, 0, none⟩) 1 1))] [] fun a H => ?_
  refine An.one 1 (by kernel_rfl) ?_
  refine Op.call H 61 rfl (by kernel_rfl) (Eq.trans (by kernel_rfl : _ = (callFunc 15 #[(.slice (some ⟨b_1, 0, none⟩) 1 1), (ii 0), (ii 0)]).run Tryd.prog w_15) (Tryd.call15 _ _)) ((by have hh := code_all (some ⟨b_1, 0, none⟩) 1 ([C1]) 0 0 w_15 (HP.fact 0 rfl) (IsRow.cue1 (x := C1) (HP.at_ 1 rfl)) (by decide) c1_tx (by omega) (by omega) (by omega) (by omega); rw [sc_0] at hh; exact hh)) ?_
  rintro e w_16 ⟨rfl, hbf⟩
  refine ⟨_, rfl, ?_⟩
  intro a H
  have HP := HP.next hbf
  refine ⟨.inr (HP), ?_⟩
  refine An.pureE H (.inr (HP)) 2 62 (.bool ((bstr [64, 0, 0]).toList == (bstr [64, 0, 0]).toList)) (.bool true) rfl (by kernel_rfl) (by kernel_rfl) (fun _ _ _ h => h) (fun _ => by kernel_rfl) ((congrArg Value.bool ((bstr_eq _ _).trans (by decide)))) fun a H => ?_
  refine An.go H (.inr (HP)) 37 [3, 4] [(63, (.bool true)), (64, (.slice (some ⟨b_1, 0, none⟩) 1 1))] [] fun a H => ?_
  refine An.one 5 (by kernel_rfl) ?_
  refine Op.call H 65 rfl (by kernel_rfl) (Eq.trans (by kernel_rfl : _ = (callFunc 15 #[(.slice (some ⟨b_1, 0, none⟩) 1 1), (ii 0), (ii 5)]).run Tryd.prog w_16) (Tryd.call15 _ _)) ((by have hh := code_all (some ⟨b_1, 0, none⟩) 1 ([C1]) 0 5 w_16 (HP.fact 0 rfl) (IsRow.cue1 (x := C1) (HP.at_ 1 rfl)) (by decide) c1_tx (by omega) (by omega) (by omega) (by omega); rw [sc_5] at hh; exact hh)) ?_
  rintro e w_17 ⟨rfl, hbf⟩
  refine ⟨_, rfl, ?_⟩
  intro a H
  have HP := HP.next hbf
  refine ⟨.inr (HP), ?_⟩
  refine An.pureE H (.inr (HP)) 6 66 (.bool ((bstr [0, 0, 0]).toList == (bstr [0, 0, 0]).toList)) (.bool true) rfl (by kernel_rfl) (by kernel_rfl) (fun _ _ _ h => h) (fun _ => by kernel_rfl) ((congrArg Value.bool ((bstr_eq _ _).trans (by decide)))) fun a H => ?_
  refine An.go H (.inr (HP)) 31 [7, 8, 9, 11] [(68, (.bool true)), (69, (.slice (some ⟨b_1, 0, none⟩) 1 1)), (71, (.string (bstr ([7, 128, 235, 177, 161, 17, 72, 105]))))] [] fun a H => ?_
  refine An.pureE H (.inr (HP)) 12 72 (.string (bstr ([7, 128, 235, 177, 161, 17, 72, 105].take 2))) (.string (bstr ([7, 128]))) rfl (by kernel_rfl) (by kernel_rfl) (fun _ _ _ h => h) (fun _ => ex_ssliceH (kk := .i64) (l := [7, 128, 235, 177, 161, 17, 72, 105]) (j := 2) (b := 2) (by kernel_rfl) (by kernel_rfl) (by kernel_rfl) (by omega) (by decide)) (rfl) fun a H => ?_
  refine An.pureE H (.inr (HP)) 13 73 (.string (bstr ([128] ++ [7, 128]))) (.string (bstr ([128, 7, 128]))) rfl (by kernel_rfl) (by kernel_rfl) (fun _ _ _ h => h) (fun _ => ex_sadd (a := [128]) (b := [7, 128]) (by kernel_rfl) (by kernel_rfl) (by decide)) (rfl) fun a H => ?_
  refine An.one 10 (by kernel_rfl) ?_
  refine Op.call H 70 rfl (by kernel_rfl) (Eq.trans (by kernel_rfl : _ = (callFunc 15 #[(.slice (some ⟨b_1, 0, none⟩) 1 1), (ii 0), (ii 10)]).run Tryd.prog w_17) (Tryd.call15 _ _)) ((by have hh := code_all (some ⟨b_1, 0, none⟩) 1 ([C1]) 0 10 w_17 (HP.fact 0 rfl) (IsRow.cue1 (x := C1) (HP.at_ 1 rfl)) (by decide) c1_tx (by omega) (by omega) (by omega) (by omega); rw [sc_10] at hh; exact hh)) ?_
  rintro e w_18 ⟨rfl, hbf⟩
  refine ⟨_, rfl, ?_⟩
  intro a H
  have HP := HP.next hbf
  refine ⟨.inr (HP), ?_⟩
  refine An.pureE H (.inr (HP)) 14 74 (.bool ((bstr [128, 7, 128]).toList == (bstr [128, 7, 128]).toList)) (.bool true) rfl (by kernel_rfl) (by kernel_rfl) (fun _ _ _ h => h) (fun _ => by kernel_rfl) ((congrArg Value.bool ((bstr_eq _ _).trans (by decide)))) fun a H => ?_
  refine An.go H (.inr (HP)) 23 [15, 16, 17, 19] [(76, (.bool true)), (77, (.slice (some ⟨b_1, 0, none⟩) 1 1)), (79, (.string (bstr ([7, 128, 235, 177, 161, 17, 72, 105]))))] [] fun a H => ?_
  refine An.pureE H (.inr (HP)) 20 80 (.string (bstr (([7, 128, 235, 177, 161, 17, 72, 105].drop 2).take (4 - 2)))) (.string (bstr ([235, 177]))) rfl (by kernel_rfl) (by kernel_rfl) (fun _ _ _ h => h) (fun _ => ex_sslice (k := .i64) (kk := .i64) (l := [7, 128, 235, 177, 161, 17, 72, 105]) (i := 2) (j := 4) (a := 2) (b := 4) (by kernel_rfl) (by kernel_rfl) (by kernel_rfl) (by kernel_rfl) (by omega) (by omega) (by decide) (by decide)) (rfl) fun a H => ?_
  refine An.pureE H (.inr (HP)) 21 81 (.string (bstr ([193] ++ [235, 177]))) (.string (bstr ([193, 235, 177]))) rfl (by kernel_rfl) (by kernel_rfl) (fun _ _ _ h => h) (fun _ => ex_sadd (a := [193]) (b := [235, 177]) (by kernel_rfl) (by kernel_rfl) (by decide)) (rfl) fun a H => ?_
  refine An.one 18 (by kernel_rfl) ?_
  refine Op.call H 78 rfl (by kernel_rfl) (Eq.trans (by kernel_rfl : _ = (callFunc 15 #[(.slice (some ⟨b_1, 0, none⟩) 1 1), (ii 0), (ii 11)]).run Tryd.prog w_18) (Tryd.call15 _ _)) ((by have hh := code_all (some ⟨b_1, 0, none⟩) 1 ([C1]) 0 11 w_18 (HP.fact 0 rfl) (IsRow.cue1 (x := C1) (HP.at_ 1 rfl)) (by decide) c1_tx (by omega) (by omega) (by omega) (by omega); rw [sc_11] at hh; exact hh)) ?_
  rintro e w_19 ⟨rfl, hbf⟩
  refine ⟨_, rfl, ?_⟩
  intro a H
  have HP := HP.next hbf
  refine ⟨.inr (HP), ?_⟩
  refine An.pureE H (.inr (HP)) 22 82 (.bool ((bstr [193, 235, 177]).toList == (bstr [193, 235, 177]).toList)) (.bool true) rfl (by kernel_rfl) (by kernel_rfl) (fun _ _ _ h => h) (fun _ => by kernel_rfl) ((congrArg Value.bool ((bstr_eq _ _).trans (by decide)))) fun a H => ?_
  refine An.go H (.inr (HP)) 16 [23, 24, 25] [(84, (.bool true)), (85, (.slice (some ⟨b_1, 0, none⟩) 1 1))] [] fun a H => ?_
  refine An.one 26 (by kernel_rfl) ?_
  refine Op.call H 86 rfl (by kernel_rfl) (Eq.trans (by kernel_rfl : _ = (callFunc 15 #[(.slice (some ⟨b_1, 0, none⟩) 1 1), (ii 0), (ii 14)]).run Tryd.prog w_19) (Tryd.call15 _ _)) ((by have hh := code_all (some ⟨b_1, 0, none⟩) 1 ([C1]) 0 14 w_19 (HP.fact 0 rfl) (IsRow.cue1 (x := C1) (HP.at_ 1 rfl)) (by decide) c1_tx (by omega) (by omega) (by omega) (by omega); rw [sc_14] at hh; exact hh)) ?_
  rintro e w_20 ⟨rfl, hbf⟩
  refine ⟨_, rfl, ?_⟩
  intro a H
  have HP := HP.next hbf
  refine ⟨.inr (HP), ?_⟩
  refine An.pureE H (.inr (HP)) 27 87 (.bool ((bstr [0, 0, 0]).toList == (bstr [0, 0, 0]).toList)) (.bool true) rfl (by kernel_rfl) (by kernel_rfl) (fun _ _ _ h => h) (fun _ => by kernel_rfl) ((congrArg Value.bool ((bstr_eq _ _).trans (by decide)))) fun a H => ?_
  refine An.go H (.inr (HP)) 10 [28, 29, 30, 32] [(89, (.bool true)), (90, (.slice (some ⟨b_1, 0, none⟩) 1 1)), (92, (.string (bstr ([7, 128, 235, 177, 161, 17, 72, 105]))))] [] fun a H => ?_
  refine An.pureE H (.inr (HP)) 33 93 (.string (bstr ([7, 128, 235, 177, 161, 17, 72, 105].take 2))) (.string (bstr ([7, 128]))) rfl (by kernel_rfl) (by kernel_rfl) (fun _ _ _ h => h) (fun _ => ex_ssliceH (kk := .i64) (l := [7, 128, 235, 177, 161, 17, 72, 105]) (j := 2) (b := 2) (by kernel_rfl) (by kernel_rfl) (by kernel_rfl) (by omega) (by decide)) (rfl) fun a H => ?_
  refine An.pureE H (.inr (HP)) 34 94 (.string (bstr ([128] ++ [7, 128]))) (.string (bstr ([128, 7, 128]))) rfl (by kernel_rfl) (by kernel_rfl) (fun _ _ _ h => h) (fun _ => ex_sadd (a := [128]) (b := [7, 128]) (by kernel_rfl) (by kernel_rfl) (by decide)) (rfl) fun a H => ?_
  refine An.one 31 (by kernel_rfl) ?_
  refine Op.call H 91 rfl (by kernel_rfl) (Eq.trans (by kernel_rfl : _ = (callFunc 15 #[(.slice (some ⟨b_1, 0, none⟩) 1 1), (ii 0), (ii 128)]).run Tryd.prog w_20) (Tryd.call15 _ _)) ((by have hh := code_all (some ⟨b_1, 0, none⟩) 1 ([C1]) 0 128 w_20 (HP.fact 0 rfl) (IsRow.cue1 (x := C1) (HP.at_ 1 rfl)) (by decide) c1_tx (by omega) (by omega) (by omega) (by omega); rw [sc_128] at hh; exact hh)) ?_
  rintro e w_21 ⟨rfl, hbf⟩
  refine ⟨_, rfl, ?_⟩
  intro a H
  have HP := HP.next hbf
  refine ⟨.inr (HP), ?_⟩
  refine An.pureE H (.inr (HP)) 35 95 (.bool ((bstr [128, 7, 128]).toList == (bstr [128, 7, 128]).toList)) (.bool true) rfl (by kernel_rfl) (by kernel_rfl) (fun _ _ _ h => h) (fun _ => by kernel_rfl) ((congrArg Value.bool ((bstr_eq _ _).trans (by decide)))) fun a H => ?_
  refine An.go H (.inr (HP)) 4 [36, 37] [(97, (.bool true))] [] fun a H => ?_
  refine An.one 38 (by kernel_rfl) ?_
  refine Op.call H 98 rfl (by kernel_rfl) (Eq.trans (by kernel_rfl : _ = (callFunc 15 #[(.slice none 0 0), (ii 0), (ii 128)]).run Tryd.prog w_21) (Tryd.call15 _ _)) ((by have hh := code_all none 0 ([]) 0 128 w_21 (HP.fact 0 rfl) (IsRow.nil _ _) (by decide) (fun _ h => by cases h) (by omega) (by omega) (by omega) (by omega); rw [sc_nil] at hh; exact hh)) ?_
  rintro e w_22 ⟨rfl, hbf⟩
  refine ⟨_, rfl, ?_⟩
  intro a H
  have HP := HP.next hbf
  refine ⟨.inr (HP), ?_⟩
  refine An.pureE H (.inr (HP)) 39 99 (.bool ((bstr [64, 0, 0]).toList == (bstr [64, 0, 0]).toList)) (.bool true) rfl (by kernel_rfl) (by kernel_rfl) (fun _ _ _ h => h) (fun _ => by kernel_rfl) ((congrArg Value.bool ((bstr_eq _ _).trans (by decide)))) fun a H => ?_
  refine An.go H (.inr (HP)) 0 [40, 41] [(8, (.bool true))] [] fun a H => ?_
  refine An.done (by kernel_rfl) ?_
  refine then_normal (wp_seq (w_region ?_))
  refine H.go HP 6 [(105, (.bool true)), (106, (pt bd 0))] [] fun a H => ?_
  refine H.call 107 (by kernel_rfl) (Eq.trans (by kernel_rfl : _ = (callFunc 19 #[(pt bd 0)]).run Tryd.prog w_22) (Tryd.call19 _ _)) (rowsD HP 0 bd B c R cr (decRun saneC ⟨[], []⟩ 14) rfl (decRun_okk dec0_okk _)) ?_
  rintro e w_25 ⟨A_23, c_24, rfl, HPn⟩
  refine ⟨_, rfl, ?_⟩
  intro a H
  have HP := (HPn : Hp w _ [(rowsR w_22.heap.size 9 1 strC okT feF (.slice A_23 (decRun saneC ⟨[], []⟩ 14).rows.length c_24) (decRun saneC ⟨[], []⟩ 14).rows), (decR bd B c R cr (decRun saneC ⟨[], []⟩ 14)), bx b_1 23 [(ii 1), (ii 10), (ii 300), (ii 0), (.string (bstr ([72, 105])))] true] [laidK])
  refine H.alloc HP 108 (fun b => (.slice (some ⟨b, 0, none⟩) 1 1)) 9 [(.string (bstr ([72, 105])))] (by kernel_rfl) (fun w => by kernel_rfl) fun b_26 w_27 a H HP => ?_
  refine H.call 109 (by kernel_rfl) (Eq.trans (by kernel_rfl : _ = (callFunc 18 #[(.slice A_23 ((decRun saneC ⟨[], []⟩ 14).rows.length) c_24), (.slice (some ⟨b_26, 0, none⟩) 1 1)]).run Tryd.prog w_27) (Tryd.call18 _ _)) ((by have hh := same_any A_23 (some ⟨b_26, 0, none⟩) c_24 1 ((decRun saneC ⟨[], []⟩ 14).rows) ([[72, 105]]) w_27 (IsRow.ofRows (HP.held 1 rfl)) (IsRow.str1 (HP.at_ 0 rfl)) (Nat.le_trans ((decRun_okk dec0_okk _)).2 (by omega)) (by decide); rw [decide_eq_true sane_rows] at hh; exact hh)) ?_
  rintro e w_28 ⟨rfl, hbf⟩
  refine ⟨_, rfl, ?_⟩
  intro a H
  have HP := HP.next hbf
  refine H.go HP 3 [(111, (.bool true)), (112, (pt bd 0))] [] fun a H => ?_
  refine H.call 113 (by kernel_rfl) (Eq.trans (by kernel_rfl : _ = (callFunc 21 #[(pt bd 0)]).run Tryd.prog w_28) (Tryd.call21 _ _)) (sizeD HP 2 bd B c R cr (decRun saneC ⟨[], []⟩ 14) rfl) ?_
  rintro e w_29 ⟨rfl, hbf⟩
  refine ⟨_, rfl, ?_⟩
  intro a H
  have HP := HP.next hbf
  refine H.valE 114 (.bool ((((decRun saneC ⟨[], []⟩ 14).buf.length : Nat) : Int) == 0)) (.bool true) (by kernel_rfl) (by kernel_rfl) ((congrArg Value.bool (by rw [sane_buf]; rfl))) fun a H => ?_
  refine H.ge HP [(0, (.bool true))] [] fun a H => ?_
  refine then_normal (wp_ret ?_)
  refine H.ret1 (fn := Tryd.f8) Tryd.results8 (RV.tmp_ (v := (.bool true)) (by kernel_rfl)) ?_
  exact ⟨rfl, HP.bl⟩
theorem take_min {α : Type} (l : List α) (n : Nat) : l.take (min l.length n) = l.take n := by
 by_cases h : l.length ≤ n
 ·rw [Nat.min_eq_left h, List.take_length, List.take_of_length_le h]
 ·rw [Nat.min_eq_right (by omega)]
set_option maxRecDepth 100000 in
set_option maxHeartbeats 4000000 in
theorem block_none (c : Cue) (w : World) (hL : Laid w) (hb : blockP ⟨c.id, c.from_, c.to_, c.pri, c.text.take 210⟩ = none) (hcl : c.text.length ≤ 9000000000000000000) : Calls Tryd.prog 3 #[cuV c] w fun e w' => e = .returned (.bool true) ∧ Below w.heap.size w w' := by
 have HP := (Hp.start w).keepF laidK hL laidK_ok fun k hk => ⟨hL.lt k hk, fun x hx => by cases hx⟩
 refine w_enter 43 [(0, (.agg #[(ii c.id), (ii c.from_), (ii c.to_), (ii c.pri), (.string (bstr c.text))]))] Tryd.func3 rfl Tryd.ntmps3 (by kernel_rfl) (by kernel_rfl) fun a H => ?_
 refine wp_seq (w_region ?_)
 refine H.alloc HP 1 (fun b => (pt b 0)) 23 [(ii c.id), (ii c.from_), (ii c.to_), (ii c.pri), (.string (bstr c.text))] (by kernel_rfl) (fun w => by kernel_rfl) fun b_1 w_2 a H HP => ?_
 refine H.ge HP [(2, (.bool false))] [] fun a H => ?_
 refine then_normal (wp_seq (w_region ?_))
 refine H.call 8 (by kernel_rfl) (Eq.trans (by kernel_rfl : _ = (callFunc 8 #[]).run Tryd.prog w_2) (Tryd.call8 _ _)) (sane_any w_2 (HP.fact 0 rfl)) ?_
 rintro e w_3 ⟨rfl, hbs⟩
 refine ⟨_, rfl, ?_⟩
 intro a H
 have HP := HP.next hbs
 refine H.ge HP [(3, (.bool true))] [] fun a H => ?_
 refine then_normal (wp_seq (w_region ?_))
 refine H.go HP 5 [(10, (.string (bstr c.text))), (13, (ii c.text.length))] [0, 0] fun a H => ?_
 refine H.valE 14 (ii (if (210 : Int) < (c.text.length : Int) then 210 else (c.text.length : Int))) (ii ((min c.text.length 210 : Nat) : Int)) (by kernel_rfl) (by kernel_rfl) ((congrArg (Value.int .i64) (by split <;> omega))) fun a H => ?_
 refine H.valE 15 (.string (bstr (c.text.take (min c.text.length 210)))) (.string (bstr (c.text.take 210))) (by kernel_rfl) (ex_ssliceH (kk := .i64) (l := c.text) (j := ((min c.text.length 210 : Nat) : Int)) (b := min c.text.length 210) (by kernel_rfl) (by kernel_rfl) (by kernel_rfl) (by omega) (by omega)) ((congrArg (fun x => Value.string (bstr x)) (take_min _ _))) fun a H => ?_
 refine H.go HP 1 [(16, (pt b_1 4))] [] fun a H => ?_
 refine H.sh HP 0 4 (.string (bstr (c.text.take 210))) rfl fun w_4 a H HP => ?_
 refine wpList_nil (then_normal (wp_seq (w_region ?_)))
 refine H.go HP 1 [(18, (.agg #[(ii c.id), (ii c.from_), (ii c.to_), (ii c.pri), (.string (bstr (c.text.take 210)))]))] [0] fun a H => ?_
 refine H.call 19 (by kernel_rfl) (Eq.trans (by kernel_rfl : _ = (callFunc 9 #[(.agg #[(ii c.id), (ii c.from_), (ii c.to_), (ii c.pri), (.string (bstr (c.text.take 210)))])]).run Tryd.prog w_4) (Tryd.call9 _ _)) ((by have hh := block_any ⟨c.id, c.from_, c.to_, c.pri, c.text.take 210⟩ w_4 (HP.fact 0 rfl) (by show (c.text.take 210).length ≤ _; rw [List.length_take]; omega); rw [hb] at hh; exact hh)) ?_
 rintro e w_5 ⟨rfl, hbb⟩
 refine ⟨_, rfl, ?_⟩
 intro a H
 have HP := HP.next hbb
 refine H.ge HP [(4, (.string (bstr ([])))), (5, (ii 160))] [] fun a H => ?_
 refine then_normal (wp_seq (w_region ?_))
 refine H.go HP 1 [(23, (.agg #[(ii c.id), (ii c.from_), (ii c.to_), (ii c.pri), (.string (bstr (c.text.take 210)))]))] [0] fun a H => ?_
 refine H.call 24 (by kernel_rfl) (Eq.trans (by kernel_rfl : _ = (callFunc 10 #[(.agg #[(ii c.id), (ii c.from_), (ii c.to_), (ii c.pri), (.string (bstr (c.text.take 210)))])]).run Tryd.prog w_5) (Tryd.call10 _ _)) ((by have hh := rblock_any ⟨c.id, c.from_, c.to_, c.pri, c.text.take 210⟩ w_5 (by show (c.text.take 210).length ≤ _; rw [List.length_take]; omega); rw [hb] at hh; exact hh)) ?_
 rintro e w_6 ⟨rfl, hbb⟩
 refine ⟨_, rfl, ?_⟩
 intro a H
 have HP := HP.next hbb
 refine H.ge HP [(6, (.string (bstr ([])))), (7, (ii 160))] [] fun a H => ?_
 refine then_normal (wp_seq (w_region ?_))
 refine H.go HP 4 [(28, (.bool true)), (29, (.string (bstr ([])))), (30, (.string (bstr ([]))))] [] fun a H => ?_
 refine H.valE 31 (.bool ((bstr []).toList == (bstr []).toList)) (.bool true) (by kernel_rfl) (by kernel_rfl) ((congrArg Value.bool (beq_self_eq_true _))) fun a H => ?_
 refine H.ge HP [(2, (.bool true))] [] fun a H => ?_
 refine then_normal (wp_ret ?_)
 refine H.ret1 (fn := Tryd.f3) Tryd.results3 (RV.tmp_ (v := (.bool true)) (by kernel_rfl)) ?_
 exact ⟨rfl, HP.bl⟩
set_option maxRecDepth 100000 in
set_option maxHeartbeats 4000000 in
theorem block_some (c : Cue) (b : Str) (w : World) (hL : Laid w) (hb : blockP ⟨c.id, c.from_, c.to_, c.pri, c.text.take 210⟩ = some b) (hcl : c.text.length ≤ 9000000000000000000) : Calls Tryd.prog 3 #[cuV c] w fun e w' => e = .returned (.bool true) ∧ Below w.heap.size w w' := by
 have HP := (Hp.start w).keepF laidK hL laidK_ok fun k hk => ⟨hL.lt k hk, fun x hx => by cases hx⟩
 refine w_enter 43 [(0, (.agg #[(ii c.id), (ii c.from_), (ii c.to_), (ii c.pri), (.string (bstr c.text))]))] Tryd.func3 rfl Tryd.ntmps3 (by kernel_rfl) (by kernel_rfl) fun a H => ?_
 refine wp_seq (w_region ?_)
 refine H.alloc HP 1 (fun b => (pt b 0)) 23 [(ii c.id), (ii c.from_), (ii c.to_), (ii c.pri), (.string (bstr c.text))] (by kernel_rfl) (fun w => by kernel_rfl) fun b_1 w_2 a H HP => ?_
 refine H.ge HP [(2, (.bool false))] [] fun a H => ?_
 refine then_normal (wp_seq (w_region ?_))
 refine H.call 8 (by kernel_rfl) (Eq.trans (by kernel_rfl : _ = (callFunc 8 #[]).run Tryd.prog w_2) (Tryd.call8 _ _)) (sane_any w_2 (HP.fact 0 rfl)) ?_
 rintro e w_3 ⟨rfl, hbs⟩
 refine ⟨_, rfl, ?_⟩
 intro a H
 have HP := HP.next hbs
 refine H.ge HP [(3, (.bool true))] [] fun a H => ?_
 refine then_normal (wp_seq (w_region ?_))
 refine H.go HP 5 [(10, (.string (bstr c.text))), (13, (ii c.text.length))] [0, 0] fun a H => ?_
 refine H.valE 14 (ii (if (210 : Int) < (c.text.length : Int) then 210 else (c.text.length : Int))) (ii ((min c.text.length 210 : Nat) : Int)) (by kernel_rfl) (by kernel_rfl) ((congrArg (Value.int .i64) (by split <;> omega))) fun a H => ?_
 refine H.valE 15 (.string (bstr (c.text.take (min c.text.length 210)))) (.string (bstr (c.text.take 210))) (by kernel_rfl) (ex_ssliceH (kk := .i64) (l := c.text) (j := ((min c.text.length 210 : Nat) : Int)) (b := min c.text.length 210) (by kernel_rfl) (by kernel_rfl) (by kernel_rfl) (by omega) (by omega)) ((congrArg (fun x => Value.string (bstr x)) (take_min _ _))) fun a H => ?_
 refine H.go HP 1 [(16, (pt b_1 4))] [] fun a H => ?_
 refine H.sh HP 0 4 (.string (bstr (c.text.take 210))) rfl fun w_4 a H HP => ?_
 refine wpList_nil (then_normal (wp_seq (w_region ?_)))
 refine H.go HP 1 [(18, (.agg #[(ii c.id), (ii c.from_), (ii c.to_), (ii c.pri), (.string (bstr (c.text.take 210)))]))] [0] fun a H => ?_
 refine H.call 19 (by kernel_rfl) (Eq.trans (by kernel_rfl : _ = (callFunc 9 #[(.agg #[(ii c.id), (ii c.from_), (ii c.to_), (ii c.pri), (.string (bstr (c.text.take 210)))])]).run Tryd.prog w_4) (Tryd.call9 _ _)) ((by have hh := block_any ⟨c.id, c.from_, c.to_, c.pri, c.text.take 210⟩ w_4 (HP.fact 0 rfl) (by show (c.text.take 210).length ≤ _; rw [List.length_take]; omega); rw [hb] at hh; exact hh)) ?_
 rintro e w_5 ⟨rfl, hbb⟩
 refine ⟨_, rfl, ?_⟩
 intro a H
 have HP := HP.next hbb
 refine H.ge HP [(4, (.string (bstr b))), (5, (ii 0))] [] fun a H => ?_
 refine then_normal (wp_seq (w_region ?_))
 refine H.go HP 1 [(23, (.agg #[(ii c.id), (ii c.from_), (ii c.to_), (ii c.pri), (.string (bstr (c.text.take 210)))]))] [0] fun a H => ?_
 refine H.call 24 (by kernel_rfl) (Eq.trans (by kernel_rfl : _ = (callFunc 10 #[(.agg #[(ii c.id), (ii c.from_), (ii c.to_), (ii c.pri), (.string (bstr (c.text.take 210)))])]).run Tryd.prog w_5) (Tryd.call10 _ _)) ((by have hh := rblock_any ⟨c.id, c.from_, c.to_, c.pri, c.text.take 210⟩ w_5 (by show (c.text.take 210).length ≤ _; rw [List.length_take]; omega); rw [hb] at hh; exact hh)) ?_
 rintro e w_6 ⟨rfl, hbb⟩
 refine ⟨_, rfl, ?_⟩
 intro a H
 have HP := HP.next hbb
 refine H.ge HP [(6, (.string (bstr b))), (7, (ii 0))] [] fun a H => ?_
 refine then_normal (wp_seq (w_region ?_))
 refine H.go HP 4 [(28, (.bool true)), (29, (.string (bstr b))), (30, (.string (bstr b)))] [] fun a H => ?_
 refine H.valE 31 (.bool ((bstr b).toList == (bstr b).toList)) (.bool true) (by kernel_rfl) (by kernel_rfl) ((congrArg Value.bool (beq_self_eq_true _))) fun a H => ?_
 refine H.go HP 9 [(38, (.bool true)), (40, (ii b.length))] [] fun a H => ?_
 refine H.valE 41 (.bool (decide ((b.length : Int) ≤ 96))) (.bool true) (by kernel_rfl) (by kernel_rfl) ((congrArg Value.bool (decide_eq_true (by have := (blockP_len hb).2; omega)))) fun a H => ?_
 refine H.ge HP [(2, (.bool true))] [] fun a H => ?_
 refine then_normal (wp_ret ?_)
 refine H.ret1 (fn := Tryd.f3) Tryd.results3 (RV.tmp_ (v := (.bool true)) (by kernel_rfl)) ?_
 exact ⟨rfl, HP.bl⟩
theorem block_law (c : Cue) (w : World) (hL : Laid w) (hcl : c.text.length ≤ 9000000000000000000) : Calls Tryd.prog 3 #[cuV c] w fun e w' => e = .returned (.bool true) ∧ Below w.heap.size w w' := by
 cases h : blockP ⟨c.id, c.from_, c.to_, c.pri, c.text.take 210⟩ with
 | none => exact block_none c w hL h hcl
 | some b => exact block_some c b w hL h hcl
abbrev i1C (n : Int) : Array Value := #[.int .i64 n]
theorem i1C_size (n : Int) : (i1C n).size = 1 := rfl
set_option maxRecDepth 100000 in
set_option maxHeartbeats 4000000 in
theorem decoder_law (AL AX AM : Option Addr) (cl cx cm : Nat) (l : List Str) (x : List Quad) (mx : List Int) (w : World) (hL : Laid w) (hl : IsRow 1 strC w AL l) (hx : IsRow 4 quC w AX x) (hm : IsRow 1 i1C w AM mx) (hll : l.length ≤ 1000000000000000) (hml : mx.length ≤ 1000000000000000) (hls : ∀ y ∈ l, y.length ≤ 9000000000000000000) (hinx : ∀ q ∈ x, qIn q) (hinm : ∀ n ∈ mx, in64 n) :
  Calls Tryd.prog 4 #[.slice AL l.length cl, .slice AX x.length cx, .slice AM mx.length cm] w fun e w' => e = .returned (.bool true) ∧ Below w.heap.size w w' := by
 have HP := ((((Hp.start w).keepF (rowF 1 i1C AM mx) hm (rowF_ok _ _ _ _) fun k hk => ⟨hm.lt k hk, fun x hx => by cases hx⟩).keepF (rowF 4 quC AX x) hx (rowF_ok _ _ _ _) fun k hk => ⟨hx.lt k hk, fun x hx => by cases hx⟩).keepF (rowF 1 strC AL l) hl (rowF_ok _ _ _ _) fun k hk => ⟨hl.lt k hk, fun x hx => by cases hx⟩).keepF laidK hL laidK_ok fun k hk => ⟨hL.lt k hk, fun x hx => by cases hx⟩
 refine w_enter 86 [(0, (.slice AL l.length cl)), (1, (.slice AX x.length cx)), (2, (.slice AM mx.length cm))] Tryd.func4 rfl Tryd.ntmps4 (by kernel_rfl) (by kernel_rfl) fun a H => ?_
 refine wp_seq (w_region ?_)
 refine H.ge HP [(6, (.bool false))] [] fun a H => ?_
 refine then_normal (wp_seq (w_region ?_))
 refine H.call 13 (by kernel_rfl) (Eq.trans (by kernel_rfl : _ = (callFunc 8 #[]).run Tryd.prog w) (Tryd.call8 _ _)) (sane_any w (HP.fact 0 rfl)) ?_
 rintro e w_1 ⟨rfl, hbs⟩
 refine ⟨_, rfl, ?_⟩
 intro a H
 have HP := HP.next hbs
 refine H.ge HP [(7, (.bool true))] [] fun a H => ?_
 refine then_normal (wp_seq (w_region ?_))
 refine H.call 14 (by kernel_rfl) (Eq.trans (by kernel_rfl : _ = (callFunc 11 #[]).run Tryd.prog w_1) (Tryd.call11 _ _)) (newD HP) ?_
 rintro e w_2 ⟨bd, rfl, HPn⟩
 refine ⟨_, rfl, ?_⟩
 intro a H
 have HP := (HPn : Hp w _ [(decR bd none 0 none 0 (⟨[], []⟩))] [laidK, rowF 1 strC AL l, rowF 4 quC AX x, rowF 1 i1C AM mx])
 refine H.ge HP [(8, (pt bd 0))] [] fun a H => ?_
 refine then_normal (wp_seq (w_region ?_))
 refine H.call 15 (by kernel_rfl) (Eq.trans (by kernel_rfl : _ = (callFunc 12 #[]).run Tryd.prog w_2) (Tryd.call12 _ _)) (rnewD HP) ?_
 rintro e w_3 ⟨br, rfl, HPn⟩
 refine ⟨_, rfl, ?_⟩
 intro a H
 have HP := (HPn : Hp w _ [(rdecR br none 0 (⟨[], []⟩)), (decR bd none 0 none 0 (⟨[], []⟩))] [laidK, rowF 1 strC AL l, rowF 4 quC AX x, rowF 1 i1C AM mx])
 refine H.ge HP [(9, (pt br 0))] [] fun a H => ?_
 refine then_normal (wp_seq (w_region ?_))
 refine H.go HP 1 [(16, (.slice AX x.length cx))] [] fun a H => ?_
 refine H.call 17 (by kernel_rfl) (Eq.trans (by kernel_rfl : _ = (callFunc 13 #[(.slice AX x.length cx)]).run Tryd.prog w_3) (Tryd.call13 _ _)) (make_any AX cx x w_3 (HP.fact 2 rfl) hinx) ?_
 rintro e w_4 ⟨Mx, mcx, rfl, hbm, hMx⟩
 refine ⟨_, rfl, ?_⟩
 intro a H
 have HP := HP.gain hbm (rowsR w_3.heap.size 23 5 cuC okT feF (.slice Mx (makeP x).length mcx) (makeP x)) hMx (rowsR_ok elOk_flat) (fun k hk => (rows_lt hMx hk).1) (fun k hk => (rows_lt hMx hk).2)
 refine H.ge HP [(10, (.slice Mx ((makeP x).length) mcx))] [] fun a H => ?_
 refine then_normal (wp_seq (wp_seq (w_region ?_)))
 refine H.ge HP [(11, (ii 0))] [] fun a H => ?_
 refine then_normal (wp_block ?_)
 refine w_loop (fun mm a wv => ∃ (i : Nat), ∃ (D : Dec), ∃ (B : Option Addr), ∃ (c : Nat), ∃ (R : Option Addr), ∃ (cr : Nat), ∃ (R2 : Option Addr), ∃ (cr2 : Nat), l.length - i = mm ∧ Sl 86 [(11, (ii i)), (0, (.slice AL l.length cl)), (1, (.slice AX x.length cx)), (2, (.slice AM mx.length cm)), (7, (.bool true)), (8, (pt bd 0)), (9, (pt br 0)), (10, (.slice Mx ((makeP x).length) mcx))] a ∧ Hp w wv [(rowsR w_3.heap.size 23 5 cuC okT feF (.slice Mx (makeP x).length mcx) (makeP x)), (rdecR br R2 cr2 D), (decR bd B c R cr D)] [laidK, rowF 1 strC AL l, rowF 4 quC AX x, rowF 1 i1C AM mx] ∧ (i ≤ l.length) ∧ D.okk) (l.length - 0) ?_ ?_
 ·exact ⟨0, ⟨[], []⟩, none, 0, none, 0, none, 0, (by omega), H.keep (by kernel_rfl), HP, (Nat.zero_le _), dec0_okk⟩
 rintro mm a w_5 ⟨i, D, B, c, R, cr, R2, cr2, hmeas, H, HP, hi, hok⟩
 refine wp_seq (wp_seq (w_region ?_))
 refine H.go HP 5 [(22, (.bool (decide ((i : Int) < (l.length : Int)))))] [] fun a H => ?_
 refine H.split 22 rfl (fun g22 H => ?_) (fun g22 H => ?_)
 ·have g22p := of_decide_eq_true g22
  refine H.ge HP [(25, (.bool (decide ((i : Int) < 60))))] [] fun a H => ?_
  refine then_normal ?_
  refine w_if H rfl (fun g25 => ?_) (fun g25 => ?_)
  ·have g25p := of_decide_eq_true g25
   refine wp_skip (then_normal (wp_seq (wp_block (wp_seq ?_))))
   refine An.start (fun v => Hp w v [(rowsR w_3.heap.size 23 5 cuC okT feF (.slice Mx (makeP x).length mcx) (makeP x)), (rdecR br R2 cr2 D), (decR bd B c R cr D)] [laidK, rowF 1 strC AL l, rowF 4 quC AX x, rowF 1 i1C AM mx]) 12 12 HP wide_follows rfl fun w_6 HP => ?_
   refine An.go H (.inr (HP)) 10 [0, 1] [(28, (.slice AL l.length cl)), (29, (ii i))] [] fun a H => ?_
   obtain ⟨bu_7, ou_8, x_9, hA_10, _, hd_12, hx_11, hm_13, _⟩ := IsRow.get strC_size (HP.fact 1 rfl : IsRow 1 strC _ AL l) (i := i) (by omega)
   refine An.pure H (.inr (HP)) 2 30 (.pointer (some ⟨bu_7, ou_8 + i * 1, none⟩)) rfl (by kernel_rfl) (by kernel_rfl) (fun _ _ _ h => h) (fun _ => ex_indexA (b := bu_7) (off := ou_8) (len := l.length) (cap := cl) (e := 9) (k := 1) (ik := .i64) (i := (i : Int)) (m := i) hA_10 (by kernel_rfl) (by kernel_rfl) rfl (by omega) (by kernel_rfl) (by kernel_rfl)) fun a H => ?_
   refine An.val H (HP) 3 31 (.string (bstr x_9)) rfl (by kernel_rfl) (by kernel_rfl) (fun _ _ _ h => h) (fun _ hS => ex_l1 (by have hh := IsRow.cells strC_size (hS.fact 1 rfl : IsRow 1 strC _ AL l) hA_10 hx_11 0 _ rfl; rwa [Nat.add_zero] at hh)) fun a H => ?_
   refine An.go H (.inr (HP)) 6 [4, 5] [(32, (.slice AL l.length cl)), (33, (ii i))] [] fun a H => ?_
   refine An.pure H (.inr (HP)) 6 34 (.pointer (some ⟨bu_7, ou_8 + i * 1, none⟩)) rfl (by kernel_rfl) (by kernel_rfl) (fun _ _ _ h => h) (fun _ => ex_indexA (b := bu_7) (off := ou_8) (len := l.length) (cap := cl) (e := 9) (k := 1) (ik := .i64) (i := (i : Int)) (m := i) hA_10 (by kernel_rfl) (by kernel_rfl) rfl (by omega) (by kernel_rfl) (by kernel_rfl)) fun a H => ?_
   refine An.val H (HP) 7 35 (.string (bstr x_9)) rfl (by kernel_rfl) (by kernel_rfl) (fun _ _ _ h => h) (fun _ hS => ex_l1 (by have hh := IsRow.cells strC_size (hS.fact 1 rfl : IsRow 1 strC _ AL l) hA_10 hx_11 0 _ rfl; rwa [Nat.add_zero] at hh)) fun a H => ?_
   refine An.go H (.inr (HP)) 3 [8] [(36, (ii x_9.length))] [] fun a H => ?_
   refine An.pureE H (.inr (HP)) 9 37 (ii (if (4 : Int) < (x_9.length : Int) then 4 else (x_9.length : Int))) (ii ((min x_9.length 4 : Nat) : Int)) rfl (by kernel_rfl) (by kernel_rfl) (fun _ _ _ h => h) (fun _ => by kernel_rfl) ((congrArg (Value.int .i64) (by split <;> omega))) fun a H => ?_
   refine An.pureE H (.inr (HP)) 10 38 (.string (bstr (x_9.take (min x_9.length 4)))) (.string (bstr (x_9.take 4))) rfl (by kernel_rfl) (by kernel_rfl) (fun _ _ _ h => h) (fun _ => ex_ssliceH (kk := .i64) (l := x_9) (j := ((min x_9.length 4 : Nat) : Int)) (b := min x_9.length 4) (by kernel_rfl) (by kernel_rfl) (by kernel_rfl) (by omega) (by omega)) ((congrArg (fun x => Value.string (bstr x)) (take_min _ _))) fun a H => ?_
   refine An.go H (.inr (HP)) 0 [11] [(12, (.string (bstr (x_9.take 4))))] [] fun a H => ?_
   refine An.done (by kernel_rfl) ?_
   refine then_normal ?_
   refine w_cut (fun a wv => ∃ (s : Str), Sl 86 [(12, (.string (bstr s))), (0, (.slice AL l.length cl)), (1, (.slice AX x.length cx)), (2, (.slice AM mx.length cm)), (7, (.bool true)), (8, (pt bd 0)), (9, (pt br 0)), (10, (.slice Mx ((makeP x).length) mcx)), (11, (ii i))] a ∧ Hp w wv [(rowsR w_3.heap.size 23 5 cuC okT feF (.slice Mx (makeP x).length mcx) (makeP x)), (rdecR br R2 cr2 D), (decR bd B c R cr D)] [laidK, rowF 1 strC AL l, rowF 4 quC AX x, rowF 1 i1C AM mx]) ?_ ?_
   ·
    refine wp_seq (w_region ?_)
    refine H.go HP 5 [(43, (.bool (decide ((i : Int) < (mx.length : Int)))))] [] fun a H => ?_
    refine H.split 43 rfl (fun g43 H => ?_) (fun g43 H => ?_)
    ·have g43p := of_decide_eq_true g43
     refine H.go HP 2 [(44, (.slice AM mx.length cm)), (45, (ii i))] [] fun a H => ?_
     obtain ⟨bu_14, ou_15, m_16, hA_17, _, hd_19, hx_18, hm_20, _⟩ := IsRow.get i1C_size (HP.fact 3 rfl : IsRow 1 i1C _ AM mx) (i := i) (by omega)
     have hin_m_16 := hinm m_16 hm_20
     refine H.u 46 (.pointer (some ⟨bu_14, ou_15 + i * 1, none⟩)) (ex_indexA (b := bu_14) (off := ou_15) (len := mx.length) (cap := cm) (e := 3) (k := 1) (ik := .i64) (i := (i : Int)) (m := i) hA_17 (by kernel_rfl) (by kernel_rfl) rfl (by omega) (by kernel_rfl) (by kernel_rfl)) fun a H => ?_
     refine H.u 47 (ii m_16) (ex_l1 (by have hh := IsRow.cells i1C_size (HP.fact 3 rfl : IsRow 1 i1C _ AM mx) hA_17 hx_18 0 _ rfl; rwa [Nat.add_zero] at hh)) fun a H => ?_
     refine H.call 48 (by kernel_rfl) (Eq.trans (by kernel_rfl : _ = (callFunc 14 #[(ii m_16), (ii 3)]).run Tryd.prog w_6) (Tryd.call14 _ _)) (pick_any m_16 3 w_6 (by first | exact hin_m_16 | exact ⟨by omega, by omega⟩) (by omega)) ?_
     rintro e w_22 ⟨rfl, hbp⟩
     refine ⟨_, rfl, ?_⟩
     intro a H
     have HP := HP.next hbp
     have hpk_21 := pickP_in (c := m_16) (n := 3) (by omega)
     refine H.ge HP [(50, (.bool (decide ((pickP m_16 3) > 0))))] [] fun a H => ?_
     refine then_normal ?_
     refine w_if H rfl (fun g50 => ?_) (fun g50 => ?_)
     ·have g50p := of_decide_eq_true g50
      refine w_region ?_
      refine H.go HP 4 [(51, (.slice Mx ((makeP x).length) mcx)), (52, (ii i)), (53, (.slice AM mx.length cm)), (54, (ii i))] [] fun a H => ?_
      refine H.u 55 (.pointer (some ⟨bu_14, ou_15 + i * 1, none⟩)) (ex_indexA (b := bu_14) (off := ou_15) (len := mx.length) (cap := cm) (e := 3) (k := 1) (ik := .i64) (i := (i : Int)) (m := i) hA_17 (by kernel_rfl) (by kernel_rfl) rfl (by omega) (by kernel_rfl) (by kernel_rfl)) fun a H => ?_
      refine H.u 56 (ii m_16) (ex_l1 (by have hh := IsRow.cells i1C_size (HP.fact 3 rfl : IsRow 1 i1C _ AM mx) hA_17 hx_18 0 _ rfl; rwa [Nat.add_zero] at hh)) fun a H => ?_
      refine H.call 57 (by kernel_rfl) (Eq.trans (by kernel_rfl : _ = (callFunc 14 #[(ii m_16), (ii 5)]).run Tryd.prog w_22) (Tryd.call14 _ _)) (pick_any m_16 5 w_22 (by first | exact hin_m_16 | exact ⟨by omega, by omega⟩) (by omega)) ?_
      rintro e w_24 ⟨rfl, hbp⟩
      refine ⟨_, rfl, ?_⟩
      intro a H
      have HP := HP.next hbp
      have hpk_23 := pickP_in (c := m_16) (n := 5) (by omega)
      refine H.valE 58 (ii (IntKind.i64.wrap ((pickP m_16 5).tdiv 4))) (ii ((pickP m_16 5) / 4)) (by kernel_rfl) (by kernel_rfl) ((by rw [tdiv_nn _ _ (by omega), wrap_ini64 _ (by omega)])) fun a H => ?_
      refine H.wi 59 ((i : Int) + ((pickP m_16 5) / 4)) fun a H => ?_
      refine H.call 60 (by kernel_rfl) (Eq.trans (by kernel_rfl : _ = (callFunc 15 #[(.slice Mx ((makeP x).length) mcx), (ii 0), (ii ((i : Int) + ((pickP m_16 5) / 4)))]).run Tryd.prog w_24) (Tryd.call15 _ _)) (code_all Mx mcx (makeP x) 0 ((i : Int) + ((pickP m_16 5) / 4)) w_24 (HP.fact 0 rfl) (IsRow.ofCues (HP.held 0 rfl)) (Nat.le_trans (make_len8 _) (by decide)) make_text (by omega) (by omega) (by omega) (by omega)) ?_
      rintro e w_25 ⟨rfl, hbf⟩
      refine ⟨_, rfl, ?_⟩
      intro a H
      have HP := HP.next hbf
      refine H.ge HP [(12, (.string (bstr (codeP (makeP x) 0 ((i : Int) + ((pickP m_16 5) / 4))))))] [] fun a H => ?_
      refine then_normal ?_
      exact ⟨codeP (makeP x) 0 ((i : Int) + ((pickP m_16 5) / 4)), H.keep (by kernel_rfl), HP⟩
     ·have g50p := of_decide_eq_false g50
      refine wp_skip (then_normal ?_)
      exact ⟨x_9.take 4, H.keep (by kernel_rfl), HP⟩
    ·have g43p := of_decide_eq_false g43
     refine H.ge HP [(50, (.bool false))] [] fun a H => ?_
     refine then_normal ?_
     refine w_iff H rfl ?_
     refine wp_skip (then_normal ?_)
     exact ⟨x_9.take 4, H.keep (by kernel_rfl), HP⟩
   ·
    rintro a w_26 ⟨s, H, HP⟩
    refine wp_seq (w_region ?_)
    refine H.go HP 2 [(61, (pt bd 0)), (62, (.string (bstr s)))] [] fun a H => ?_
    refine H.call 63 (by kernel_rfl) (Eq.trans (by kernel_rfl : _ = (callFunc 16 #[(pt bd 0), (.string (bstr s))]).run Tryd.prog w_26) (Tryd.call16 _ _)) (feedD HP 2 bd B c R cr D s rfl 0 rfl hok) ?_
    rintro e w_31 ⟨rfl, B_27, c_28, R_29, cr_30, HPn⟩
    refine ⟨_, rfl, ?_⟩
    intro a H
    have HP := (HPn : Hp w _ [(rowsR w_3.heap.size 23 5 cuC okT feF (.slice Mx (makeP x).length mcx) (makeP x)), (rdecR br R2 cr2 D), (decR bd B_27 c_28 R_29 cr_30 (feedP s D))] [laidK, rowF 1 strC AL l, rowF 4 quC AX x, rowF 1 i1C AM mx])
    refine wpList_nil (then_normal (wp_seq (w_region ?_)))
    refine H.go HP 2 [(64, (pt br 0)), (65, (.string (bstr s)))] [] fun a H => ?_
    refine H.call 66 (by kernel_rfl) (Eq.trans (by kernel_rfl : _ = (callFunc 17 #[(pt br 0), (.string (bstr s))]).run Tryd.prog w_31) (Tryd.call17 _ _)) (rfeedD HP 1 br R2 cr2 D s rfl hok) ?_
    rintro e w_34 ⟨rfl, R_32, cr_33, HPn⟩
    refine ⟨_, rfl, ?_⟩
    intro a H
    have HP := (HPn : Hp w _ [(rowsR w_3.heap.size 23 5 cuC okT feF (.slice Mx (makeP x).length mcx) (makeP x)), (rdecR br R_32 cr_33 (feedP s D)), (decR bd B_27 c_28 R_29 cr_30 (feedP s D))] [laidK, rowF 1 strC AL l, rowF 4 quC AX x, rowF 1 i1C AM mx])
    refine wpList_nil (then_normal (wp_seq (w_region ?_)))
    refine H.go HP 1 [(67, (pt bd 0))] [] fun a H => ?_
    refine H.call 68 (by kernel_rfl) (Eq.trans (by kernel_rfl : _ = (callFunc 19 #[(pt bd 0)]).run Tryd.prog w_34) (Tryd.call19 _ _)) (rowsD HP 2 bd B_27 c_28 R_29 cr_30 (feedP s D) rfl (feedP_okk hok)) ?_
    rintro e w_37 ⟨A_35, c_36, rfl, HPn⟩
    refine ⟨_, rfl, ?_⟩
    intro a H
    have HP := (HPn : Hp w _ [(rowsR w_34.heap.size 9 1 strC okT feF (.slice A_35 (feedP s D).rows.length c_36) (feedP s D).rows), (rowsR w_3.heap.size 23 5 cuC okT feF (.slice Mx (makeP x).length mcx) (makeP x)), (rdecR br R_32 cr_33 (feedP s D)), (decR bd B_27 c_28 R_29 cr_30 (feedP s D))] [laidK, rowF 1 strC AL l, rowF 4 quC AX x, rowF 1 i1C AM mx])
    refine H.go HP 1 [(69, (pt br 0))] [] fun a H => ?_
    refine H.call 70 (by kernel_rfl) (Eq.trans (by kernel_rfl : _ = (callFunc 20 #[(pt br 0)]).run Tryd.prog w_37) (Tryd.call20 _ _)) (rrowsD HP 2 br R_32 cr_33 (feedP s D) rfl) ?_
    rintro e w_38 ⟨rfl, hbf⟩
    refine ⟨_, rfl, ?_⟩
    intro a H
    have HP := HP.next hbf
    refine H.call 71 (by kernel_rfl) (Eq.trans (by kernel_rfl : _ = (callFunc 18 #[(.slice A_35 ((feedP s D).rows.length) c_36), (.slice R_32 ((feedP s D).rows.length) cr_33)]).run Tryd.prog w_38) (Tryd.call18 _ _)) ((by have hh := same_any A_35 R_32 c_36 cr_33 ((feedP s D).rows) ((feedP s D).rows) w_38 (IsRow.ofRows (HP.held 0 rfl)) (rrow_of HP 2 rfl) (Nat.le_trans ((feedP_okk hok)).2 (by omega)) (Nat.le_trans ((feedP_okk hok)).2 (by omega)); rw [decide_eq_true (rfl : (feedP s D).rows = (feedP s D).rows)] at hh; exact hh)) ?_
    rintro e w_39 ⟨rfl, hbf⟩
    refine ⟨_, rfl, ?_⟩
    intro a H
    have HP := HP.next hbf
    refine H.go HP 3 [(73, (.bool false)), (74, (pt bd 0))] [] fun a H => ?_
    refine H.call 75 (by kernel_rfl) (Eq.trans (by kernel_rfl : _ = (callFunc 21 #[(pt bd 0)]).run Tryd.prog w_39) (Tryd.call21 _ _)) (sizeD HP 3 bd B_27 c_28 R_29 cr_30 (feedP s D) rfl) ?_
    rintro e w_40 ⟨rfl, hbf⟩
    refine ⟨_, rfl, ?_⟩
    intro a H
    have HP := HP.next hbf
    refine H.go HP 1 [(76, (pt br 0))] [] fun a H => ?_
    refine H.call 77 (by kernel_rfl) (Eq.trans (by kernel_rfl : _ = (callFunc 22 #[(pt br 0)]).run Tryd.prog w_40) (Tryd.call22 _ _)) (rsizeD HP 2 br R_32 cr_33 (feedP s D) rfl) ?_
    rintro e w_41 ⟨rfl, hbf⟩
    refine ⟨_, rfl, ?_⟩
    intro a H
    have HP := HP.next hbf
    refine H.valE 78 (.bool ((((feedP s D).buf.length : Nat) : Int) != (((feedP s D).buf.length : Nat) : Int))) (.bool false) (by kernel_rfl) (by kernel_rfl) ((congrArg Value.bool (bne_self_eq_false' _))) fun a H => ?_
    refine H.go HP 3 [(80, (.bool false)), (81, (pt bd 0))] [] fun a H => ?_
    refine H.call 82 (by kernel_rfl) (Eq.trans (by kernel_rfl : _ = (callFunc 21 #[(pt bd 0)]).run Tryd.prog w_41) (Tryd.call21 _ _)) (sizeD HP 3 bd B_27 c_28 R_29 cr_30 (feedP s D) rfl) ?_
    rintro e w_42 ⟨rfl, hbf⟩
    refine ⟨_, rfl, ?_⟩
    intro a H
    have HP := HP.next hbf
    refine H.valE 83 (.bool (decide ((((feedP s D).buf.length : Nat) : Int) > 96))) (.bool false) (by kernel_rfl) (by kernel_rfl) ((congrArg Value.bool (decide_eq_false (by have := (feedP_okk (c := s) hok).1; omega)))) fun a H => ?_
    refine H.ge HP [(84, (.bool false))] [] fun a H => ?_
    refine then_normal ?_
    refine w_iff H rfl ?_
    refine wp_skip (inb_normal (then_normal (w_region ?_)))
    refine H.go HP 1 [(26, (ii i))] [] fun a H => ?_
    refine H.wi 27 ((i : Int) + 1) fun a H => ?_
    refine H.ge HP [(11, (ii ((i : Int) + 1)))] [] fun a H => ?_
    refine then_normal ?_
    have H := H.as 11 (ii ((i + 1 : Nat) : Int)) rfl rfl
    refine ⟨_, ?_, i + 1, (feedP s D), B_27, c_28, R_29, cr_30, R_32, cr_33, rfl, H.keep (by kernel_rfl), (HP.sub [1, 2, 3] [(rowsR w_3.heap.size 23 5 cuC okT feF (.slice Mx (makeP x).length mcx) (makeP x)), (rdecR br R_32 cr_33 (feedP s D)), (decR bd B_27 c_28 R_29 cr_30 (feedP s D))] (by kernel_rfl) (by kernel_rfl)), (by omega), (feedP_okk hok)⟩
    omega
  ·have g25p := of_decide_eq_false g25
   refine wp_exit (then_exit (then_exit ?_))
   refine w_exit_here ?_
   refine then_normal (wp_seq (w_region ?_))
   refine H.ge HP [(6, (.bool true))] [] fun a H => ?_
   refine then_normal (wp_ret ?_)
   refine H.ret1 (fn := Tryd.f4) Tryd.results4 (RV.tmp_ (v := (.bool true)) (by kernel_rfl)) ?_
   exact ⟨rfl, HP.bl⟩
 ·have g22p := of_decide_eq_false g22
  refine H.ge HP [(25, (.bool false))] [] fun a H => ?_
  refine then_normal ?_
  refine w_iff H rfl ?_
  refine wp_exit (then_exit (then_exit ?_))
  refine w_exit_here ?_
  refine then_normal (wp_seq (w_region ?_))
  refine H.ge HP [(6, (.bool true))] [] fun a H => ?_
  refine then_normal (wp_ret ?_)
  refine H.ret1 (fn := Tryd.f4) Tryd.results4 (RV.tmp_ (v := (.bool true)) (by kernel_rfl)) ?_
  exact ⟨rfl, HP.bl⟩
end Go.Proofs.YtcifcipjndiegaaDoor
