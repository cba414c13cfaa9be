/- The walk of LoudnessGated. -/
import Derived.Test.YteaffbipkmncmaaK
namespace Go.Proofs.Yteaffbipkmncmaa.loudnessGated
open Go.ChangeShapes Go.WideShapes Go.ChangeAt Go.RowKit
set_option linter.unusedVariables false

/-! ### The plain law -/
theorem sel_append (x y : List Int) (a : Int) : sel (x ++ y) a = sel x a ++ sel y a := by unfold sel; simp
theorem sum_perm {x y : List Int} (h : x.Perm y) : x.sum = y.sum := by
  induction h with
  | nil => rfl
  | cons a _ ih => simp [ih]
  | swap a b l => simp; omega
  | trans _ _ i1 i2 => rw [i1, i2]
theorem gmean_perm {x y : List Int} (h : x.Perm y) : gmean x = gmean y := by
  unfold gmean; rw [h.length_eq, sum_perm h]
theorem sel_perm {x y : List Int} (h : x.Perm y) (a : Int) : (sel x a).Perm (sel y a) := by
  unfold sel; exact ((h.map _).filter _).filter _
theorem measure_perm {x y : List Int} (h : x.Perm y) : measure x = measure y := by
  unfold measure; rw [gmean_perm (sel_perm h 0)]; exact gmean_perm (sel_perm h _)
theorem measure_rot (l : List Int) (k : Nat) : measure (l.drop k ++ l.take k) = measure l :=
  measure_perm (by have := List.perm_append_comm (l₁ := l.drop k) (l₂ := l.take k); rwa [List.take_append_drop] at this)
theorem gmean_twice (l : List Int) : gmean (l ++ l) = gmean l := by
  unfold gmean
  rw [List.length_append, List.sum_append]
  by_cases h : l.length = 0
  · rw [if_pos h, if_pos (by omega)]
  · rw [if_neg h, if_neg (by omega)]
    push_cast
    rw [← Int.two_mul, ← Int.two_mul, Int.mul_ediv_mul_of_pos _ _ (by omega)]
theorem measure_twice (l : List Int) : measure (l ++ l) = measure l := by
  unfold measure; rw [sel_append, gmean_twice, sel_append, gmean_twice]
theorem sel_quiet (q a : Int) (h : q < 200) : sel [q] a = [] := by
  unfold sel
  have : ¬ 200 ≤ cl q := by unfold cl; omega
  simp [this]
theorem measure_more (x y : List Int) (q : Int) (h : q < 200) : measure (x ++ [q] ++ y) = measure (x ++ y) := by
  unfold measure
  simp only [sel_append, sel_quiet q _ h, List.append_nil]

/-! ### The walk -/
abbrev I (zs : List Int) : List Value := zs.map (Value.int .i64)
theorem ofInts {w : World} {A : Option Addr} {n : Nat} {zs : List Int} (h : IsInts w A n zs) : Rd w 1 A n (I zs) := by
  obtain ⟨h1, h2⟩ := h
  refine ⟨by simp [h1], ?_⟩
  rcases h2 with h2 | ⟨b, off, rfl, hb, hc⟩
  · exact .inl h2
  · refine .inr ⟨b, off, rfl, hb, fun i hi => ?_⟩
    rw [hc i (by omega)]
    simp only [List.getElem?_map, List.getD]
    rw [List.getElem?_eq_getElem (by omega)]
    rfl
theorem toInts {w : World} {A : Option Addr} {n : Nat} {zs : List Int} (h : Rd w 1 A n (I zs)) : IsInts w A n zs := by
  obtain ⟨h1, h2⟩ := h
  refine ⟨by simpa using h1, ?_⟩
  rcases h2 with h2 | ⟨b, off, rfl, hb, hc⟩
  · exact .inl h2
  · refine .inr ⟨b, off, rfl, hb, fun i hi => ?_⟩
    have hl : i < zs.length := by have : zs.length = n := by simpa using h1
                                  omega
    rw [hc i (by omega)]
    simp only [List.getElem?_map, List.getD]
    rw [List.getElem?_eq_getElem hl]
    rfl

theorem own_empty (w : World) : (w.alloc (Obj.cells #[] 3)).drew.ownsRow w.heap.size 3 1 (.slice (some ⟨w.heap.size, 0, none⟩) 0 0) 0 [] := by
  refine ⟨rfl, .inr ⟨w.heap.size, 0, #[], rfl, Nat.le_refl _, ?_, Nat.le_refl _, Nat.zero_le _, rfl, rfl⟩⟩
  exact heap_alloc_new w _
theorem own_empty' (w : World) : (w.alloc (Obj.cells #[] 3)).ownsRow w.heap.size 3 1 (.slice (some ⟨w.heap.size, 0, none⟩) 0 0) 0 [] := own_empty w
theorem own_ge {w : World} {base size : Nat} {e : TypeId} {v : Value} {n : Nat} {xs : List Value} (h : w.ownsRow base e size v n xs) : ∀ k, v.ownBlock = some k → base ≤ k := by
  intro k hk
  rcases h.2 with ⟨rfl, _⟩ | ⟨g, cap, cur, rfl, hb, _⟩
  · simp [Value.ownBlock] at hk
  · have : g = k := by simpa [Value.ownBlock] using hk
    omega
theorem ones (zs : List Int) : ∀ u ∈ I zs, u.oneCell' = true := by
  intro u hu
  simp only [List.mem_map] at hu
  obtain ⟨z, _, rfl⟩ := hu
  rfl
theorem cut1 {w : World} {A : Option Addr} {n : Nat} {zs : List Int} (h : Rd w 1 A n (I zs)) {k cap : Nat} (hk : k ≤ n) (hc : n ≤ cap) :
    Rd w 1 (if cap = k then A else Option.map (fun x => x.add k) A) (n - k) (I (zs.drop k)) := by
  have := h.cut hk hc
  simpa [Nat.mul_one, List.map_drop] using this
theorem take1 {w : World} {A : Option Addr} {n : Nat} {zs : List Int} (h : Rd w 1 A n (I zs)) {k : Nat} (hk : k ≤ n) : Rd w 1 A k (I (zs.take k)) := by
  have := h.take hk
  simpa [Nat.mul_one, List.map_take] using this
theorem nil1 {A : Option Addr} {n k cap : Nat} (h : A = none → cap = 0) (hk : k ≤ n) (hc : n ≤ cap) : (if cap = k then A else Option.map (fun x => x.add k) A) = none → n - k = 0 ∧ cap - k = 0 := by
  intro e
  split at e
  · omega
  · have : A = none := by cases A <;> simp_all
    have := h this
    omega
theorem fin13 {w wd : World} {B : Option Addr} {j c : Nat} {zs : List Int} {x : Int} (ho : w.ownsRow wd.heap.size 3 1 (.slice B (j + 1) c) (j + 1) (I (zs.take j) ++ I [x])) (hb : Below wd.heap.size wd w) (hx : x < 200) :
    ∃ (B' : Option Addr) (c' : Nat) (y : Int), y < 200 ∧ Value.slice B (j + 1) c = .slice B' (j + 1) c' ∧ w.ownsRow wd.heap.size 3 1 (.slice B' (j + 1) c') (j + 1) (I (zs.take j ++ [y])) ∧ Below wd.heap.size wd w :=
  ⟨B, c, x, hx, rfl, by have e : I (zs.take j ++ [x]) = I (zs.take j) ++ I [x] := List.map_append; rw [e]; exact ho, hb⟩
theorem info3 : (Try.prog.info? 3).map (fun i => (i.zero, i.size, i.bytes)) = some (some (.int .i64 0), 1, 8) := by kernel_rfl

set_option maxRecDepth 100000 in
set_option maxHeartbeats 1000000 in
theorem walk (a : Option Addr) (len cap : Nat) (z : List Int) (t q p : Int) (w : World) (hw : IsInts w a len z ∧ len ≤ cap ∧ cap ≤ maxLen ∧ (∀ n ∈ z, (Lit.int .i64 n).wf = true) ∧ (a = none → cap = 0))
    (w1 : (Lit.int .i64 t).wf = true) (w2 : (Lit.int .i64 q).wf = true) (w3 : (Lit.int .i64 p).wf = true) :
    Calls Try.prog 5 #[.slice a len cap, .int .i64 t, .int .i64 q, .int .i64 p] w fun e w' => e = .returned (.bool true) ∧ Below w.heap.size w w' := by
  obtain ⟨hi, h1, h2, _, hnil⟩ := hw
  have HNil := Lib.hid hnil
  clear hnil
  have bt := wf_bd w1
  have bq := wf_bd w2
  have bp := wf_bd w3
  clear w1 w2 w3
  have HI := Lib.hid hi
  clear hi
  go_enter Try.func5, Try.ntmps5
  go_wp2_with fail
  refine (sane_any _).mono ?_
  rintro e w1 ⟨rfl, b1⟩
  have H1 := Lib.hid (HI.out.below b1)
  go_wp2_with fail
  refine (few_any _ _ _ _ _ H1.out h1 h2).mono ?_
  rintro e w2 ⟨rfl, rfl⟩
  have hm : min len 300 ≤ 300 := by omega
  have hmc : min len 300 ≤ cap := by omega
  have K := Lib.hid H1.out.few
  generalize min len 300 = l at *
  generalize z.take 300 = zs at *
  go_wp2_with fail
  refine (Measure_any _ _ _ _ _ K.out (by omega)).mono ?_
  rintro e w3 ⟨rfl, b3⟩
  have K3 := Lib.hid (K.out.below b3)
  have BB3 := Lib.hid (bnext b1 b3)
  generalize hM : measure zs = M at *
  have HM := Lib.hid hM
  clear hM b1 b3 HI H1 K
  go_upto_if 23 with (fail)
  go_cut [11] (fun g wx => ∃ k : Nat, g = .int .i64 k ∧ k ≤ l ∧ w3 = wx)
  case first =>
    by_cases hl : 0 < l
    · have r1 : -(l : Int) < t.tmod l := by
        have := Int.lt_tmod_of_pos t (show (0 : Int) < l by omega); omega
      have r2 : t.tmod l < l := Int.tmod_lt_of_pos t (by omega)
      go_wp2_with fail
      go_meet
      have r3 : 0 ≤ (t.tmod l + l) % l := Int.emod_nonneg _ (by omega)
      have r4 : (t.tmod l + l) % l < l := Int.emod_lt_of_pos _ (by omega)
      exact ⟨((t.tmod l + l) % l).toNat, by rw [Int.toNat_of_nonneg r3], by omega, rfl⟩
    · go_wp2_with fail
      go_meet
      exact ⟨0, rfl, by omega, rfl⟩
  case rest =>
    obtain ⟨k, rfl, hk, rfl⟩ := hcut
    have hkc : k ≤ cap := by omega
    have R := Lib.hid (ofInts K3.out)
    obtain ⟨i0, hi0, hz0, hz1, hz2⟩ := info_parts info3
    go_upto_region 7 with (fail)
    go_cut [12] (fun g wx => ∃ B c, g = .slice B l c ∧ Rd wx 1 B l (I (zs.drop k ++ zs.take k)) ∧ Below w3.heap.size w3 wx)
    case first =>
      have hb0 : Below w3.heap.size w3 (w3.alloc (Obj.cells #[] 3)).drew := ((Below.refl _ _).alloc (Nat.le_refl _) _).drew
      have Hb0 := Lib.hid hb0
      have Ho0 := Lib.hid (own_empty w3)
      have Hr1 := Lib.hid (cut1 R.out hk hmc)
      have Hn1 := Lib.hid (nil1 HNil.out hk hmc)
      have Hr2 := Lib.hid (take1 R.out hk)
      clear hb0
      go_region_law (first
        | (refine step_append_rd (w3.alloc (Obj.cells #[] 3)).drew rfl (.tmp 34) (.tmp 37) 22 rfl w3.heap.size 3 i0 (.int .i64 0) 1 8 Try.underlying22 hi0 hz0 hz1 hz2 rfl (by decide) _ 0 [] rfl Ho0.out _ (l - k) _ (I (zs.drop k)) rfl Hn1.out (Hr1.out.below Hb0.out) (ones _) (by unfold maxLen; omega) (by omega) Hb0.out.size ?_; intro B1 c1 w4 hown1 hgrow1; have Hb1 := Lib.hid (Hb0.out.grown hgrow1 Hb0.out.size (fun k e => by cases e; exact Nat.le_refl _)); simp only [Nat.zero_add, List.nil_append] at hown1; have Hown1 := Lib.hid hown1; clear hown1 hgrow1)
        | (refine step_append_rd w4 rfl (.tmp 38) (.tmp 41) 22 rfl w3.heap.size 3 i0 (.int .i64 0) 1 8 Try.underlying22 hi0 hz0 hz1 hz2 rfl (by decide) _ (l - k) (I (zs.drop k)) rfl Hown1.out _ k _ (I (zs.take k)) rfl (fun e => ⟨by have := HNil.out e; omega, HNil.out e⟩) (Hr2.out.below Hb1.out) (ones _) (by unfold maxLen; omega) (by omega) Hb1.out.size ?_; intro B2 c2 w5 hown2 hgrow2; have Hb2 := Lib.hid (Hb1.out.grown hgrow2 Hb1.out.size (fun k e => by have := own_ge Hown1.out; exact this k e)); rw [Nat.sub_add_cancel hk] at hown2; have Hown2 := Lib.hid hown2; clear hown2 hgrow2))
      generalize (if cap = k then a else Option.map (fun x => x.add k) a) = A1
      go_wp2_with fail
      go_meet
      refine ⟨B2, c2, rfl, ?_, Hb2.out⟩
      have := Rd.of_own Hown2.out
      rwa [← List.map_append] at this
    case rest =>
      obtain ⟨B2, c2, rfl, hr2, hb2⟩ := hcut
      have R2 := Lib.hid hr2
      have Hb2 := Lib.hid hb2
      have RA := Lib.hid (R.out.below hb2)
      clear hr2 hb2
      obtain ⟨wA, rfl⟩ : ∃ x : World, x = wc := ⟨_, rfl⟩
      have Ho0 := Lib.hid (own_empty' wA)
      have Hb0 := Lib.hid ((Below.refl wA.heap.size wA).alloc (Nat.le_refl _) (Obj.cells #[] 3))
      go_upto_region 8 with (fail)
      go_cut [13] (fun g wx => ∃ B c, g = .slice B (l + l) c ∧ Rd wx 1 B (l + l) (I (zs ++ zs)) ∧ Below wA.heap.size wA wx)
      case first =>
        go_wp2_with (first
          | (at_builtin; refine wpList_append_rd (wA.alloc (Obj.cells #[] 3)) rfl (.tmp 43) (.tmp 44) 22 rfl wA.heap.size 3 i0 (.int .i64 0) 1 8 Try.underlying22 hi0 hz0 hz1 hz2 rfl (by decide) _ 0 [] rfl Ho0.out _ l _ (I zs) rfl (fun e => ⟨by have := HNil.out e; omega, HNil.out e⟩) (RA.out.below Hb0.out) (ones _) (by unfold maxLen; omega) (by omega) Hb0.out.size ?_; intro B1 c1 w4 hown1 hgrow1; have Hb1 := Lib.hid (Hb0.out.grown hgrow1 Hb0.out.size (fun k e => by cases e; exact Nat.le_refl _)); simp only [Nat.zero_add, List.nil_append] at hown1; have Hown1 := Lib.hid hown1; clear hown1 hgrow1)
          | (at_builtin; refine wpList_append_rd w4 rfl (.tmp 45) (.tmp 46) 22 rfl wA.heap.size 3 i0 (.int .i64 0) 1 8 Try.underlying22 hi0 hz0 hz1 hz2 rfl (by decide) _ l (I zs) rfl Hown1.out _ l _ (I zs) rfl (fun e => ⟨by have := HNil.out e; omega, HNil.out e⟩) (RA.out.below Hb1.out) (ones _) (by unfold maxLen; omega) (by omega) Hb1.out.size ?_; intro B3 c3 w5 hown2 hgrow2; have Hb3 := Lib.hid (Hb1.out.grown hgrow2 Hb1.out.size (own_ge Hown1.out)); have Hown2 := Lib.hid hown2; clear hown2 hgrow2))
        go_meet
        refine ⟨B3, c3, rfl, ?_, Hb3.out⟩
        have := Rd.of_own Hown2.out
        rwa [← List.map_append] at this
      case rest =>
        obtain ⟨B3, c3, rfl, hr3, hb3⟩ := hcut
        have R3 := Lib.hid hr3
        have RB := Lib.hid (RA.out.below hb3)
        have R22 := Lib.hid (R2.out.below hb3)
        have Hb3 := Lib.hid (bnext Hb2.out hb3)
        clear hr3 hb3 Ho0 Hb0 RA R2 Hb2 R
        obtain ⟨wd, rfl⟩ : ∃ x : World, x = wc := ⟨_, rfl⟩
        go_upto_if 49 with (fail)
        go_cut [14] (fun g wx => ∃ j : Nat, g = .int .i64 j ∧ j ≤ l ∧ wd = wx)
        case first =>
          by_cases hp : 0 < p
          · go_wp2_with fail
            go_meet
            have r3 : 0 ≤ p % ((l : Int) + 1) := Int.emod_nonneg _ (by omega)
            have r4 : p % ((l : Int) + 1) < (l : Int) + 1 := Int.emod_lt_of_pos _ (by omega)
            exact ⟨(p % ((l : Int) + 1)).toNat, by rw [Int.toNat_of_nonneg r3], by omega, rfl⟩
          · go_wp2_with fail
            go_meet
            exact ⟨0, rfl, by omega, rfl⟩
        case rest =>
          obtain ⟨j, rfl, hj, rfl⟩ := hcut
          have hjc : j ≤ cap := by omega
          have Ho0 := Lib.hid (own_empty' wd)
          have Hb0 := Lib.hid ((Below.refl wd.heap.size wd).alloc (Nat.le_refl _) (Obj.cells #[] 3))
          have Hr1 := Lib.hid (take1 RB.out hj)
          have Hr2 := Lib.hid (cut1 RB.out hj hmc)
          have Hn2 := Lib.hid (nil1 HNil.out hj hmc)
          go_upto_region 12 with (fail)
          go_cut [15] (fun g wx => ∃ B c, g = .slice B j c ∧ wx.ownsRow wd.heap.size 3 1 (.slice B j c) j (I (zs.take j)) ∧ Below wd.heap.size wd wx)
          case first =>
            go_wp2_with (first
              | (at_builtin; refine wpList_append_rd (wd.alloc (Obj.cells #[] 3)) rfl (.tmp 55) (.tmp 58) 22 rfl wd.heap.size 3 i0 (.int .i64 0) 1 8 Try.underlying22 hi0 hz0 hz1 hz2 rfl (by decide) _ 0 [] rfl Ho0.out _ j _ (I (zs.take j)) rfl (fun e => ⟨by have := HNil.out e; omega, HNil.out e⟩) (Hr1.out.below Hb0.out) (ones _) (by unfold maxLen; omega) (by omega) Hb0.out.size ?_; intro B1 c1 w4 hown1 hgrow1; have Hb1 := Lib.hid (Hb0.out.grown hgrow1 Hb0.out.size (fun k e => by cases e; exact Nat.le_refl _)); simp only [Nat.zero_add, List.nil_append] at hown1; have Hown1 := Lib.hid hown1; clear hown1 hgrow1))
            go_meet
            exact ⟨B1, c1, rfl, Hown1.out, Hb1.out⟩
          case rest =>
            obtain ⟨B4, c4, rfl, ho4, hb4⟩ := hcut
            have Ho4 := Lib.hid ho4
            have Hb4 := Lib.hid hb4
            clear ho4 hb4 Ho0 Hb0
            obtain ⟨we, rfl⟩ : ∃ x : World, x = wc := ⟨_, rfl⟩
            go_upto_region 13 with (fail)
            go_cut [15] (fun g wx => ∃ (B : Option Addr) (c : Nat) (x : Int), x < 200 ∧ g = .slice B (j + 1) c ∧ wx.ownsRow wd.heap.size 3 1 (.slice B (j + 1) c) (j + 1) (I (zs.take j ++ [x])) ∧ Below wd.heap.size wd wx)
            case first =>
              have hq : (q < 199 ∨ q = 199) ∨ 199 < q := by omega
              have HH : ∀ x : Int, Hid (we.alloc (Obj.cells #[.int .i64 x] 3) |>.ownsRow wd.heap.size 3 1 (.slice B4 j c4) j (I (zs.take j))) := fun x => Lib.hid (Ho4.out.alloc _)
              have HB : ∀ x : Int, Hid (Below wd.heap.size wd (we.alloc (Obj.cells #[.int .i64 x] 3))) := fun x => Lib.hid (Hb4.out.alloc Hb4.out.size _)
              have HN : ∀ x : Int, Hid (Rd (we.alloc (Obj.cells #[.int .i64 x] 3)) 1 (some ⟨we.heap.size, 0, none⟩) 1 (I [x])) := fun x => Lib.hid (ofInts (isInts_one we x))
              by_cases hq : q < 199
              all_goals
                go_wp2_with (first
                  | (at_builtin; refine wpList_append_rd _ rfl (.tmp 60) (.tmp 63) 22 rfl wd.heap.size 3 i0 (.int .i64 0) 1 8 Try.underlying22 hi0 hz0 hz1 hz2 rfl (by decide) _ j (I (zs.take j)) rfl (HH _).out _ 1 _ (I [_]) rfl (fun e => by cases e) (HN _).out (ones _) (by unfold maxLen; omega) (by omega) (HB _).out.size ?_; intro B1 c1 w4 hown1 hgrow1; have Hb1 := Lib.hid ((HB _).out.grown hgrow1 (HB _).out.size (own_ge Ho4.out)); have Hown1 := Lib.hid hown1; clear hown1 hgrow1))
              all_goals
                go_meet
                exact fin13 Hown1.out Hb1.out (by omega)
            case rest =>
              obtain ⟨B5, c5, x, hx, rfl, ho5, hb5⟩ := hcut
              have Ho5 := Lib.hid ho5
              have Hb5 := Lib.hid hb5
              clear ho5 hb5 Ho4 Hb4
              obtain ⟨wf, rfl⟩ : ∃ x : World, x = wc := ⟨_, rfl⟩
              go_upto_region 14 with (fail)
              go_cut [15] (fun g wx => ∃ (B : Option Addr) (c : Nat), g = .slice B (l + 1) c ∧ Rd wx 1 B (l + 1) (I (zs.take j ++ [x] ++ zs.drop j)) ∧ Below wd.heap.size wd wx)
              case first =>
                go_wp2_with (first
                  | (at_builtin; refine wpList_append_rd wf rfl (.tmp 65) (.tmp 68) 22 rfl wd.heap.size 3 i0 (.int .i64 0) 1 8 Try.underlying22 hi0 hz0 hz1 hz2 rfl (by decide) _ (j + 1) (I (zs.take j ++ [x])) rfl Ho5.out _ (l - j) _ (I (zs.drop j)) rfl Hn2.out (Hr2.out.below Hb5.out) (ones _) (by unfold maxLen; omega) (by omega) Hb5.out.size ?_; intro B1 c1 w4 hown1 hgrow1; have Hb1 := Lib.hid (Hb5.out.grown hgrow1 Hb5.out.size (own_ge Ho5.out)); rw [show j + 1 + (l - j) = l + 1 by omega] at hown1 ⊢; have Hown1 := Lib.hid hown1; clear hown1 hgrow1; generalize (if cap = j then a else Option.map (fun x => x.add j) a) = A2))
                go_meet
                refine ⟨B1, c1, rfl, ?_, Hb1.out⟩
                have := Rd.of_own Hown1.out
                rwa [← List.map_append] at this
              case rest =>
                obtain ⟨B6, c6, rfl, hr6, hb6⟩ := hcut
                have I1 := Lib.hid (toInts (R22.out.below hb6))
                have I2 := Lib.hid (toInts (R3.out.below hb6))
                have I3 := Lib.hid (toInts hr6)
                have HB := Lib.hid (bnext (bnext BB3.out Hb3.out) hb6)
                have M1 := Lib.hid ((measure_rot zs k).trans HM.out)
                have M2 := Lib.hid ((measure_twice zs).trans HM.out)
                have M3 : Hid (measure (zs.take j ++ [x] ++ zs.drop j) = M) := Lib.hid (by rw [measure_more _ _ _ hx, List.take_append_drop]; exact HM.out)
                clear hr6 hb6
                go_wp2_with fail
                refine (Measure_any _ _ _ _ _ I1.out (by omega)).mono ?_
                rintro e w7 ⟨rfl, b7⟩
                rw [M1.out]
                have J2 := Lib.hid (I2.out.below b7)
                go_wp2_with fail
                refine (Measure_any _ _ _ _ _ J2.out (by omega)).mono ?_
                rintro e w8 ⟨rfl, b8⟩
                rw [M2.out]
                have J3 := Lib.hid ((I3.out.below b7).below b8)
                go_wp2_with fail
                refine (Measure_any _ _ _ _ _ J3.out (by omega)).mono ?_
                rintro e w9 ⟨rfl, b9⟩
                rw [M3.out]
                go_wp2_with fail
                go_ret
                exact ⟨rfl, bnext (bnext (bnext HB.out b7) b8) b9⟩
end Go.Proofs.Yteaffbipkmncmaa.loudnessGated
