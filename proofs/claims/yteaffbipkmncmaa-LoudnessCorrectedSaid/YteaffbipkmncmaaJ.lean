/- The walks of LoudnessMeasureMatchesReference, LoudnessCorrected and LoudnessBetween. -/
import Derived.Test.YteaffbipkmncmaaH
import Derived.Deep.DeepCutAuto
namespace Go.Proofs.Yteaffbipkmncmaa
open Go.ChangeShapes Go.WideShapes Go.ChangeAt Go.RowKit
set_option linter.unusedVariables false

namespace loudnessMeasureMatchesReference
set_option maxHeartbeats 400000 in
theorem walk (a : Option Addr) (len cap : Nat) (z : List Int) (w : World) (hw : IsInts w a len z ∧ len ≤ cap ∧ cap ≤ maxLen ∧ ∀ n ∈ z, (Lit.int .i64 n).wf = true) :
    Calls Try.prog 3 #[.slice a len cap] w fun e w' => e = .returned (.bool true) ∧ Below w.heap.size w w' := by
  obtain ⟨hi, h1, h2, _⟩ := hw
  have HI := Lib.hid hi
  clear hi
  go_enter Try.func3, Try.ntmps3
  go_wp2_with fail
  refine (sane_any _).mono ?_
  rintro e w1 ⟨rfl, b1⟩
  have H1 := Lib.hid (HI.out.below b1)
  go_wp2_with fail
  refine (few_any _ _ _ _ _ H1.out h1 h2).mono ?_
  rintro e w2 ⟨rfl, rfl⟩
  have hm : min len 300 ≤ 1000 := by omega
  have K := Lib.hid H1.out.few
  generalize min len 300 = l at *
  go_wp2_with fail
  refine (Measure_any _ _ _ _ _ K.out hm).mono ?_
  rintro e w3 ⟨rfl, b3⟩
  have K3 := Lib.hid (K.out.below b3)
  go_wp2_with fail
  refine (refMeasure_any _ _ _ _ _ K3.out hm).mono ?_
  rintro e w4 ⟨rfl, rfl⟩
  go_wp2_with fail
  refine (Gain_any _ _ _ _ _ K3.out hm).mono ?_
  rintro e w5 ⟨rfl, b5⟩
  have K5 := Lib.hid (K3.out.below b5)
  go_wp2_with fail
  refine (refGain_any _ _ _ _ _ K5.out hm).mono ?_
  rintro e w6 ⟨rfl, rfl⟩
  go_wp2_with fail
  go_ret
  exact ⟨rfl, bnext (bnext b1 b3) b5⟩
end loudnessMeasureMatchesReference

namespace loudnessCorrected
theorem gain_law (m : Int) (h0 : 1 ≤ m) (h1 : m ≤ 1000000) :
    250 ≤ gainOf m ∧ gainOf m ≤ 4000 ∧ 0 ≤ m * gainOf m ∧ m * gainOf m ≤ 4000000000 ∧ 0 ≤ m * (gainOf m + 1) ∧ m * (gainOf m + 1) ≤ 5000000000 ∧
    (250 < gainOf m → m * gainOf m ≤ 20000000) ∧ (gainOf m ≠ 4000 → 20000000 < m * (gainOf m + 1)) := by
  have hb := lim_bd (20000000 / m)
  have hg : gainOf m = lim (20000000 / m) := by unfold gainOf; rw [if_neg (by omega)]
  rw [hg]
  have q0 : 0 ≤ 20000000 / m := Int.ediv_nonneg (by omega) (by omega)
  have q1 : m * (20000000 / m) ≤ 20000000 := Int.mul_ediv_self_le (by omega)
  have q2 : 20000000 < m * (20000000 / m + 1) := by
    have := Int.lt_mul_ediv_self_add (x := 20000000) (k := m) (by omega)
    rw [Int.mul_add]; omega
  generalize hq : 20000000 / m = q at *
  have e1 : m * lim q ≤ m * 4000 := Int.mul_le_mul_of_nonneg_left hb.2 (by omega)
  have e2 : m * (lim q + 1) ≤ m * 4001 := Int.mul_le_mul_of_nonneg_left (by omega) (by omega)
  have e3 : 0 ≤ m * lim q := Int.mul_nonneg (by omega) (by omega)
  have e4 : 0 ≤ m * (lim q + 1) := Int.mul_nonneg (by omega) (by omega)
  refine ⟨hb.1, hb.2, e3, by omega, e4, by omega, fun h => ?_, fun h => ?_⟩
  · have : lim q ≤ q := by unfold lim at *; omega
    have := Int.mul_le_mul_of_nonneg_left (c := m) this (by omega)
    omega
  · have : q ≤ lim q := by unfold lim at *; omega
    have := Int.mul_le_mul_of_nonneg_left (c := m) (show q + 1 ≤ lim q + 1 by omega) (by omega)
    omega

set_option maxHeartbeats 1000000 in
theorem walk (a : Option Addr) (len cap : Nat) (z : List Int) (w : World) (hw : IsInts w a len z ∧ len ≤ cap ∧ cap ≤ maxLen ∧ ∀ n ∈ z, (Lit.int .i64 n).wf = true) :
    Calls Try.prog 7 #[.slice a len cap] w fun e w' => e = .returned (.bool true) ∧ Below w.heap.size w w' := by
  obtain ⟨hi, h1, h2, _⟩ := hw
  have HI := Lib.hid hi
  clear hi
  go_enter Try.func7, Try.ntmps7
  go_wp2_with fail
  refine (sane_any _).mono ?_
  rintro e w1 ⟨rfl, b1⟩
  have H1 := Lib.hid (HI.out.below b1)
  go_wp2_with fail
  refine (few_any _ _ _ _ _ H1.out h1 h2).mono ?_
  rintro e w2 ⟨rfl, rfl⟩
  have hm : min len 300 ≤ 1000 := by omega
  have K := Lib.hid H1.out.few
  generalize min len 300 = l at *
  have mb := measure_bd (z.take 300)
  generalize hM : measure (z.take 300) = M at *
  have HM := Lib.hid hM
  clear hM
  go_wp2_with fail
  refine (Measure_any _ _ _ _ _ K.out hm).mono ?_
  rintro e w3 ⟨rfl, b3⟩
  rw [HM.out]
  have K3 := Lib.hid (K.out.below b3)
  go_wp2_with fail
  refine (Gain_any _ _ _ _ _ K3.out hm).mono ?_
  rintro e w5 ⟨rfl, b5⟩
  rw [HM.out]
  by_cases h0 : M = 0
  · subst h0
    have e0 : gainOf 0 = 1000 := rfl
    rw [e0]
    clear e0
    go_wp2_with fail
    go_ret
    exact ⟨rfl, bnext (bnext b1 b3) b5⟩
  · have e0 : (M == 0) = false := by simpa using h0
    obtain ⟨g1, g2, g3, g4, g5, g6, g7, g8⟩ := gain_law M (by omega) mb.2
    generalize gainOf M = G at *
    have G7 := Lib.hid g7
    have G8 := Lib.hid g8
    clear g7 g8
    by_cases c1 : 250 < G
    · have c2 := G7.out c1
      by_cases c3 : G = 4000
      · subst c3
        go_wp2_with fail
        go_ret
        exact ⟨rfl, bnext (bnext b1 b3) b5⟩
      · have c4 : (G == 4000) = false := by simpa using c3
        have c5 := G8.out c3
        go_wp2_with fail
        go_ret
        exact ⟨rfl, bnext (bnext b1 b3) b5⟩
    · have c4 : (G == 4000) = false := by simp; omega
      have c5 := G8.out (by omega)
      have c6 : decide (250 < G) = false := by simpa using c1
      go_wp2_with fail
      go_ret
      exact ⟨rfl, bnext (bnext b1 b3) b5⟩
end loudnessCorrected

namespace loudnessBetween
def LM (l : List Int) (a b : Int) : Prop := (l.length = 0 ∧ a = 0 ∧ b = 0) ∨ (l.length ≠ 0 ∧ 200 ≤ a ∧ a ≤ b ∧ b ≤ 1000000 ∧ ∀ p ∈ l, a ≤ p ∧ p ≤ b)
theorem lm_step (l : List Int) (a b p : Int) (h : LM l a b) (h1 : 200 ≤ p) (h2 : p ≤ 1000000) : LM (l ++ [p]) (if a = 0 ∨ p < a then p else a) (max b p) := by
  right
  rcases h with ⟨hl, rfl, rfl⟩ | ⟨hl, ha, hab, hb, hp⟩
  · have : l = [] := by simpa using hl
    subst this
    simp
    omega
  · refine ⟨by simp, by split <;> omega, by split <;> omega, by omega, fun q hq => ?_⟩
    rw [List.mem_append] at hq
    rcases hq with hq | hq
    · have := hp q hq; split <;> omega
    · obtain rfl : q = p := by simpa using hq
      split <;> omega
theorem lm_eq {l : List Int} {a b a' b' : Int} (h : LM l a b) (h1 : a = a') (h2 : b = b') : LM l a' b' := by subst h1; subst h2; exact h
theorem lm_bd (l : List Int) (a b : Int) (h : LM l a b) : 0 ≤ a ∧ a ≤ 1000000 ∧ 0 ≤ b ∧ b ≤ 1000000 := by
  rcases h with ⟨hl, rfl, rfl⟩ | ⟨hl, ha, hab, hb, hp⟩ <;> omega
theorem gmean_between (l : List Int) (a b : Int) (hl : l.length ≠ 0) (h : ∀ p ∈ l, a ≤ p ∧ p ≤ b) : a ≤ gmean l ∧ gmean l ≤ b := by
  have hs : a * (l.length : Int) ≤ l.sum ∧ l.sum ≤ b * (l.length : Int) := by
    clear hl
    induction l with
    | nil => simp
    | cons x l ih =>
      have h1 := h x (by simp)
      have h2 := ih (fun p hp => h p (by simp [hp]))
      simp only [List.sum_cons, List.length_cons]
      push_cast
      rw [Int.mul_add, Int.mul_add]
      omega
  unfold gmean
  rw [if_neg hl]
  have hn : (0 : Int) < (l.length : Int) := by omega
  generalize l.sum = s at *
  generalize (l.length : Int) = n at *
  have q1 := Int.ediv_le_ediv hn hs.1
  have q2 := Int.ediv_le_ediv hn hs.2
  rw [Int.mul_ediv_cancel _ (by omega)] at q1 q2
  exact ⟨q1, q2⟩
theorem law (zs : List Int) (a b : Int) (h : LM (sel zs 0) a b) : ((measure zs == 0) = (b == 0)) ∧ a ≤ measure zs ∧ measure zs ≤ b := by
  rcases h with ⟨hl, rfl, rfl⟩ | ⟨hl, ha, hab, hb, hp⟩
  · have : measure zs = 0 := measure_zero zs hl
    rw [this]; simp
  · have h2 := sel_some zs hl
    have h3 : ∀ p ∈ sel zs (gmean (sel zs 0)), a ≤ p ∧ p ≤ b := by
      intro p hpp
      apply hp
      generalize gmean (sel zs 0) = q at *
      have hb := sel_bd zs q p hpp
      unfold sel at hpp ⊢
      rw [List.mem_filter] at hpp ⊢
      exact ⟨hpp.1, by simp; omega⟩
    have h4 := gmean_between _ a b h2 h3
    change a ≤ measure zs ∧ measure zs ≤ b at h4
    refine ⟨?_, h4⟩
    rw [show (measure zs == 0) = false by simp; omega, show (b == 0) = false by simp; omega]

set_option maxHeartbeats 1000000 in
theorem walk (a : Option Addr) (len cap : Nat) (z : List Int) (w : World) (hw : IsInts w a len z ∧ len ≤ cap ∧ cap ≤ maxLen ∧ ∀ n ∈ z, (Lit.int .i64 n).wf = true) :
    Calls Try.prog 6 #[.slice a len cap] w fun e w' => e = .returned (.bool true) ∧ Below w.heap.size w w' := by
  obtain ⟨hi, h1, h2, _⟩ := hw
  have HI := Lib.hid hi
  clear hi
  go_enter Try.func6, Try.ntmps6
  go_wp2_with fail
  refine (sane_any _).mono ?_
  rintro e w1 ⟨rfl, b1⟩
  have H1 := Lib.hid (HI.out.below b1)
  go_wp2_with fail
  refine (few_any _ _ _ _ _ H1.out h1 h2).mono ?_
  rintro e w2 ⟨rfl, rfl⟩
  have hm : min len 300 ≤ 300 := by omega
  have K := Lib.hid H1.out.few
  generalize min len 300 = l at *
  generalize z.take 300 = zs at *
  go_wp2_with fail
  go_loop [4, 5, 6] (fun x y i => ∃ (k : Nat) (lo hi : Int), k ≤ l ∧ i = .int .i64 k ∧ x = .int .i64 lo ∧ y = .int .i64 hi ∧ LM (sel (zs.take k) 0) lo hi) (fun _ _ i => l - (intOf i).toNat)
  case atStart => exact ⟨0, 0, 0, Nat.zero_le _, rfl, rfl, rfl, .inl ⟨rfl, rfl, rfl⟩⟩
  case round =>
    obtain ⟨k, lo, hi, hk, rfl, rfl, rfl, hLM⟩ := hrel
    have hb := lm_bd _ _ _ hLM
    have HLM := Lib.hid hLM
    clear hLM
    by_cases hlt : k < l
    · obtain ⟨b, off, rfl, _, hcell⟩ := K.out.2.resolve_left (by omega)
      have hc := hcell k hlt
      have hst : sel (zs.take (k + 1)) 0 = sel (zs.take k) 0 ++ if 200 ≤ zs.getD k 0 then [min (zs.getD k 0) 1000000] else [] := by
        have hkl : k < zs.length := by have := K.out.1; omega
        rw [List.take_succ_eq_append_getElem hkl, sel_snoc, show zs.getD k 0 = zs[k] by simp [List.getD, List.getElem?_eq_getElem hkl]]
        congr 1
        unfold cl
        split
        · rw [if_pos (by omega), show min (max zs[k] 0) 1000000 = min zs[k] 1000000 by omega]
        · rw [if_neg (by omega)]
      have HS := Lib.hid hst
      clear hcell hst
      generalize zs.getD k 0 = x at *
      by_cases hx : x < 200
      · go_wp2_with fail
        go_round
        case rel => exact ⟨k + 1, lo, hi, by omega, by go_num, rfl, rfl, by rw [HS.out, if_neg (by omega), List.append_nil]; exact HLM.out⟩
        case measure => simp [intOf]; omega
      · have hr := lm_step _ _ _ (min x 1000000) HLM.out (by omega) (by omega)
        have hr2 : LM (sel (zs.take (k + 1)) 0) (if lo = 0 ∨ min x 1000000 < lo then min x 1000000 else lo) (max hi (min x 1000000)) := by rw [HS.out, if_pos (by omega)]; exact hr
        have HR := Lib.hid hr2
        clear hr hr2
        obtain ⟨p, hp⟩ : ∃ p, min x 1000000 = p := ⟨_, rfl⟩
        rw [hp] at HR
        have hp2 : (1000000 < x ∧ p = 1000000) ∨ (x ≤ 1000000 ∧ p = x) := by omega
        clear hp HS HLM
        have hc0 : (lo = 0) ∨ ((lo == 0) = false ∧ lo ≠ 0 ∧ p < lo) ∨ ((lo == 0) = false ∧ lo ≠ 0 ∧ lo ≤ p) := by
          by_cases h0 : lo = 0
          · exact .inl h0
          · have : (lo == 0) = false := by simpa using h0
            by_cases h1 : p < lo
            · exact .inr (.inl ⟨this, h0, h1⟩)
            · exact .inr (.inr ⟨this, h0, by omega⟩)
        have hst : (LM (sel (zs.take (k + 1)) 0) p (max hi p) ∧ (lo = 0 ∨ ((lo == 0) = false ∧ p < lo))) ∨ (LM (sel (zs.take (k + 1)) 0) lo (max hi p) ∧ (lo == 0) = false ∧ lo ≤ p) := by
          rcases hc0 with h | ⟨h1, h2, h3⟩ | ⟨h1, h2, h3⟩
          · exact .inl ⟨by have := HR.out; rwa [if_pos (.inl h)] at this, .inl h⟩
          · exact .inl ⟨by have := HR.out; rwa [if_pos (.inr h3)] at this, .inr ⟨h1, h3⟩⟩
          · exact .inr ⟨by have := HR.out; rwa [if_neg (by omega)] at this, h1, h3⟩
        clear HR hc0
        rcases hp2 with ⟨p1, rfl⟩ | ⟨p1, rfl⟩
        all_goals
          rcases hst with ⟨hr, h | ⟨h1, h3⟩⟩ | ⟨hr, h1, h3⟩
        all_goals have HR := Lib.hid hr; clear hr
        all_goals (try subst h)
        all_goals
          go_wp2_with fail
          go_round
          case rel =>
            refine ⟨k + 1, _, _, by omega, by go_num, rfl, rfl, lm_eq HR.out rfl ?_⟩
            first | omega | (split <;> omega)
          case measure => simp [intOf]; omega
    · have hz : zs.take k = zs := List.take_of_length_le (by have := K.out.1; omega)
      rw [hz] at HLM
      obtain ⟨q1, q2, q3⟩ := law zs lo hi HLM.out
      generalize hMM : measure zs = M at *
      have HM := Lib.hid hMM
      have Q1 := Lib.hid q1
      clear HLM hz hMM q1
      go_wp2_with fail
      refine (Measure_any _ _ _ _ _ K.out (by omega)).mono ?_
      rintro e w3 ⟨rfl, b3⟩
      rw [HM.out]
      have hq : (M = 0 ∧ hi = 0) ∨ ((M == 0) = false ∧ (hi == 0) = false) := by
        by_cases h : M = 0
        · left; have := Q1.out; rw [h] at this; exact ⟨h, by simpa using this.symm⟩
        · right; have h' : (M == 0) = false := by simpa using h
          exact ⟨h', by have := Q1.out; rw [h'] at this; exact this.symm⟩
      rcases hq with ⟨rfl, rfl⟩ | ⟨h3, h4⟩
      all_goals
        go_wp2_with fail
        go_ret
        exact ⟨rfl, bnext b1 b3⟩
end loudnessBetween
end Go.Proofs.Yteaffbipkmncmaa
