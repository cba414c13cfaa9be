/- The plain law of the gated mean. -/
import Derived.Test.YteaffbipkmncmaaB
namespace Go.Proofs.Yteaffbipkmncmaa

/-- A power within its limits. -/
def cl (z : Int) : Int := min (max z 0) 1000000
theorem cl_bd (z : Int) : 0 ≤ cl z ∧ cl z ≤ 1000000 := by unfold cl; omega
theorem clampi_cl (z : Int) : clampi z 0 1000000 = cl z := by unfold clampi cl; split <;> (try split) <;> omega

/-- The powers that count, for a first mean a. -/
def sel (zs : List Int) (a : Int) : List Int := ((zs.map cl).filter fun p => decide (200 ≤ p)).filter fun p => decide (a ≤ 10 * p)
def gmean (l : List Int) : Int := if l.length = 0 then 0 else l.sum / (l.length : Int)
def measure (zs : List Int) : Int := gmean (sel zs (gmean (sel zs 0)))

theorem sel_snoc (zs : List Int) (z a : Int) : sel (zs ++ [z]) a = sel zs a ++ if 200 ≤ cl z ∧ a ≤ 10 * cl z then [cl z] else [] := by
  unfold sel
  rw [List.map_append, List.filter_append, List.filter_append]
  congr 1
  by_cases h1 : 200 ≤ cl z <;> by_cases h2 : a ≤ 10 * cl z <;> simp [h1, h2]
theorem sel_bd (zs : List Int) (a : Int) : ∀ p ∈ sel zs a, 200 ≤ p ∧ p ≤ 1000000 ∧ a ≤ 10 * p := by
  intro p hp
  unfold sel at hp
  simp only [List.mem_filter, List.mem_map, decide_eq_true_eq] at hp
  obtain ⟨⟨⟨z, _, rfl⟩, h1⟩, h2⟩ := hp
  have := cl_bd z
  omega
theorem sum_bd (l : List Int) (h : ∀ p ∈ l, 200 ≤ p ∧ p ≤ 1000000) : 200 * (l.length : Int) ≤ l.sum ∧ l.sum ≤ 1000000 * (l.length : Int) := by
  induction l with
  | nil => simp
  | cons x l ih =>
    have h1 := h x (by simp)
    have h2 := ih (fun p hp => h p (by simp [hp]))
    simp only [List.sum_cons, List.length_cons]
    push_cast
    omega
theorem sel_len (zs : List Int) (a : Int) : (sel zs a).length ≤ zs.length := by
  unfold sel
  exact Nat.le_trans (List.length_filter_le _ _) (Nat.le_trans (List.length_filter_le _ _) (by simp))
theorem sel_sum (zs : List Int) (a : Int) : 200 * ((sel zs a).length : Int) ≤ (sel zs a).sum ∧ (sel zs a).sum ≤ 1000000 * ((sel zs a).length : Int) :=
  sum_bd _ (fun p hp => ⟨(sel_bd zs a p hp).1, (sel_bd zs a p hp).2.1⟩)
/-- One more power. -/
theorem sel_step (zs : List Int) (a : Int) (k : Nat) (hk : k < zs.length) :
    (sel (zs.take (k + 1)) a).sum = (sel (zs.take k) a).sum + (if 200 ≤ cl (zs.getD k 0) ∧ a ≤ 10 * cl (zs.getD k 0) then cl (zs.getD k 0) else 0) ∧
    ((sel (zs.take (k + 1)) a).length : Int) = ((sel (zs.take k) a).length : Int) + (if 200 ≤ cl (zs.getD k 0) ∧ a ≤ 10 * cl (zs.getD k 0) then 1 else 0) := by
  rw [List.take_succ_eq_append_getElem hk, sel_snoc]
  have : zs.getD k 0 = zs[k] := by simp [List.getD, List.getElem?_eq_getElem hk]
  rw [this]
  split <;> simp
/-- The powers that are at least 200 have a mean, of which some power is at least a tenth. -/
theorem exists_ge_mean (l : List Int) (hl : l.length ≠ 0) : ∃ p ∈ l, l.sum ≤ p * (l.length : Int) := by
  induction l with
  | nil => simp at hl
  | cons x l ih =>
    by_cases h0 : l.length = 0
    · have : l = [] := by simpa using h0
      subst this
      exact ⟨x, by simp, by simp⟩
    · obtain ⟨p, hp, hs⟩ := ih h0
      by_cases hx : p ≤ x
      · refine ⟨x, by simp, ?_⟩
        simp only [List.sum_cons, List.length_cons]
        push_cast
        have : p * (l.length : Int) ≤ x * (l.length : Int) := Int.mul_le_mul_of_nonneg_right hx (by omega)
        rw [Int.mul_add]
        omega
      · refine ⟨p, by simp [hp], ?_⟩
        simp only [List.sum_cons, List.length_cons]
        push_cast
        rw [Int.mul_add]
        omega
theorem gmean_bd (zs : List Int) (a : Int) : 0 ≤ gmean (sel zs a) ∧ gmean (sel zs a) ≤ 1000000 := by
  have h := sel_sum zs a
  unfold gmean
  split
  · omega
  · generalize (sel zs a).sum = s at *
    generalize (sel zs a).length = n at *
    have hn : (0 : Int) < n := by omega
    refine ⟨Int.ediv_nonneg (by omega) (by omega), ?_⟩
    have := Int.ediv_le_ediv hn h.2
    rw [Int.mul_ediv_cancel _ (by omega)] at this
    exact this
/-- Where a power is at least 200, one counts in the second mean, too. -/
theorem sel_some (zs : List Int) (h : (sel zs 0).length ≠ 0) : (sel zs (gmean (sel zs 0))).length ≠ 0 := by
  obtain ⟨p, hp, hs⟩ := exists_ge_mean _ h
  have hb := sel_bd zs 0 p hp
  have hm : gmean (sel zs 0) ≤ p := by
    unfold gmean
    rw [if_neg h]
    have hn : (0 : Int) < ((sel zs 0).length : Int) := by omega
    have := Int.ediv_le_ediv hn hs
    rw [Int.mul_ediv_cancel _ (by omega)] at this
    exact this
  have hq : ∀ q, q ≤ p → p ∈ sel zs q := by
    intro q hq
    unfold sel at hp ⊢
    rw [List.mem_filter] at hp ⊢
    exact ⟨hp.1, by simp; omega⟩
  have := hq _ hm
  intro h0
  have : sel zs (gmean (sel zs 0)) = [] := by simpa using h0
  simp_all
end Go.Proofs.Yteaffbipkmncmaa
