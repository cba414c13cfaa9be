/- Contracts of the small functions of chapter 14 that only compute. -/
import Derived.Test.YteaffbipkmncmaaRows
import Derived.WalkKit
import Derived.ProofKit
import Derived.OpenShut
import Derived.Outline
namespace Go.Proofs.Yteaffbipkmncmaa
open Go.ChangeShapes Go.WideShapes Go.ChangeAt Go.RowKit

theorem ret_int {k : IntKind} {a b : Int} (h : a = b) : Ending.returned (.int k a) = .returned (.int k b) := by rw [h]

def lim (g : Int) : Int := min (max g 250) 4000
def clampi (n l m : Int) : Int := if n < l then l else if m < n then m else n
def nxt (g t : Int) : Int := if g < t - 20 then g + 20 else if t + 20 < g then g - 20 else t

theorem lim_bd (g : Int) : 250 ≤ lim g ∧ lim g ≤ 4000 := by unfold lim; omega
theorem lim_clamp (g : Int) : clampi g 250 4000 = lim g := by unfold lim clampi; split <;> (try split) <;> omega
theorem lim_lim (g : Int) : lim (lim g) = lim g := by unfold lim; omega
theorem nxt_bd (g t : Int) (h1 : 250 ≤ g ∧ g ≤ 4000) (h2 : 250 ≤ t ∧ t ≤ 4000) : 250 ≤ nxt g t ∧ nxt g t ≤ 4000 := by
  unfold nxt; split <;> (try split) <;> omega

theorem limit_any (g : Int) (w : World) :
    Calls Try.prog 22 #[.int .i64 g] w fun e w' => e = .returned (.int .i64 (lim g)) ∧ w = w' := by
  go_enter Try.func22, Try.ntmps22
  go_wp2
  all_goals
    go_ret
    exact ⟨ret_int (by unfold lim; omega), rfl⟩

theorem limited_any (n l m : Int) (w : World) :
    Calls Try.prog 23 #[.int .i64 n, .int .i64 l, .int .i64 m] w fun e w' => e = .returned (.int .i64 (clampi n l m)) ∧ w = w' := by
  go_enter Try.func23, Try.ntmps23
  go_wp2
  all_goals
    go_ret
    exact ⟨ret_int (by unfold clampi; split <;> (try split) <;> omega), rfl⟩

theorem next_any (g t : Int) (w : World) (h1 : 250 ≤ g ∧ g ≤ 4000) (h2 : 250 ≤ t ∧ t ≤ 4000) :
    Calls Try.prog 24 #[.agg #[.int .i64 t], .int .i64 g] w fun e w' => e = .returned (.int .i64 (nxt g t)) ∧ Below w.heap.size w w' := by
  obtain ⟨h1, h1'⟩ := h1
  obtain ⟨h2, h2'⟩ := h2
  go_enter Try.func24, Try.ntmps24
  go_wp2
  all_goals
    go_ret
    exact ⟨ret_int (by unfold nxt; split <;> (try split) <;> omega), (Below.refl _ _).alloc (Nat.le_refl _) _⟩

/-- 'Next' of the program. -/
theorem Next_any (g t : Int) (w : World) :
    Calls Try.prog 16 #[.int .i64 g, .int .i64 t] w fun e w' => e = .returned (.int .i64 (nxt (lim g) (lim t))) ∧ Below w.heap.size w w' := by
  have hg := lim_bd g
  have ht := lim_bd t
  obtain ⟨lg, hlg⟩ : ∃ x, x = lim g := ⟨_, rfl⟩
  obtain ⟨lt, hlt⟩ : ∃ x, x = lim t := ⟨_, rfl⟩
  go_enter Try.func16, Try.ntmps16
  go_wp2_with (first | (go_at_call 22; refine (limit_any _ _).mono ?_; rintro e w' ⟨rfl, rfl⟩) | (go_at_call 24; refine (next_any _ _ _ (lim_bd _) (lim_bd _)).mono ?_; rintro e w1 ⟨rfl, hb⟩))
  go_ret
  exact ⟨rfl, hb⟩

/-- 'Next' of the reference. -/
theorem refNext_any (g t : Int) (w : World) :
    Calls Try.prog 17 #[.int .i64 g, .int .i64 t] w fun e w' => e = .returned (.int .i64 (nxt (lim g) (lim t))) ∧ w = w' := by
  have hg := lim_bd g
  have ht := lim_bd t
  go_enter Try.func17, Try.ntmps17
  go_wp2_with (go_at_call 23; refine (limited_any _ _ _ _).mono ?_; rintro e w' ⟨rfl, rfl⟩; rw [lim_clamp])
  all_goals
    go_ret
    exact ⟨ret_int (by unfold nxt; split <;> (try split) <;> omega), rfl⟩
end Go.Proofs.Yteaffbipkmncmaa
