/- The plain law of the picture buffer. -/
import Derived.Test.YtpaepefpfaoacaaBase
namespace Go.Proofs.Ytpaepefpfaoacaa
set_option linter.unusedVariables false

/-- One frame: the fullness after it, if there is no underflow. -/
def vstep (f s : Int) : Option Int := if f < 0 ∨ 1000 < f ∨ s < 0 then none else if min 1000 (f + 100) < s then none else some (min 1000 (f + 100) - s)
def vrun (f : Int) : List Int → Option Int
  | [] => some f
  | s :: l => (vstep f s).bind (fun g => vrun g l)
def runOf (f : Int) (l : List Int) : Option Int := if f < 0 ∨ 1000 < f then none else vrun f l
/-- What a function that returns (int, bool) hands back. -/
def pairV (r : Option Int) : Value := .tuple #[.int .i64 (r.getD 0), .bool r.isSome]

theorem vstep_bd {f s g : Int} (h : vstep f s = some g) : 0 ≤ f ∧ f ≤ 1000 ∧ 0 ≤ s ∧ s ≤ 1000 ∧ 0 ≤ g ∧ g ≤ 1000 ∧ g = min 1000 (f + 100) - s := by
  unfold vstep at h
  split at h
  · cases h
  · split at h
    · cases h
    · cases h; omega
theorem vstep_none {f s : Int} (h0 : 0 ≤ f) (h1 : f ≤ 1000) (h : vstep f s = none) : s < 0 ∨ min 1000 (f + 100) < s := by
  unfold vstep at h
  split at h
  · omega
  · split at h
    · omega
    · cases h
theorem vrun_snoc (f : Int) (l : List Int) (s : Int) : vrun f (l ++ [s]) = (vrun f l).bind (fun g => vstep g s) := by
  induction l generalizing f with
  | nil => simp [vrun]
  | cons x l ih => simp only [List.cons_append, vrun]; cases vstep f x <;> simp [ih]
theorem vrun_append (f : Int) (l m : List Int) : vrun f (l ++ m) = (vrun f l).bind (fun g => vrun g m) := by
  induction l generalizing f with
  | nil => simp [vrun]
  | cons x l ih => simp only [List.cons_append, vrun]; cases vstep f x <;> simp [ih]
theorem vrun_bd {f g : Int} {l : List Int} (h0 : 0 ≤ f ∧ f ≤ 1000) (h : vrun f l = some g) : 0 ≤ g ∧ g ≤ 1000 := by
  induction l generalizing f with
  | nil => simp [vrun] at h; omega
  | cons x l ih =>
    simp only [vrun] at h
    cases hs : vstep f x with
    | none => rw [hs] at h; cases h
    | some y => rw [hs] at h; have := vstep_bd hs; exact ih (by omega) h
theorem vrun_none_append {f : Int} {l : List Int} (m : List Int) (h : vrun f l = none) : vrun f (l ++ m) = none := by rw [vrun_append, h]; rfl

/-- The least fullness from which the sizes can be run. -/
def needOf : List Int → Option Int
  | [] => some 0
  | s :: l => match needOf l with
    | none => none
    | some n => if s < 0 ∨ 1000 - n < s then none else some (max 0 (n + s - 100))
theorem needOf_bd {l : List Int} {n : Int} (h : needOf l = some n) : 0 ≤ n ∧ n ≤ 1000 := by
  induction l generalizing n with
  | nil => simp [needOf] at h; omega
  | cons s l ih =>
    simp only [needOf] at h
    cases hl : needOf l with
    | none => rw [hl] at h; cases h
    | some m =>
      rw [hl] at h
      have := ih hl
      simp only [] at h
      split at h
      · cases h
      · cases h; omega
/-- A sequence can be run exactly from the fullnesses that are at least Need. -/
theorem need_law (l : List Int) : ∀ f : Int, 0 ≤ f → f ≤ 1000 → ((vrun f l).isSome = true ↔ ∃ n, needOf l = some n ∧ n ≤ f) := by
  induction l with
  | nil => intro f h0 h1; simp [vrun, needOf]; exact h0
  | cons s l ih =>
    intro f h0 h1
    simp only [vrun, needOf]
    cases hs : vstep f s with
    | none =>
      have := vstep_none h0 h1 hs
      simp only [Option.bind_none, Option.isSome_none, Bool.false_eq_true, false_iff]
      rintro ⟨n, hn, hle⟩
      cases hl : needOf l with
      | none => rw [hl] at hn; cases hn
      | some m =>
        rw [hl] at hn
        have hb := needOf_bd hl
        simp only [] at hn
        split at hn
        · cases hn
        · cases hn; omega
    | some g =>
      have hg := vstep_bd hs
      simp only [Option.bind_some]
      rw [ih g (by omega) (by omega)]
      cases hl : needOf l with
      | none => simp
      | some m =>
        have hb := needOf_bd hl
        simp only [Option.some.injEq, exists_eq_left']
        constructor
        · intro hm
          rw [if_neg (by omega)]
          exact ⟨_, rfl, by omega⟩
        · rintro ⟨n, hn, hle⟩
          split at hn
          · cases hn
          · cases hn; omega
/-- From a greater fullness a sequence can be run, too, and leaves at least as much. -/
theorem vrun_mono (l : List Int) : ∀ f g : Int, 0 ≤ f → f ≤ g → g ≤ 1000 → ∀ a, vrun f l = some a → ∃ b, vrun g l = some b ∧ a ≤ b := by
  induction l with
  | nil => intro f g _ h _ a ha; simp [vrun] at ha; exact ⟨g, rfl, by omega⟩
  | cons s l ih =>
    intro f g h0 h1 h2 a ha
    simp only [vrun] at ha ⊢
    cases hs : vstep f s with
    | none => rw [hs] at ha; cases ha
    | some x =>
      rw [hs] at ha
      have hx := vstep_bd hs
      have hy : vstep g s = some (min 1000 (g + 100) - s) := by unfold vstep; rw [if_neg (by omega), if_neg (by omega)]
      rw [hy]
      exact ih x _ (by omega) (by omega) (by omega) a ha
def confOf (l : List Int) : Bool := match vrun 500 l with | some g => decide (500 ≤ g) | none => false
theorem conf_iff (l : List Int) : confOf l = true ↔ ∃ g, vrun 500 l = some g ∧ 500 ≤ g := by
  unfold confOf
  cases vrun 500 l <;> simp
theorem conf_append {l m : List Int} (h1 : confOf l = true) (h2 : confOf m = true) : confOf (l ++ m) = true := by
  rw [conf_iff] at *
  obtain ⟨g, hg, hle⟩ := h1
  obtain ⟨g2, hg2, hle2⟩ := h2
  have hb := vrun_bd (by omega) hg
  obtain ⟨b, hb1, hb2⟩ := vrun_mono m 500 g (by omega) hle hb.2 g2 hg2
  exact ⟨b, by rw [vrun_append, hg]; exact hb1, by omega⟩
/-- The numbers of sizes after which the sizes so far conform. -/
def exitsTo (l : List Int) (n : Nat) : List Int := ((List.range n).filter fun i => confOf (l.take i)).map Int.ofNat
def exitsOf (l : List Int) : List Int := exitsTo l (l.length + 1)
theorem exitsTo_succ (l : List Int) (n : Nat) : exitsTo l (n + 1) = exitsTo l n ++ if confOf (l.take n) then [(n : Int)] else [] := by
  unfold exitsTo
  rw [List.range_succ, List.filter_append, List.map_append]
  congr 1
  by_cases h : confOf (l.take n) <;> simp [h]
theorem exitsTo_len (l : List Int) (n : Nat) : (exitsTo l n).length ≤ n := by
  unfold exitsTo
  rw [List.length_map]
  exact Nat.le_trans (List.length_filter_le _ _) (by simp)
end Go.Proofs.Ytpaepefpfaoacaa
