/- More words: rows of the call's own; slices of pairs. -/
import Derived.Test.YtgdjpaeclicdfaaDoorBase
namespace Go.Proofs.YtgdjpaeclicdfaaDoor
open Go.ChangeShapes Go.WideShapes Go.ChangeAt Go.RowKit
set_option linter.unusedVariables false

theorem own_at (w : World) (t : TypeId) (vs : List Value) (hl : vs.length ≤ maxLen) (base : Nat) (hb : base ≤ w.heap.size) : (w.alloc (.cells vs.toArray t)).ownsRow base t 1 (.slice (some ⟨w.heap.size, 0, none⟩) vs.length vs.length) vs.length vs :=
  ⟨by simp, .inr ⟨w.heap.size, vs.length, vs.toArray, rfl, hb, heap_alloc_new w _, Nat.le_refl _, hl, by simp, by simp⟩⟩
theorem own_weak {w : World} {base base' : Nat} {t : TypeId} {size n : Nat} {v : Value} {xs : List Value} (h : w.ownsRow base' t size v n xs) (hb : base ≤ base') : w.ownsRow base t size v n xs := by
  obtain ⟨h1, h2⟩ := h
  refine ⟨h1, ?_⟩
  rcases h2 with h2 | ⟨g, cap, cur, hv, hg, r⟩
  · exact .inl h2
  · exact .inr ⟨g, cap, cur, hv, by omega, r⟩
theorem own_below {w w' : World} {base : Nat} {t : TypeId} {size n : Nat} {v : Value} {xs : List Value} (h : w.ownsRow base t size v n xs) (hb : Below w.heap.size w w') : w'.ownsRow base t size v n xs := by
  obtain ⟨h1, h2⟩ := h
  refine ⟨h1, ?_⟩
  rcases h2 with h2 | ⟨g, cap, cur, hv, hg, hh, r⟩
  · exact .inl h2
  · refine .inr ⟨g, cap, cur, hv, hg, ?_, r⟩
    rw [hb.block g (Array.getElem?_eq_some_iff.1 hh).1]
    exact hh
theorem own_frozen {w : World} {base : Nat} {t : TypeId} {size n g cap : Nat} {xs : List Value} (h : w.ownsRow base t size (.slice (some ⟨g, 0, none⟩) n cap) n xs) (j : Nat) : w.frozen? ⟨g, j, none⟩ = false := by
  rcases h.2 with ⟨h2, _⟩ | ⟨g', cap', cur, hv, hg, hh, r⟩
  · cases h2
  · cases hv
    simp [World.frozen?, hh]

/-! ### Slices of pairs of integers -/
abbrev pairs (al : List (Int × Int)) : List Value := al.flatMap fun a => [.int .i64 a.1, .int .i64 a.2]
theorem pairs_len (al : List (Int × Int)) : (pairs al).length = al.length * 2 := by
  induction al with
  | nil => rfl
  | cons a al ih => simp only [pairs, List.flatMap_cons, List.length_append, List.length_cons, List.length_nil] at *; omega
theorem pairs_get (al : List (Int × Int)) (i : Nat) (h : i < al.length) : (pairs al)[i * 2]? = some (.int .i64 al[i].1) ∧ (pairs al)[i * 2 + 1]? = some (.int .i64 al[i].2) := by
  induction al generalizing i with
  | nil => simp at h
  | cons a al ih =>
    cases i with
    | zero => exact ⟨rfl, rfl⟩
    | succ i =>
      have := ih i (by simpa using h)
      rw [show (i + 1) * 2 = i * 2 + 1 + 1 by omega]
      exact this
def IsAlts (w : World) (A : Option Addr) (n : Nat) (al : List (Int × Int)) : Prop := al.length = n ∧ Rd w 2 A n (pairs al)
theorem IsAlts.below {w w' : World} {A : Option Addr} {n : Nat} {al : List (Int × Int)} (h : IsAlts w A n al) (hb : Below w.heap.size w w') : IsAlts w' A n al := ⟨h.1, h.2.below hb⟩
theorem IsAlts.nil (w : World) (A : Option Addr) : IsAlts w A 0 [] := ⟨rfl, Rd.nil _ _ _⟩
theorem IsAlts.at_ {w : World} {A : Option Addr} {n : Nat} {al : List (Int × Int)} (h : IsAlts w A n al) {i : Nat} (hi : i < n) :
    ∃ b off, A = some ⟨b, off, none⟩ ∧ b < w.heap.size ∧ w.cell? ⟨b, off + i * 2, none⟩ = some (.int .i64 (al.getD i (0, 0)).1) ∧ w.cell? ⟨b, off + i * 2 + 1, none⟩ = some (.int .i64 (al.getD i (0, 0)).2) := by
  obtain ⟨h1, h2, h3⟩ := h
  obtain ⟨b, off, rfl, hb, hc⟩ := h3.resolve_left (by omega)
  have hg := pairs_get al i (by omega)
  have e : al.getD i (0, 0) = al[i]'(by omega) := by simp [List.getD, List.getElem?_eq_getElem (show i < al.length by omega)]
  rw [e]
  exact ⟨b, off, rfl, hb, (hc (i * 2) (by omega)).trans hg.1, by rw [Nat.add_assoc]; exact (hc (i * 2 + 1) (by omega)).trans hg.2⟩

/-! ### A variable's own block -/
def Box (w : World) (b : Nat) (t : TypeId) (vs : Array Value) : Prop := w.heap[b]? = some (.cells vs t)
theorem Box.new (w : World) (t : TypeId) (vs : Array Value) : Box (w.alloc (.cells vs t)) w.heap.size t vs := heap_alloc_new w _
theorem Box.lt {w : World} {b : Nat} {t : TypeId} {vs : Array Value} (h : Box w b t vs) : b < w.heap.size := (Array.getElem?_eq_some_iff.1 h).1
theorem Box.below {w w' : World} {k b : Nat} {t : TypeId} {vs : Array Value} (h : Box w b t vs) (hb : Below k w w') (hk : b < k) : Box w' b t vs := (hb.block b hk).trans h
theorem Box.next {w w' : World} {b : Nat} {t : TypeId} {vs : Array Value} (h : Box w b t vs) (hb : Below w.heap.size w w') : Box w' b t vs := h.below hb h.lt
theorem Box.grown {w w' : World} {b : Nat} {t : TypeId} {vs : Array Value} {row : Option Nat} (h : Box w b t vs) (hg : w.grownBy w' row) (hne : row ≠ some b) : Box w' b t vs := (hg.block b h.lt (fun e => hne e.symm)).trans h
theorem Box.cell {w : World} {b : Nat} {t : TypeId} {vs : Array Value} (h : Box w b t vs) {i : Nat} {v : Value} (hv : vs[i]? = some v) : w.cell? ⟨b, i, none⟩ = some v := by
  unfold Box at h
  unfold World.cell?
  simp [h, hv]
theorem Box.set {w : World} {b i : Nat} {t : TypeId} {vs : Array Value} (h : Box w b t vs) (v : Value) : Box (w.setCell ⟨b, i, none⟩ v) b t (vs.setIfInBounds i v) := by
  unfold Box at *
  simp only [World.setCell, Array.getElem?_modify, if_true, h, Option.map_some]
  simp
theorem Box.set_ne {w : World} {b b' i : Nat} {t : TypeId} {vs : Array Value} (h : Box w b t vs) (v : Value) (hne : b ≠ b') : Box (w.setCell ⟨b', i, none⟩ v) b t vs :=
  (Below.heap_setCell w ⟨b', i, none⟩ v b hne).trans h
theorem Box.frozen {w : World} {b : Nat} {t : TypeId} {vs : Array Value} (h : Box w b t vs) (i : Nat) : w.frozen? ⟨b, i, none⟩ = false := by
  unfold Box at h
  simp [World.frozen?, h]
end Go.Proofs.YtgdjpaeclicdfaaDoor
