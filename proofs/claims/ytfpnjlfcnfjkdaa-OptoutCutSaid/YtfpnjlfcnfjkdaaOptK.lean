/- The closure of Next that takes an offer. -/
import Derived.Test.YtfpnjlfcnfjkdaaOptJ
namespace Go.Proofs.Ytfpnjlfcnfjkdaa
open Go.ChangeShapes Go.WideShapes Go.ChangeAt Go.RowKit Go.Shelf
set_option linter.unusedVariables false

/-- A world in which nothing that lay has changed but two blocks. -/
def Only2 (p q : Nat) (w w' : World) : Prop := w.grownBy w' none ∨ (w.heap.size ≤ w'.heap.size ∧ w'.os = w.os ∧ w'.tape = w.tape ∧ w'.output = w.output ∧ ∀ b, b < w.heap.size → b ≠ p → b ≠ q → w'.heap[b]? = w.heap[b]?)
theorem Only2.block {p q : Nat} {w w' : World} (h : Only2 p q w w') {b : Nat} (hb : b < w.heap.size) (h1 : b ≠ p) (h2 : b ≠ q) : w'.heap[b]? = w.heap[b]? := by
  rcases h with h | h
  · exact h.block b hb (by simp)
  · exact h.2.2.2.2 b hb h1 h2
theorem Only2.size {p q : Nat} {w w' : World} (h : Only2 p q w w') : w.heap.size ≤ w'.heap.size := by
  rcases h with h | h
  · exact h.size
  · exact h.1
theorem Only2.below {p q n₀ : Nat} {w w' : World} (h : Only2 p q w w') (hn : n₀ ≤ w.heap.size) (h1 : n₀ ≤ p) (h2 : n₀ ≤ q) : Below n₀ w w' := by
  rcases h with h | h
  · exact ⟨h.os, h.tape, h.output, h.size, fun b hb => h.block b (by omega) (by simp)⟩
  · exact ⟨h.2.1, h.2.2.1, h.2.2.2.1, h.1, fun b hb => h.2.2.2.2 b (by omega) (by omega) (by omega)⟩
theorem Only2.keep {p q n₀ n₁ n₂ : Nat} {w w' : World} (h : Only2 p q w w') (hn : n₀ ≤ w.heap.size) (h1 : n₀ ≤ p) (h2 : n₀ ≤ q) (h3 : p < n₁) (h4 : q < n₁) : KeepC n₀ n₁ n₂ w w' :=
  ⟨h.below hn h1 h2, fun b o hb ho _ => (h.block (Array.getElem?_eq_some_iff.1 ho).1 (by omega) (by omega)).trans ho⟩
theorem Only2.from {p q B : Nat} {w w' : World} (h : Only2 p q w w') (h1 : p < B) (h2 : q < B) : KeepsFrom B w w' :=
  ⟨h.size, fun b o hb ho _ => (h.block (Array.getElem?_eq_some_iff.1 ho).1 (by omega) (by omega)).trans ho⟩
theorem Only2.box {p q : Nat} {w w' : World} (h : Only2 p q w w') {b : Nat} {t : TypeId} {vs : Array Value} (hx : Box w b t vs) (h1 : b ≠ p) (h2 : b ≠ q) : Box w' b t vs := (h.block hx.lt h1 h2).trans hx

abbrev optC (s f : Int) (A : Option Addr) (n c : Nat) : Array Value := #[.int .i64 s, .int .i64 f, .slice A n c]
def OfferPost (bf bn : Nat) (fd : Bool) (s f : Int) (A : Option Addr) (n c : Nat) (s' f' : Int) (A' : Option Addr) (n' c' : Nat) (w : World) (e : Ending) (w' : World) : Prop :=
  (∃ v, e = .returned v) ∧ Only2 bf bn w w' ∧
    (if fd = false ∨ s < s' then Box w' bf 4 #[.bool true] ∧ Box w' bn 24 (optC s f A n c) else Box w' bf 4 #[.bool fd] ∧ Box w' bn 24 (optC s' f' A' n' c'))

set_option maxRecDepth 100000 in
set_option maxHeartbeats 2000000 in
theorem offer_any (bf bn : Nat) (fd : Bool) (s f : Int) (A : Option Addr) (n c : Nat) (s' f' : Int) (A' : Option Addr) (n' c' : Nat) (w : World) (hf : Box w bf 4 #[.bool fd]) (hn : Box w bn 24 (optC s' f' A' n' c')) (hne : bf ≠ bn) :
    Calls Try.prog 32 #[optV s f A n c, .pointer (some ⟨bf, 0, none⟩), .pointer (some ⟨bn, 0, none⟩)] w (OfferPost bf bn fd s f A n c s' f' A' n' c' w) := by
  have l1 := hf.lt
  have l2 := hn.lt
  have c0 := hf.cell (i := 0) rfl
  have g0 := hf.frozen 0
  have d0 := hn.cell (i := 0) rfl
  have d1 := hn.cell (i := 1) rfl
  have d2 := hn.cell (i := 2) rfl
  have k0 := hn.frozen 0
  have k1 := hn.frozen 1
  have k2 := hn.frozen 2
  have HF := Lib.hid hf
  have HN := Lib.hid hn
  have b0 := Lib.hid (balloc w (.cells (optC s f A n c) 24))
  have same : Hid (∀ v, ¬(fd = false ∨ s < s') → OfferPost bf bn fd s f A n c s' f' A' n' c' w (.returned v) (w.alloc (.cells (optC s f A n c) 24))) := Lib.hid (fun v h => by
    refine ⟨⟨v, rfl⟩, .inl (World.grownBy_alloc _ _ _), ?_⟩
    rw [if_neg h]
    exact ⟨HF.out.next b0.out, HN.out.next b0.out⟩)
  have took : Hid (∀ v, (fd = false ∨ s < s') → OfferPost bf bn fd s f A n c s' f' A' n' c' w (.returned v) (((((w.setCell ⟨bn, 0, none⟩ (.int .i64 s)).setCell ⟨bn, 1, none⟩ (.int .i64 f)).setCell ⟨bn, 2, none⟩ (.slice A n c)).setCell ⟨bf, 0, none⟩ (.bool true)).alloc (.cells #[.int .i64 s, .int .i64 f, .slice A n c] 24))) := Lib.hid (fun v h => by
    refine ⟨⟨v, rfl⟩, .inr ⟨?_, rfl, rfl, rfl, fun b hb h1 h2 => ?_⟩, ?_⟩
    · simp [World.setCell]
    · rw [Below.heap_alloc _ _ b (by simpa [World.setCell] using hb), Below.heap_setCell _ ⟨bf, 0, none⟩ _ b h1, Below.heap_setCell _ ⟨bn, 2, none⟩ _ b h2, Below.heap_setCell _ ⟨bn, 1, none⟩ _ b h2, Below.heap_setCell _ ⟨bn, 0, none⟩ _ b h2]
    · rw [if_pos h]
      refine ⟨Box.next ?_ (balloc _ _), Box.next ?_ (balloc _ _)⟩
      · have := (((HF.out.set_ne (b' := bn) (i := 0) (.int .i64 s) hne).set_ne (b' := bn) (i := 1) (.int .i64 f) hne).set_ne (b' := bn) (i := 2) (.slice A n c) hne).set (i := 0) (.bool true)
        simpa using this
      · have := (((HN.out.set (i := 0) (.int .i64 s)).set (i := 1) (.int .i64 f)).set (i := 2) (.slice A n c)).set_ne (b' := bf) (i := 0) (.bool true) (Ne.symm hne)
        simpa using this)
  clear hf hn
  go_enter Try.func32, Try.ntmps32
  cases fd with
  | false =>
    go_wp2_with fail
    refine bodyPost_end (results_none rfl _ _ _) rfl ?_
    exact took.out _ (by simp)
  | true =>
    by_cases h : s < s'
    · go_wp2_with fail
      refine bodyPost_end (results_none rfl _ _ _) rfl ?_
      exact took.out _ (.inr h)
    · go_wp2_with fail
      refine bodyPost_end (results_none rfl _ _ _) rfl ?_
      exact same.out _ (by simp [h])
end Go.Proofs.Ytfpnjlfcnfjkdaa
