/- Contract of optout's Decode. -/
import Derived.Test.YtgdjpaeclicdfaaDoorOptE
import Derived.Test.YtgdjpaeclicdfaaDoorOptD
namespace Go.Proofs.YtgdjpaeclicdfaaDoor
open Go.ChangeShapes Go.WideShapes Go.ChangeAt Go.RowKit
set_option linter.unusedVariables false

/-! ### Plain -/
def rdAlts (l : List UInt8) : Nat → Nat → Option (Alts × Nat)
  | 0, k => some ([], k)
  | n + 1, k => match rdN l 2 k with
    | ([r, i], some e) => (rdAlts l n e).map fun p => ((r, i) :: p.1, p.2)
    | _ => none
structure POpt where
  s : Int
  f : Int
  al : Alts
def POpt.zero : POpt := ⟨0, 0, []⟩
def finP (l : List UInt8) (s f : Int) : Option (Alts × Nat) → POpt × Int
  | none => (.zero, 10)
  | some (al, e) => if e ≠ l.length then (.zero, 10) else if validP s f al = true then (⟨s, f, al⟩, 0) else (.zero, 170)
def decP (l : List UInt8) : POpt × Int :=
  match rdN l 3 0 with
  | ([s, f, n], some k) => if n < 0 ∨ 7 < n then (.zero, 170) else finP l s f (rdAlts l n.toNat k)
  | _ => (.zero, 10)
def RetDec (r : POpt × Int) (w : World) (e : Ending) (w' : World) : Prop :=
  ∃ B c, e = .returned (.tuple #[optV r.1.s r.1.f B r.1.al.length c, .int .i64 r.2]) ∧ IsAlts w' B r.1.al.length r.1.al ∧ r.1.al.length ≤ c ∧ c ≤ maxLen ∧ (B = none → c = 0) ∧ Below w.heap.size w w' ∧ (∀ b off, B = some ⟨b, off, none⟩ → w.heap.size ≤ b)

theorem rdN_len (l : List UInt8) : ∀ (m k e : Nat), (rdN l m k).2 = some e → (rdN l m k).1.length = m := by
  intro m
  induction m with
  | zero => intro k e _; rfl
  | succ m ih =>
    intro k e h
    unfold rdN at h ⊢
    cases hr : rdInt l k with
    | none => rw [hr] at h; cases h
    | some p => rw [hr] at h; simp only at h ⊢; simp [ih _ _ h]

theorem ret_dec {fn : Func} {R : Ending → World → Prop} {a : Act} {w : World} {p q : Tmp} {b : Nat} {t : TypeId} {v0 v1 v2 v : Value} (hr : fn.results = #[.cell p 26, .tmp q]) (hp : a.tmps.getD p undef = .pointer (some ⟨b, 0, none⟩)) (hq : a.tmps.getD q undef = v)
    (hb : Box w b t #[v0, v1, v2]) (hd : a.defers = []) (h : R (.returned (.tuple #[.agg #[v0, v1, v2], v])) w) : bodyPost Tryd.prog fn R .ret a w := by
  have c0 := hb.cell (i := 0) rfl
  have c1 := hb.cell (i := 1) rfl
  have c2 := hb.cell (i := 2) rfl
  refine bodyPost_ret (v := .tuple #[.agg #[v0, v1, v2], v]) ?_ hd h
  rw [Array.getD_eq_getD_getElem?] at hp hq
  simp [results, hr, hp, hq, go_sem, c0, c1, c2]

theorem rd_ptrs (w : World) (t : TypeId) (ps : List (Nat × Nat)) (hl : ps.length ≤ maxLen) : Rd (w.alloc (.cells (ptrs ps).toArray t)) 1 (some ⟨w.heap.size, 0, none⟩) ps.length (ptrs ps) := by
  have := own_new w t (ptrs ps) (by simpa using hl)
  rw [List.length_map] at this
  exact Rd.of_own this

abbrev zero3 : Array Value := #[.int .i64 0, .int .i64 0, .slice none 0 0]
abbrev ptrAt (b o : Nat) : Value := .pointer (some ⟨b, o, none⟩)

theorem take3 (s : ByteArray) (w : World) (hs : s.size ≤ 9000000000000000000) :
    Calls Tryd.prog 67 #[.string s, .int .i64 0, .slice (some ⟨w.heap.size + 1 + 1 + 1, 0, none⟩) 3 3]
      ((((w.alloc (.cells zero3 26)).alloc (.cells zero3 26)).alloc (.cells #[.int .i64 0] 3)).alloc (.cells #[ptrAt (w.heap.size + 1) 0, ptrAt (w.heap.size + 1) 1, ptrAt (w.heap.size + 1 + 1) 0] 113))
      fun e w' => e = .returned (takeV (rdN s.data.toList 3 0).2) ∧ Box w' w.heap.size 26 zero3 ∧ Below w.heap.size w w' ∧ w.heap.size + 4 ≤ w'.heap.size ∧
        ∀ e2, (rdN s.data.toList 3 0).2 = some e2 → ∃ a b n, rdN s.data.toList 3 0 = ([a, b, n], some e2) ∧ Box w' (w.heap.size + 1) 26 #[.int .i64 a, .int .i64 b, .slice none 0 0] ∧ Box w' (w.heap.size + 1 + 1) 3 #[.int .i64 n] := by
  generalize hW1 : w.alloc (.cells zero3 26) = W1
  generalize hW2 : W1.alloc (.cells zero3 26) = W2
  generalize hW3 : W2.alloc (.cells #[.int .i64 0] 3) = W3
  have s1 : W1.heap.size = w.heap.size + 1 := by rw [← hW1]; simp
  have s2 : W2.heap.size = w.heap.size + 1 + 1 := by rw [← hW2]; simp [s1]
  have s3 : W3.heap.size = w.heap.size + 1 + 1 + 1 := by rw [← hW3]; simp [s2]
  have x1 : Box W1 w.heap.size 26 zero3 := by rw [← hW1]; exact Box.new _ _ _
  have x2 : Box W2 (w.heap.size + 1) 26 zero3 := by rw [← hW2, ← s1]; exact Box.new _ _ _
  have x3 : Box W3 (w.heap.size + 1 + 1) 3 #[.int .i64 0] := by rw [← hW3, ← s2]; exact Box.new _ _ _
  have l1 : Below w.heap.size w W1 := by rw [← hW1]; exact balloc _ _
  have l2 : Below W1.heap.size W1 W2 := by rw [← hW2]; exact balloc _ _
  have l3 : Below W2.heap.size W2 W3 := by rw [← hW3]; exact balloc _ _
  generalize hps : [(w.heap.size + 1, 0), (w.heap.size + 1, 1), (w.heap.size + 1 + 1, 0)] = ps
  have hpl : ps.length = 3 := by rw [← hps]; rfl
  have hp := rd_ptrs W3 113 ps (by rw [hpl]; decide)
  generalize hW4 : W3.alloc (.cells (ptrs ps).toArray 113) = W4 at hp
  have l4 : Below W3.heap.size W3 W4 := by rw [← hW4]; exact balloc _ _
  have s4 : W4.heap.size = w.heap.size + 1 + 1 + 1 + 1 := by rw [← hW4]; simp [s3]
  rw [hpl, s3] at hp
  have e4 : W3.alloc (.cells #[ptrAt (w.heap.size + 1) 0, ptrAt (w.heap.size + 1) 1, ptrAt (w.heap.size + 1 + 1) 0] 113) = W4 := by rw [← hW4, ← hps]; rfl
  rw [e4]
  have x1' := ((x1.next l2).next l3).next l4
  have x2' := (x2.next l3).next l4
  have x3' := x3.next l4
  have hmem : ∀ p ∈ ps, p.1 = w.heap.size + 1 ∨ p.1 = w.heap.size + 1 + 1 := by rw [← hps]; simp
  refine (take_any s 0 _ 3 3 ps W4 hs (Nat.zero_le _) (by decide) hp ?_ ?_).mono ?_
  · rw [← hps]
    intro p hpm
    simp only [List.mem_cons, List.not_mem_nil, or_false] at hpm
    rcases hpm with rfl | rfl | rfl
    · exact ⟨_, _, x2', by simp⟩
    · exact ⟨_, _, x2', by simp⟩
    · exact ⟨_, _, x3', by simp⟩
  · intro b off hb p hpm
    cases hb
    have := hmem p hpm
    omega
  · rintro e w' ⟨rfl, rfl⟩
    have hzip : ∀ x ∈ ps.zip (rdN s.data.toList 3 0).1, x.1.1 = w.heap.size + 1 ∨ x.1.1 = w.heap.size + 1 + 1 := fun x hx => hmem _ (List.of_mem_zip (a := x.1) (b := x.2) hx).1
    refine ⟨rfl, ?_, ?_, ?_, ?_⟩
    · exact (wrs_block _ _ (fun x hx => by have := hzip x hx; omega) _).trans x1'
    · exact wrs_below _ _ (fun x hx => by have := hzip x hx; omega) _ _ (bnext (bnext (bnext l1 l2) l3) l4)
    · have := (wrs_below (ps.zip (rdN s.data.toList 3 0).1) 0 (fun x hx => by omega) W4 W4 (Below.refl _ _)).size
      omega
    · intro e2 he
      have hlen := rdN_len _ _ _ _ he
      clear hzip
      generalize rdN s.data.toList 3 0 = q at *
      obtain ⟨vs, o⟩ := q
      simp only at he hlen ⊢
      subst he
      match vs, hlen with
      | [a, b, n], _ =>
        refine ⟨a, b, n, rfl, ?_, ?_⟩
        · have := ((x2'.set (i := 0) (.int .i64 a)).set (i := 1) (.int .i64 b)).set_ne (b' := w.heap.size + 1 + 1) (i := 0) (.int .i64 n) (by omega)
          rw [← hps]
          simpa [wrs] using this
        · have := ((x3'.set_ne (b' := w.heap.size + 1) (i := 0) (.int .i64 a) (by omega)).set_ne (b' := w.heap.size + 1) (i := 1) (.int .i64 b) (by omega)).set (i := 0) (.int .i64 n)
          rw [← hps]
          simpa [wrs] using this

theorem take2 (s : ByteArray) (k : Nat) (w : World) (hs : s.size ≤ 9000000000000000000) (hk : k ≤ s.size) :
    Calls Tryd.prog 67 #[.string s, .int .i64 k, .slice (some ⟨w.heap.size + 1, 0, none⟩) 2 2]
      ((w.alloc (.cells #[.int .i64 0, .int .i64 0] 103)).alloc (.cells #[ptrAt w.heap.size 0, ptrAt w.heap.size 1] 113))
      fun e w' => e = .returned (takeV (rdN s.data.toList 2 k).2) ∧ Below w.heap.size w w' ∧
        ∀ e2, (rdN s.data.toList 2 k).2 = some e2 → ∃ a b, rdN s.data.toList 2 k = ([a, b], some e2) ∧ Box w' w.heap.size 103 #[.int .i64 a, .int .i64 b] := by
  generalize hW3 : w.alloc (.cells #[.int .i64 0, .int .i64 0] 103) = W3
  have s3 : W3.heap.size = w.heap.size + 1 := by rw [← hW3]; simp
  have x1 : Box W3 w.heap.size 103 #[.int .i64 0, .int .i64 0] := by rw [← hW3]; exact Box.new _ _ _
  have l1 : Below w.heap.size w W3 := by rw [← hW3]; exact balloc _ _
  generalize hps : [(w.heap.size, 0), (w.heap.size, 1)] = ps
  have hpl : ps.length = 2 := by rw [← hps]; rfl
  have hp := rd_ptrs W3 113 ps (by rw [hpl]; decide)
  generalize hW4 : W3.alloc (.cells (ptrs ps).toArray 113) = W4 at hp
  have l4 : Below W3.heap.size W3 W4 := by rw [← hW4]; exact balloc _ _
  rw [hpl, s3] at hp
  have e4 : W3.alloc (.cells #[ptrAt w.heap.size 0, ptrAt w.heap.size 1] 113) = W4 := by rw [← hW4, ← hps]; rfl
  rw [e4]
  have x1' := x1.next l4
  have hmem : ∀ p ∈ ps, p.1 = w.heap.size := by rw [← hps]; simp
  refine (take_any s k _ 2 2 ps W4 hs hk (by decide) hp ?_ ?_).mono ?_
  · rw [← hps]
    intro p hpm
    simp only [List.mem_cons, List.not_mem_nil, or_false] at hpm
    rcases hpm with rfl | rfl
    · exact ⟨_, _, x1', by simp⟩
    · exact ⟨_, _, x1', by simp⟩
  · intro b off hb p hpm
    cases hb
    have := hmem p hpm
    omega
  · rintro e w' ⟨rfl, rfl⟩
    have hzip : ∀ x ∈ ps.zip (rdN s.data.toList 2 k).1, x.1.1 = w.heap.size := fun x hx => hmem _ (List.of_mem_zip (a := x.1) (b := x.2) hx).1
    refine ⟨rfl, ?_, ?_⟩
    · exact wrs_below _ _ (fun x hx => by have := hzip x hx; omega) _ _ (bnext l1 l4)
    · intro e2 he
      have hlen := rdN_len _ _ _ _ he
      clear hzip
      generalize rdN s.data.toList 2 k = q at *
      obtain ⟨vs, o⟩ := q
      simp only at he hlen ⊢
      subst he
      match vs, hlen with
      | [a, b], _ =>
        refine ⟨a, b, rfl, ?_⟩
        have := (x1'.set (i := 0) (.int .i64 a)).set (i := 1) (.int .i64 b)
        rw [← hps]
        simpa [wrs] using this
end Go.Proofs.YtgdjpaeclicdfaaDoor
