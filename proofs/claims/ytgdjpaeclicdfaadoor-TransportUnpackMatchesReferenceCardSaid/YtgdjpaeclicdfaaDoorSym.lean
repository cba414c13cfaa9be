/- A walk by explicit steps: what slots hold and what blocks are held, each as one list; a rule for each kind of step. Nothing here is about one function. -/
import Derived.Test.YtgdjpaeclicdfaaDoorBase2
import Derived.OrdersHeld
namespace Go.Proofs.YtgdjpaeclicdfaaDoor
open Go.ChangeShapes Go.WideShapes Go.ChangeAt Go.RowKit
set_option linter.unusedVariables false

/-! ### Slots -/
def look (k : Nat) : List (Nat × Value) → Option Value
  | [] => none
  | p :: L => bif Nat.beq p.1 k then some p.2 else look k L
def ev (L : List (Nat × Value)) : Operand → Value
  | .tmp t => (look t L).getD undef
  | .const v => v
  | .global g => .pointer (some ⟨g, 0, none⟩)
  | .func f => .func (.func f) #[] #[]
def knows (L : List (Nat × Value)) : Operand → Bool
  | .tmp t => (look t L).isSome
  | _ => true
def knowsAll (L : List (Nat × Value)) : List Operand → Bool
  | [] => true
  | x :: xs => knows L x && knowsAll L xs
def notSelect : Op → Bool
  | .select _ _ => false
  | _ => true
/-- The slots of a frame: how many there are, and what some of them hold. -/
structure Sl (n : Nat) (L : List (Nat × Value)) (a : Act) : Prop where
  defers : a.defers = []
  size : a.tmps.size = n
  get : ∀ k v, look k L = some v → a.tmps.getD k undef = v
theorem look_cons (d k : Nat) (v : Value) (L : List (Nat × Value)) : look k ((d, v) :: L) = if d = k then some v else look k L := by
  simp only [look]
  by_cases h : d = k
  · subst h; simp
  · have : Nat.beq d k = false := by
      cases hb : Nat.beq d k with
      | false => rfl
      | true => exact absurd (Nat.eq_of_beq_eq_true hb) h
    simp [this, h]
theorem Sl.put {n d : Nat} {L : List (Nat × Value)} {a : Act} (H : Sl n L a) (v : Value) (hd : Nat.blt d n = true) : Sl n ((d, v) :: L) (a.put (some d) v) := by
  have hd' : d < n := by simp [Nat.blt] at hd; omega
  refine ⟨H.defers, by simp [Act.put, H.size], fun k u hk => ?_⟩
  rw [look_cons] at hk
  by_cases h : d = k
  · subst h
    simp only [if_true, Option.some.injEq] at hk
    subst hk
    simp [Act.put, H.size, hd']
  · rw [if_neg h] at hk
    have := H.get k u hk
    simp only [Act.put]
    rw [Array.getD_eq_getD_getElem?] at this ⊢
    rw [Array.getElem?_setIfInBounds_ne h]
    exact this
theorem Sl.eval {n : Nat} {L : List (Nat × Value)} {a : Act} (H : Sl n L a) {x : Operand} (h : knows L x = true) : a.eval x = ev L x := by
  cases x with
  | tmp t =>
    simp only [knows] at h
    cases hl : look t L with
    | none => rw [hl] at h; cases h
    | some v => simp only [Act.eval, ev, hl, Option.getD_some]; exact H.get t v hl
  | _ => rfl
theorem knowsAll_spec {L : List (Nat × Value)} : ∀ {xs : List Operand}, knowsAll L xs = true → ∀ x ∈ xs, knows L x = true
  | [], _, x, hx => by cases hx
  | y :: ys, h, x, hx => by
    simp only [knowsAll, Bool.and_eq_true] at h
    rcases List.mem_cons.1 hx with rfl | hx
    · exact h.1
    · exact knowsAll_spec h.2 x hx
theorem Sl.exec {n : Nat} {L : List (Nat × Value)} {a : Act} (H : Sl n L a) {o : Oper} (hk : knowsAll L o.op.operands.toList = true) (hs : notSelect o.op = true) : execOp a.eval o = execOp (ev L) o :=
  execOp_congr o (fun cs b e => by rw [e] at hs; cases hs) fun x hx => H.eval (knowsAll_spec hk x (by simpa using hx))
/-- Fewer slots. -/
def keeps (L L' : List (Nat × Value)) : Prop := (L'.map fun p => look p.1 L) = L'.map fun p => some p.2
theorem keeps_spec {L : List (Nat × Value)} : ∀ {L' : List (Nat × Value)}, keeps L L' → ∀ k v, look k L' = some v → look k L = some v
  | [], _, k, v, h => by cases h
  | (d, u) :: L', hk, k, v, h => by
    simp only [keeps, List.map_cons, List.cons.injEq] at hk
    rw [look_cons] at h
    by_cases e : d = k
    · subst e; rw [if_pos rfl] at h; cases h; exact hk.1
    · rw [if_neg e] at h; exact keeps_spec (L' := L') hk.2 k v h
theorem Sl.keep {n : Nat} {L L' : List (Nat × Value)} {a : Act} (H : Sl n L a) (h : (L'.map fun p => look p.1 L) = L'.map fun p => some p.2) : Sl n L' a := ⟨H.defers, H.size, fun k v hk => H.get k v (keeps_spec h k v hk)⟩
theorem Sl.enter (args : List Value) (n : Nat) (L : List (Nat × Value)) (hn : Nat.ble args.length n = true) (h : keeps (args.zipIdx.map fun p => (p.2, p.1)) L) : Sl n L ⟨args.toArray ++ Array.replicate (n - args.toArray.size) undef, []⟩ := by
  have hn' : args.length ≤ n := by simpa [Nat.ble_eq] using hn
  refine ⟨rfl, by simp; omega, fun k v hk => ?_⟩
  have h1 := keeps_spec h k v hk
  have aux : ∀ (l : List Value) (i : Nat), look k ((l.zipIdx i).map fun p => (p.2, p.1)) = some v → i ≤ k ∧ l[k - i]? = some v := by
    intro l
    induction l with
    | nil => intro i hh; cases hh
    | cons x l ih =>
      intro i hh
      simp only [List.zipIdx_cons, List.map_cons] at hh
      rw [look_cons] at hh
      by_cases e : i = k
      · subst e; rw [if_pos rfl] at hh; cases hh; simp
      · rw [if_neg e] at hh
        have := ih (i + 1) hh
        refine ⟨by omega, ?_⟩
        rw [show k - i = (k - (i + 1)) + 1 by omega]
        simpa using this.2
  have h2 := aux args 0 (by simpa using h1)
  simp only [Nat.sub_zero] at h2
  have hlt := (List.getElem?_eq_some_iff.1 h2.2).1
  rw [Array.getD_eq_getD_getElem?, Array.getElem?_append_left (by simpa using hlt)]
  simp [h2.2]

/-! ### Guards -/
/-- Whether an operation is wanted, where its guard's slot is known. -/
def wantedL (ops : Array Oper) (L : List (Nat × Value)) (o : Oper) : Option Bool :=
  match o.guard with
  | none => some true
  | some (j, want) => match (ops[j]?).bind (·.dst) with
    | none => none
    | some d => match look d L with
      | none => none
      | some (.bool b) => some (b == want)
      | some _ => some false
theorem Sl.wanted {n : Nat} {L : List (Nat × Value)} {a : Act} (H : Sl n L a) {ops : Array Oper} {o : Oper} {b : Bool} (h : wantedL ops L o = some b) : Region.wanted o (yielded ops a.tmps) = b := by
  unfold wantedL at h
  unfold Region.wanted
  cases hg : o.guard with
  | none => rw [hg] at h; simpa using h
  | some jw =>
    obtain ⟨j, want⟩ := jw
    rw [hg] at h
    simp only at h ⊢
    unfold yielded
    cases hd : (ops[j]?).bind (·.dst) with
    | none => rw [hd] at h; cases h
    | some d =>
      rw [hd] at h
      simp only at h
      cases hl : look d L with
      | none => rw [hl] at h; cases h
      | some v =>
        rw [hl] at h
        have hv := H.get d v hl
        have hv' : a.tmps[d]? = some v ∨ (a.tmps[d]? = none ∧ v = undef) := by
          rw [Array.getD_eq_getD_getElem?] at hv
          cases hh : a.tmps[d]? with
          | none => rw [hh] at hv; exact .inr ⟨rfl, hv.symm⟩
          | some u => rw [hh] at hv; exact .inl (by simpa using hv)
        cases v with
        | bool c =>
          rcases hv' with hv' | ⟨_, hv'⟩
          · simp [hv'] at h ⊢; exact h
          · cases hv'
        | _ =>
          simp only [Option.some.injEq] at h
          subst h
          rcases hv' with hv' | ⟨hv', _⟩ <;> simp [hv']

/-! ### What is held -/
/-- Something that is held: the blocks that it owns, and what it says of them. -/
structure HB where
  fp : Nat → Prop
  F : World → Prop
  fresh : Bool
def HB.ok (x : HB) : Prop := ∀ w1 w2, x.F w1 → (∀ k, x.fp k → w2.heap[k]? = w1.heap[k]?) → w1.heap.size ≤ w2.heap.size → x.F w2
/-- A variable's block. -/
def bx (b : Nat) (t : TypeId) (vs : List Value) (f : Bool) : HB := ⟨fun k => k = b, fun w => Box w b t vs.toArray, f⟩
theorem bx_ok (b : Nat) (t : TypeId) (vs : List Value) (f : Bool) : (bx b t vs f).ok := fun _ _ h hk _ => (hk b rfl).trans h
/-- A fact about memory that is kept: the blocks that it speaks of, and what it says. -/
structure FK where
  fp : Nat → Prop
  F : World → Prop
def FK.ok (p : FK) : Prop := ∀ w1 w2, p.F w1 → (∀ k, p.fp k → w2.heap[k]? = w1.heap[k]?) → w1.heap.size ≤ w2.heap.size → p.F w2
/-- Of what was there in w0 nothing has changed but what the list owns; each of the list is as it says. -/
structure Hp (w0 w : World) (L : List HB) (K : List FK) : Prop where
  os : w.os = w0.os
  tape : w.tape = w0.tape
  output : w.output = w0.output
  size : w0.heap.size ≤ w.heap.size
  old : ∀ k, k < w0.heap.size → (∀ x ∈ L, ¬ x.fp k) → w.heap[k]? = w0.heap[k]?
  res : ∀ x ∈ L, x.F w ∧ x.ok ∧ ∀ k, x.fp k → k < w.heap.size
  apart : L.Pairwise fun x y => ∀ k, x.fp k → ¬ y.fp k
  fresh : ∀ x ∈ L, x.fresh = true → ∀ k, x.fp k → w0.heap.size ≤ k
  kept : ∀ p ∈ K, p.F w ∧ p.ok ∧ ∀ k, p.fp k → k < w.heap.size ∧ ∀ x ∈ L, ¬ x.fp k
theorem Hp.start (w : World) : Hp w w [] [] := ⟨rfl, rfl, rfl, Nat.le_refl _, fun _ _ _ => rfl, (fun _ h => by cases h), .nil, (fun _ h => by cases h), (fun _ h => by cases h)⟩
/-- A step that changes nothing that was there: a call, a draw, a block that is of no interest. -/
theorem Hp.next {w0 w w' : World} {L : List HB} {K : List FK} (H : Hp w0 w L K) (hb : Below w.heap.size w w') : Hp w0 w' L K :=
  ⟨hb.os.trans H.os, hb.tape.trans H.tape, hb.output.trans H.output, Nat.le_trans H.size hb.size,
    fun k hk hn => (hb.block k (Nat.lt_of_lt_of_le hk H.size)).trans (H.old k hk hn),
    fun x hx => let ⟨h1, h2, h3⟩ := H.res x hx; ⟨h2 _ _ h1 (fun k hk => hb.block k (h3 k hk)) hb.size, h2, fun k hk => Nat.lt_of_lt_of_le (h3 k hk) hb.size⟩, H.apart, H.fresh,
    fun p hp => let ⟨h1, h2, h3⟩ := H.kept p hp; ⟨h2 _ _ h1 (fun k hk => hb.block k (h3 k hk).1) hb.size, h2, fun k hk => ⟨Nat.lt_of_lt_of_le (h3 k hk).1 hb.size, (h3 k hk).2⟩⟩⟩
/-- Something more is held. -/
theorem Hp.add {w0 w : World} {L : List HB} {K : List FK} (H : Hp w0 w L K) (x : HB) (hF : x.F w) (hok : x.ok) (hlt : ∀ k, x.fp k → k < w.heap.size) (hs : ∀ k, x.fp k → (∀ y ∈ L, ¬ y.fp k) ∧ ∀ p ∈ K, ¬ p.fp k) (hf : x.fresh = true → ∀ k, x.fp k → w0.heap.size ≤ k) : Hp w0 w (x :: L) K := by
  refine ⟨H.os, H.tape, H.output, H.size, fun k hk hn => H.old k hk fun y hy => hn y (List.mem_cons_of_mem _ hy), fun y hy => ?_, .cons (fun y hy k hk => (hs k hk).1 y hy) H.apart, fun y hy hfy => ?_, fun p hp => ?_⟩
  · rcases List.mem_cons.1 hy with rfl | hy
    · exact ⟨hF, hok, hlt⟩
    · exact H.res y hy
  · rcases List.mem_cons.1 hy with rfl | hy
    · exact hf hfy
    · exact H.fresh y hy hfy
  · obtain ⟨k1, k2, k3⟩ := H.kept p hp
    refine ⟨k1, k2, fun k hk => ⟨(k3 k hk).1, fun y hy => ?_⟩⟩
    rcases List.mem_cons.1 hy with rfl | hy
    · exact fun hx => (hs k hx).2 p hp hk
    · exact (k3 k hk).2 y hy
/-- What is new is apart from all that is held or kept. -/
theorem Hp.apart_new {w0 w : World} {L : List HB} {K : List FK} (H : Hp w0 w L K) {k : Nat} (hk : w.heap.size ≤ k) : (∀ y ∈ L, ¬ y.fp k) ∧ ∀ p ∈ K, ¬ p.fp k :=
  ⟨fun y hy h => by have := (H.res y hy).2.2 k h; omega, fun p hp h => by have := ((H.kept p hp).2.2 k h).1; omega⟩
/-- A call that changes nothing, and makes something that is held from there on. -/
theorem Hp.gain {w0 w w' : World} {L : List HB} {K : List FK} (H : Hp w0 w L K) (hb : Below w.heap.size w w') (x : HB) (hF : x.F w') (hok : x.ok) (hlt : ∀ k, x.fp k → k < w'.heap.size) (hn : ∀ k, x.fp k → w.heap.size ≤ k) : Hp w0 w' (x :: L) K :=
  (H.next hb).add x hF hok hlt (fun k hk => H.apart_new (hn k hk)) fun _ k hk => Nat.le_trans H.size (hn k hk)
theorem Hp.own {w : World} {b : Nat} {t : TypeId} {vs : List Value} (h : Box w b t vs.toArray) : Hp w w [bx b t vs false] [] :=
  (Hp.start w).add (bx b t vs false) h (bx_ok _ _ _ _) (fun k hk => by cases hk; exact h.lt) (fun _ _ => ⟨(fun _ h => by cases h), (fun _ h => by cases h)⟩) fun h => by cases h
theorem Hp.alloc {w0 w : World} {L : List HB} {K : List FK} (H : Hp w0 w L K) (t : TypeId) (vs : List Value) : Hp w0 (w.alloc (.cells vs.toArray t)) (bx w.heap.size t vs true :: L) K :=
  H.gain (balloc w (.cells vs.toArray t)) (bx w.heap.size t vs true) (Box.new w t vs.toArray) (bx_ok _ _ _ _) (fun k hk => by cases hk; simp) (fun k hk => by cases hk; exact Nat.le_refl _)
theorem Hp.below {w0 w : World} {L : List HB} {K : List FK} (H : Hp w0 w L K) (hf : (L.all fun x => x.fresh) = true) : Below w0.heap.size w0 w :=
  ⟨H.os, H.tape, H.output, H.size, fun k hk => H.old k hk fun x hx h => by have := H.fresh x hx (List.all_eq_true.1 hf x hx) k h; omega⟩
theorem Hp.at_ {w0 w : World} {L : List HB} {K : List FK} (H : Hp w0 w L K) (i : Nat) {b : Nat} {t : TypeId} {vs : List Value} {f : Bool} (hi : L[i]? = some (bx b t vs f)) : Box w b t vs.toArray := (H.res _ (List.mem_of_getElem? hi)).1
theorem Hp.cell {w0 w : World} {L : List HB} {K : List FK} (H : Hp w0 w L K) (i : Nat) {b : Nat} {t : TypeId} {vs : List Value} {f : Bool} (hi : L[i]? = some (bx b t vs f)) (j : Nat) {v : Value} (hv : vs[j]? = some v) : w.cell? ⟨b, j, none⟩ = some v :=
  (H.at_ i hi).cell (by simpa using hv)
theorem pairwise_set {α : Type} {R : α → α → Prop} : ∀ {L : List α} {i : Nat} {x y : α}, L.Pairwise R → L[i]? = some x → (∀ z ∈ L, R z x → R z y) → (∀ z ∈ L, R x z → R y z) → (L.set i y).Pairwise R
  | [], _, _, _, _, h, _, _ => by cases h
  | a :: L, 0, x, y, hp, h, h1, h2 => by
    simp only [List.getElem?_cons_zero, Option.some.injEq] at h
    subst h
    cases hp with
    | cons p q => exact .cons (fun z hz => h2 z (List.mem_cons_of_mem _ hz) (p z hz)) q
  | a :: L, i + 1, x, y, hp, h, h1, h2 => by
    simp only [List.getElem?_cons_succ] at h
    cases hp with
    | cons p q =>
      refine .cons (fun z hz => ?_) (pairwise_set q h (fun z hz => h1 z (List.mem_cons_of_mem _ hz)) (fun z hz => h2 z (List.mem_cons_of_mem _ hz)))
      rcases List.mem_or_eq_of_mem_set hz with hz | rfl
      · exact p z hz
      · exact h1 a (List.mem_cons_self ..) (p x (List.mem_of_getElem? h))
theorem pairwise_at {L : List HB} (h : L.Pairwise fun x y => ∀ k, x.fp k → ¬ y.fp k) {i j : Nat} {x y : HB} (hi : L[i]? = some x) (hj : L[j]? = some y) (hne : i ≠ j) : ∀ k, x.fp k → ¬ y.fp k := by
  induction h generalizing i j with
  | nil => cases hi
  | @cons a L p q ih =>
    cases i with
    | zero =>
      cases j with
      | zero => exact absurd rfl hne
      | succ j => simp only [List.getElem?_cons_zero, Option.some.injEq] at hi; subst hi; exact p y (List.mem_of_getElem? hj)
    | succ i =>
      cases j with
      | zero => simp only [List.getElem?_cons_zero, Option.some.injEq] at hj; subst hj; exact fun k hk hk' => p x (List.mem_of_getElem? hi) k hk' hk
      | succ j => exact ih hi hj (fun e => hne (by rw [e]))
/-- Nothing has changed but what is said. -/
structure Agree (w w' : World) (fp : Nat → Prop) : Prop where
  os : w'.os = w.os
  tape : w'.tape = w.tape
  output : w'.output = w.output
  size : w.heap.size ≤ w'.heap.size
  block : ∀ k, k < w.heap.size → ¬ fp k → w'.heap[k]? = w.heap[k]?
theorem Agree.of_below {w w' : World} {fp : Nat → Prop} (h : Below w.heap.size w w') : Agree w w' fp := ⟨h.os, h.tape, h.output, h.size, fun k hk _ => h.block k hk⟩
theorem Agree.of_grown {w w' : World} {row : Option Nat} {fp : Nat → Prop} (h : w.grownBy w' row) (hr : ∀ k, row = some k → fp k) : Agree w w' fp := ⟨h.os, h.tape, h.output, h.size, fun k hk hn => h.block k hk fun e => hn (hr k e.symm)⟩
theorem mem_set {L : List HB} (h : L.Pairwise fun x y => ∀ k, x.fp k → ¬ y.fp k) {i : Nat} {x x' : HB} (hi : L[i]? = some x) : ∀ y ∈ L.set i x', y = x' ∨ (y ∈ L ∧ ∀ k, x.fp k → ¬ y.fp k) := by
  intro y hy
  obtain ⟨k, hk⟩ := List.mem_iff_getElem?.1 hy
  by_cases e : i = k
  · subst e
    rw [List.getElem?_set] at hk
    simp [(List.getElem?_eq_some_iff.1 hi).1] at hk
    exact .inl hk.symm
  · rw [List.getElem?_set_ne e] at hk
    exact .inr ⟨List.mem_of_getElem? hk, pairwise_at h hi hk e⟩
/-- One of the things that are held is changed: it may own new blocks after that. -/
theorem Hp.mut {w0 w w' : World} {L : List HB} {K : List FK} (H : Hp w0 w L K) (i : Nat) {x : HB} (hi : L[i]? = some x) (x' : HB) (L' : List HB) (hL : L.set i x' = L') (hag : Agree w w' x.fp) (hF : x'.F w') (hok : x'.ok) (hlt : ∀ k, x'.fp k → k < w'.heap.size) (hfp : ∀ k, x'.fp k → x.fp k ∨ w.heap.size ≤ k)
    (hall : ∀ k, k < w0.heap.size → x.fp k → x'.fp k) (hfr : x'.fresh = x.fresh) : Hp w0 w' L' K := by
  subst hL
  have hm := mem_set H.apart (x' := x') hi
  have hxm := List.mem_of_getElem? hi
  have hil := (List.getElem?_eq_some_iff.1 hi).1
  have hx'm : x' ∈ L.set i x' := List.mem_iff_getElem?.2 ⟨i, by rw [List.getElem?_set]; simp [hil]⟩
  have hback : ∀ y ∈ L, y = x ∨ y ∈ L.set i x' := by
    intro y hy
    obtain ⟨k, hk⟩ := List.mem_iff_getElem?.1 hy
    by_cases e : i = k
    · subst e; rw [hi] at hk; cases hk; exact .inl rfl
    · exact .inr (List.mem_iff_getElem?.2 ⟨k, by rw [List.getElem?_set_ne e]; exact hk⟩)
  have hnot : ∀ y ∈ L, ∀ k, x'.fp k → y.fp k → x.fp k := fun y hy k hk hy' => (hfp k hk).resolve_right fun h => by have := (H.res y hy).2.2 k hy'; omega
  refine ⟨hag.os.trans H.os, hag.tape.trans H.tape, hag.output.trans H.output, Nat.le_trans H.size hag.size, fun k hk hn => ?_, fun y hy => ?_, ?_, fun y hy hfy k hk => ?_, fun p hp => ?_⟩
  · have hx : ¬ x.fp k := fun h => hn x' hx'm (hall k hk h)
    rw [hag.block k (Nat.lt_of_lt_of_le hk H.size) hx]
    refine H.old k hk fun y hy => ?_
    rcases hback y hy with rfl | hy
    · exact hx
    · exact hn y hy
  · rcases hm y hy with rfl | ⟨hy, hne⟩
    · exact ⟨hF, hok, hlt⟩
    · obtain ⟨h1, h2, h3⟩ := H.res y hy
      exact ⟨h2 _ _ h1 (fun k hk => hag.block k (h3 k hk) fun hx => hne k hx hk) hag.size, h2, fun k hk => Nat.lt_of_lt_of_le (h3 k hk) hag.size⟩
  · exact pairwise_set H.apart hi (fun z hz h k hk hk' => h k hk (hnot z hz k hk' hk)) (fun z hz h k hk hk' => h k (hnot z hz k hk hk') hk')
  · rcases hm y hy with rfl | ⟨hy, _⟩
    · rcases hfp k hk with h | h
      · exact H.fresh x hxm (hfr ▸ hfy) k h
      · exact Nat.le_trans H.size h
    · exact H.fresh y hy hfy k hk
  · obtain ⟨k1, k2, k3⟩ := H.kept p hp
    refine ⟨k2 _ _ k1 (fun k hk => hag.block k (k3 k hk).1 ((k3 k hk).2 x hxm)) hag.size, k2, fun k hk => ⟨Nat.lt_of_lt_of_le (k3 k hk).1 hag.size, fun y hy hy' => ?_⟩⟩
    rcases hm y hy with rfl | ⟨hy, _⟩
    · rcases hfp k hy' with h | h
      · exact (k3 k hk).2 x hxm h
      · have := (k3 k hk).1; omega
    · exact (k3 k hk).2 y hy hy'
/-- A cell of a held block is written. -/
theorem Hp.set {w0 w : World} {L : List HB} {K : List FK} (H : Hp w0 w L K) (i : Nat) {b : Nat} {t : TypeId} {vs : List Value} {f : Bool} (hi : L[i]? = some (bx b t vs f)) (j : Nat) (v : Value) :
    Hp w0 (w.setCell ⟨b, j, none⟩ v) (L.set i (bx b t (vs.set j v) f)) K :=
  H.mut i hi (bx b t (vs.set j v) f) _ rfl ⟨rfl, rfl, rfl, by simp [World.setCell], fun k _ hk => Below.heap_setCell _ _ _ _ hk⟩ (by
      have := (H.at_ i hi).set (i := j) v
      simpa [bx] using this) (bx_ok _ _ _ _) (fun k hk => by cases hk; simpa [World.setCell] using (H.at_ i hi).lt) (fun k hk => .inl hk) (fun k _ hk => hk) rfl
/-- A call that changes one held block. -/
theorem Hp.changed {w0 w w' : World} {L : List HB} {K : List FK} (H : Hp w0 w L K) (i : Nat) {b : Nat} {t : TypeId} {vs : List Value} {f : Bool} (hi : L[i]? = some (bx b t vs f)) (vs' : List Value) (L' : List HB) (hL : L.set i (bx b t vs' f) = L') (hg : w.grownBy w' (some b)) (hbx : Box w' b t vs'.toArray) : Hp w0 w' L' K :=
  H.mut i hi (bx b t vs' f) _ hL (Agree.of_grown hg fun k e => (Option.some.inj e).symm) hbx (bx_ok _ _ _ _) (fun k hk => by cases hk; exact hbx.lt) (fun k hk => .inl hk) (fun k _ hk => hk) rfl
/-- Only block b has changed of what was there. -/
theorem Hp.only {w0 w : World} {L : List HB} {K : List FK} (H : Hp w0 w L K) (b : Nat) (hf : ∀ x ∈ L, x.fresh = true ∨ ∀ k, x.fp k → k = b) : w0.grownBy w (some b) :=
  ⟨H.os, H.tape, H.output, H.size, fun k hk hne => H.old k hk fun x hx e => by
    rcases hf x hx with h | h
    · have := H.fresh x hx h k e; omega
    · exact hne (by rw [h k e])⟩
/-- Some of the things that are held, where each that is left out is new. -/
theorem Hp.some_ {w0 w : World} {L L' : List HB} {K : List FK} (H : Hp w0 w L K) (hs : L'.Sublist L) (hf : ∀ x ∈ L, x.fresh = true ∨ x ∈ L') : Hp w0 w L' K := by
  refine ⟨H.os, H.tape, H.output, H.size, fun k hk hn => H.old k hk fun x hx h => ?_, fun x hx => H.res x (hs.subset hx), H.apart.sublist hs, fun x hx => H.fresh x (hs.subset hx), fun p hp => let ⟨h1, h2, h3⟩ := H.kept p hp; ⟨h1, h2, fun k hk => ⟨(h3 k hk).1, fun x hx => (h3 k hk).2 x (hs.subset hx)⟩⟩⟩
  rcases hf x hx with h' | h'
  · have := H.fresh x hx h' k h; omega
  · exact hn x h' h
theorem Hp.tail {w0 w : World} {x : HB} {L : List HB} {K : List FK} (H : Hp w0 w (x :: L) K) (hx : x.fresh = true) : Hp w0 w L K :=
  H.some_ (List.sublist_cons_self _ _) fun y hy => by
    rcases List.mem_cons.1 hy with rfl | hy
    · exact .inl hx
    · exact .inr hy
/-- The second is let go. -/
theorem Hp.tail2 {w0 w : World} {x y : HB} {L : List HB} {K : List FK} (H : Hp w0 w (x :: y :: L) K) (hy : y.fresh = true) : Hp w0 w (x :: L) K :=
  H.some_ (.cons_cons _ (List.sublist_cons_self _ _)) fun z hz => by
    rcases List.mem_cons.1 hz with rfl | hz
    · exact .inr (List.mem_cons_self ..)
    · rcases List.mem_cons.1 hz with rfl | hz
      · exact .inl hy
      · exact .inr (List.mem_cons_of_mem _ hz)
/-- A fact about memory is kept from here on. -/
theorem Hp.keepF {w0 w : World} {L : List HB} {K : List FK} (H : Hp w0 w L K) (p : FK) (hp : p.F w) (hok : p.ok) (hn : ∀ k, p.fp k → k < w.heap.size ∧ ∀ x ∈ L, ¬ x.fp k) : Hp w0 w L (p :: K) :=
  ⟨H.os, H.tape, H.output, H.size, H.old, H.res, H.apart, H.fresh, fun q hq => by
    rcases List.mem_cons.1 hq with rfl | hq
    · exact ⟨hp, hok, hn⟩
    · exact H.kept q hq⟩
/-- What the first of the list says is kept as a fact, and is no longer held. -/
theorem Hp.lay {w0 w : World} {x : HB} {L : List HB} {K : List FK} (H : Hp w0 w (x :: L) K) (hx : x.fresh = true) : Hp w0 w L (⟨x.fp, x.F⟩ :: K) :=
  (H.tail hx).keepF ⟨x.fp, x.F⟩ (H.res x (List.mem_cons_self ..)).1 (H.res x (List.mem_cons_self ..)).2.1 fun k hk => ⟨(H.res x (List.mem_cons_self ..)).2.2 k hk, fun y hy => by
    cases H.apart with
    | cons p _ => exact p y hy k hk⟩
theorem Hp.fact {w0 w : World} {L : List HB} {K : List FK} (H : Hp w0 w L K) (i : Nat) {p : FK} (hi : K[i]? = some p) : p.F w := (H.kept p (List.mem_of_getElem? hi)).1
theorem Hp.held {w0 w : World} {L : List HB} {K : List FK} (H : Hp w0 w L K) (i : Nat) {x : HB} (hi : L[i]? = some x) : x.F w := (H.res x (List.mem_of_getElem? hi)).1
theorem Hp.forget {w0 w : World} {L : List HB} {K : List FK} (H : Hp w0 w L K) : Hp w0 w L [] := ⟨H.os, H.tape, H.output, H.size, H.old, H.res, H.apart, H.fresh, fun _ h => by cases h⟩
theorem Hp.keeps {w0 w : World} {L : List HB} {K K' : List FK} (H : Hp w0 w L K) (h : K' ⊆ K) : Hp w0 w L K' := ⟨H.os, H.tape, H.output, H.size, H.old, H.res, H.apart, H.fresh, fun p hp => H.kept p (h hp)⟩
theorem Hp.lt {w0 w : World} {L : List HB} {K : List FK} (H : Hp w0 w L K) : ∀ x ∈ L, ∀ k, x.fp k → k < w.heap.size := fun x hx => (H.res x hx).2.2
/-- What a row of cells says, kept. -/
def rowFp (n : Nat) (A : Option Addr) (k : Nat) : Prop := 0 < n ∧ ∃ off, A = some ⟨k, off, none⟩
theorem Rd.keep {w1 w2 : World} {size : Nat} {A : Option Addr} {n : Nat} {xs : List Value} (h : Rd w1 size A n xs) (hk : ∀ k, rowFp n A k → w2.heap[k]? = w1.heap[k]?) (hs : w1.heap.size ≤ w2.heap.size) : Rd w2 size A n xs := by
  obtain ⟨h1, h2⟩ := h
  refine ⟨h1, ?_⟩
  by_cases hn : n = 0
  · exact .inl hn
  rcases h2 with h2 | ⟨b, off, rfl, hlt, hc⟩
  · exact .inl h2
  · exact .inr ⟨b, off, rfl, Nat.lt_of_lt_of_le hlt hs, fun i hi => (World.cell?_of_block (w := w1) (hk b ⟨by omega, off, rfl⟩)).trans (hc i hi)⟩
theorem row_sep {w0 w w' : World} {L : List HB} {K : List FK} {A : Option Addr} {size n : Nat} {xs : List Value} (HP : Hp w0 w L K) (h : Rd w' size A n xs) (hq : ∀ b off, A = some ⟨b, off, none⟩ → w.heap.size ≤ b) {j : Nat} (hj : rowFp n A j) : j < w'.heap.size ∧ ∀ x ∈ L, ¬ x.fp j := by
  obtain ⟨hn, off, rfl⟩ := hj
  have h1 := hq j off rfl
  obtain ⟨b, off', e, hlt, _⟩ := h.2.resolve_left (by omega)
  cases e
  exact ⟨hlt, fun x hx e => by have := HP.lt x hx j e; omega⟩
theorem Rd.of_box {w : World} {b t n : Nat} {vs : List Value} (h : Box w b t vs.toArray) (hl : vs.length = n * 1) : Rd w 1 (some ⟨b, 0, none⟩) n vs :=
  ⟨hl, .inr ⟨b, 0, rfl, h.lt, fun i hi => by
    have hi' : i < vs.length := by omega
    rw [Nat.zero_add, List.getElem?_eq_getElem hi']
    exact h.cell (by simp [List.getElem?_eq_getElem hi'])⟩⟩
/-! ### Loads, stores, new blocks -/
def aggB (P : Program) (t : TypeId) : Option Bool :=
  match P.underlying t with
  | some (.struct _) | some (.array _ _) => some true
  | some _ => some false
  | none => none
def sizeB (P : Program) (t : TypeId) : Option Nat := (P.info? t).map (·.size)
/-- The cells from an address on. -/
def cellsAt (w : World) (b off : Nat) (vs : List Value) : Prop := ∀ i v, vs[i]? = some v → w.cell? ⟨b, off + i, none⟩ = some v
theorem Hp.cells {w0 w : World} {L : List HB} {K : List FK} (H : Hp w0 w L K) (i : Nat) {b : Nat} {t : TypeId} {us : List Value} {f : Bool} (hi : L[i]? = some (bx b t us f)) (off n : Nat) {vs : List Value} (hv : (us.drop off).take n = vs) : cellsAt w b off vs := by
  intro j v hj
  subst hv
  rw [List.getElem?_take] at hj
  split at hj
  · rw [List.getElem?_drop] at hj
    exact H.cell i hi _ hj
  · cases hj
def one : Value → Bool
  | .agg _ | .tuple _ => false
  | _ => true
def oneCells : List Value → Bool
  | [] => true
  | v :: vs => one v && oneCells vs
def setAll (us : List Value) (off : Nat) : List Value → List Value
  | [] => us
  | v :: vs => setAll (us.set off v) (off + 1) vs
theorem add_plain (b off i : Nat) : (⟨b, off, none⟩ : Addr).add i = ⟨b, off + i, none⟩ := by
  unfold Addr.add
  split
  · subst i; rfl
  · rfl
section
variable {P : Program} {ρ : Operand → Value} {w : World} {t : TypeId} {x y : Operand} {dst : Option Tmp} {ty : TypeId} {pos : String} {af : Array Edge} {g : Option (Nat × Bool)}
theorem run_isAgg {c : Bool} (h : aggB P t = some c) : (isAgg t).run P w = .ok c w := by
  unfold aggB at h
  unfold isAgg underlying
  cases hu : P.underlying t with
  | none => rw [hu] at h; cases h
  | some d => rw [hu] at h; cases d <;> simp at h <;> subst h <;> simp [Sem.run_bind, hu, program, Sem.run]
theorem run_sizeOf {k : Nat} (h : sizeB P t = some k) : (sizeOf t).run P w = .ok k w := by
  unfold sizeB at h
  unfold sizeOf typeInfo
  cases hu : P.info? t with
  | none => rw [hu] at h; cases h
  | some d => rw [hu] at h; simp at h; subst h; simp [Sem.run_bind, hu, program, Sem.run]
theorem run_load {p : Addr} {v : Value} (hc : w.cell? p = some v) : (load p).run P w = .ok v w := by
  simp [load, Sem.run, hc]
theorem run_loadCellsFrom {b off : Nat} : ∀ (vs : List Value) (i : Nat) (acc : Array Value), (∀ j v, vs[j]? = some v → w.cell? ⟨b, off + (i + j), none⟩ = some v) →
    (loadCellsFrom ⟨b, off, none⟩ i vs.length acc).run P w = .ok (acc ++ vs.toArray) w
  | [], i, acc, _ => by simp [loadCellsFrom]
  | v :: vs, i, acc, h => by
    have h0 := h 0 v rfl
    simp only [List.length_cons, loadCellsFrom, Sem.run_bind, add_plain]
    rw [run_load (by simpa using h0)]
    simp only [Result.andThen_ok]
    rw [run_loadCellsFrom vs (i + 1) _ fun j u hj => by
      have := h (j + 1) u (by simpa using hj)
      rw [show i + 1 + j = i + (j + 1) by omega]
      exact this]
    simp
theorem run_loadVarN {b off k : Nat} {vs : List Value} (ha : aggB P t = some true) (hs : sizeB P t = some k) (hl : vs.length = k) (hc : cellsAt w b off vs) : (loadVar t ⟨b, off, none⟩).run P w = .ok (.agg vs.toArray) w := by
  subst hl
  have h2 := run_loadCellsFrom (P := P) (w := w) (b := b) (off := off) vs 0 #[] fun j v hj => by have := hc j v hj; simpa using this
  simp only [loadVar, Sem.run_bind, run_isAgg ha, Result.andThen_ok, if_true, run_sizeOf hs, loadCells, h2]
  simp
theorem run_loadVar1 {p : Addr} {v : Value} (ha : aggB P t = some false) (hc : w.cell? p = some v) : (loadVar t p).run P w = .ok v w := by
  simp only [loadVar, Sem.run_bind, run_isAgg ha, Result.andThen_ok, Bool.false_eq_true, if_false, run_load hc]
theorem ex_load1 {p : Addr} {v : Value} (hx : ρ x = .pointer (some p)) (ha : aggB P t = some false) (hc : w.cell? p = some v) : (execOp ρ ⟨dst, .load t x, ty, pos, af, g⟩).run P w = .ok (.value v) w := by
  simp only [execOp, hx, Instr.loadAt, Instr.sureAddr, Sem.run_bind, Sem.run_pure, Result.andThen_ok, run_loadVar1 ha hc]
theorem ex_loadN {b off k : Nat} {vs : List Value} (hx : ρ x = .pointer (some ⟨b, off, none⟩)) (ha : aggB P t = some true) (hs : sizeB P t = some k) (hl : vs.length = k) (hc : cellsAt w b off vs) : (execOp ρ ⟨dst, .load t x, ty, pos, af, g⟩).run P w = .ok (.value (.agg vs.toArray)) w := by
  simp only [execOp, hx, Instr.loadAt, Instr.sureAddr, Sem.run_bind, Sem.run_pure, Result.andThen_ok, run_loadVarN ha hs hl hc]
theorem run_store {p : Addr} {v u : Value} (h1 : one v = true) (hc : w.cell? p = some u) (hf : w.frozen? p = false) : (store p v).run P w = .ok () (w.setCell p v) := by
  cases v <;> first | (simp [store, Sem.run, hc, hf]; done) | cases h1
theorem run_storeCells {w0 : World} {b off i : Nat} {tb : TypeId} {f : Bool} : ∀ (vs us : List Value) (j : Nat) (w : World) (L : List HB) (K : List FK), Hp w0 w L K → L[i]? = some (bx b tb us f) → oneCells vs = true → off + j + vs.length ≤ us.length →
    ∃ w', (storeCells ⟨b, off, none⟩ vs j).run P w = .ok () w' ∧ Hp w0 w' (L.set i (bx b tb (setAll us (off + j) vs) f)) K
  | [], us, j, w, L, K, H, hi, _, _ => ⟨w, by simp [storeCells], by
      have : L.set i (bx b tb us f) = L := by
        apply List.ext_getElem?
        intro k
        by_cases e : i = k
        · subst e; rw [List.getElem?_set, hi]; simp [(List.getElem?_eq_some_iff.1 hi).1]
        · rw [List.getElem?_set_ne e]
      simp only [setAll]
      rw [this]
      exact H⟩
  | v :: vs, us, j, w, L, K, H, hi, h1, hl => by
    simp only [oneCells, Bool.and_eq_true] at h1
    simp only [List.length_cons] at hl
    have hlt : off + j < us.length := by omega
    have hc := H.cell i hi (off + j) (List.getElem?_eq_getElem hlt)
    have hf := (H.at_ i hi).frozen (off + j)
    have H' := H.set i hi (off + j) v
    have hil := (List.getElem?_eq_some_iff.1 hi).1
    obtain ⟨w', hr, hw'⟩ := run_storeCells (b := b) (off := off) (i := i) (tb := tb) (f := f) vs (us.set (off + j) v) (j + 1) (w.setCell ⟨b, off + j, none⟩ v) (L.set i (bx b tb (us.set (off + j) v) f)) K H' (by rw [List.getElem?_set]; simp [hil]) h1.2 (by simp; omega)
    refine ⟨w', ?_, ?_⟩
    · simp only [storeCells, Sem.run_bind, add_plain]
      rw [run_store h1.1 hc hf]
      simp only [Result.andThen_ok]
      exact hr
    · rw [List.set_set] at hw'
      exact hw'
end

/-! ### The steps of a region -/
/-- What is asked of an operation that is carried out: its slot, its operands, that it is wanted. -/
def chk (ops : Array Oper) (n : Nat) (L : List (Nat × Value)) (o : Oper) (d : Nat) : Bool :=
  match o.dst with
  | some d' => Nat.beq d' d && (Nat.blt d n && (knowsAll L o.op.operands.toList && (notSelect o.op && (match wantedL ops L o with | some b => b | none => false))))
  | none => false
def chk0 (ops : Array Oper) (L : List (Nat × Value)) (o : Oper) : Bool :=
  match o.dst with
  | some _ => false
  | none => knowsAll L o.op.operands.toList && (notSelect o.op && (match wantedL ops L o with | some b => b | none => false))
def chkSkip (ops : Array Oper) (n : Nat) (L : List (Nat × Value)) (o : Oper) (d : Nat) : Bool :=
  match o.dst with
  | some d' => Nat.beq d' d && (Nat.blt d n && (match wantedL ops L o with | some b => !b | none => false))
  | none => false
section
variable {P : Program} {ops : Array Oper} {Q : Exit → Act → World → Prop} {a : Act} {w w' : World} {rest : List Oper} {o : Oper} {n : Nat} {L : List (Nat × Value)} {v : Value}
theorem chk_spec {d : Nat} (h : chk ops n L o d = true) : o.dst = some d ∧ Nat.blt d n = true ∧ knowsAll L o.op.operands.toList = true ∧ notSelect o.op = true ∧ wantedL ops L o = some true := by
  unfold chk at h
  cases hd : o.dst with
  | none => rw [hd] at h; cases h
  | some d' =>
    rw [hd] at h
    simp only [Bool.and_eq_true] at h
    refine ⟨by rw [Nat.eq_of_beq_eq_true h.1], h.2.1, h.2.2.1, h.2.2.2.1, ?_⟩
    have := h.2.2.2.2
    cases hw : wantedL ops L o with
    | none => rw [hw] at this; cases this
    | some b => rw [hw] at this; simp at this; rw [this]
theorem chk0_spec (h : chk0 ops L o = true) : o.dst = none ∧ knowsAll L o.op.operands.toList = true ∧ notSelect o.op = true ∧ wantedL ops L o = some true := by
  unfold chk0 at h
  cases hd : o.dst with
  | some _ => rw [hd] at h; cases h
  | none =>
    rw [hd] at h
    simp only [Bool.and_eq_true] at h
    refine ⟨rfl, h.1, h.2.1, ?_⟩
    have := h.2.2
    cases hw : wantedL ops L o with
    | none => rw [hw] at this; cases this
    | some b => rw [hw] at this; simp at this; rw [this]
theorem chkSkip_spec {d : Nat} (h : chkSkip ops n L o d = true) : o.dst = some d ∧ Nat.blt d n = true ∧ wantedL ops L o = some false := by
  unfold chkSkip at h
  cases hd : o.dst with
  | none => rw [hd] at h; cases h
  | some d' =>
    rw [hd] at h
    simp only [Bool.and_eq_true] at h
    refine ⟨by rw [Nat.eq_of_beq_eq_true h.1], h.2.1, ?_⟩
    have := h.2.2
    cases hw : wantedL ops L o with
    | none => rw [hw] at this; cases this
    | some b => rw [hw] at this; simp at this; rw [this]
theorem wpList_wanted (hw : Region.wanted o (yielded ops a.tmps) = true) (h : o.wp P a w (wpList P ops Q rest) Q) : wpList P ops Q (o :: rest) a w := by
  unfold wpList
  rw [if_pos hw]
  exact .inl h
/-- An operation that yields a value. -/
theorem Sl.valW (H : Sl n L a) (d : Nat) (v : Value) (hc : chk ops n L o d = true)
    (hx : (execOp (ev L) o).run P w = .ok (.value v) w') (k : ∀ a', Sl n ((d, v) :: L) a' → wpList P ops Q rest a' w') : wpList P ops Q (o :: rest) a w := by
  obtain ⟨hd, hn, hk, hs, hw⟩ := chk_spec hc
  refine wpList_wanted (H.wanted hw) ?_
  unfold Oper.wp
  rw [H.exec hk hs, hx, Oper.upon_value, hd]
  exact k _ (H.put v hn)
theorem Sl.val (H : Sl n L a) (d : Nat) (v : Value) (hc : chk ops n L o d = true)
    (hx : (execOp (ev L) o).run P w = .ok (.value v) w) (k : ∀ a', Sl n ((d, v) :: L) a' → wpList P ops Q rest a' w) : wpList P ops Q (o :: rest) a w := H.valW d v hc hx k
/-- The same, the value in other words. -/
theorem Sl.valE (H : Sl n L a) (d : Nat) (u v : Value) (hc : chk ops n L o d = true)
    (hx : (execOp (ev L) o).run P w = .ok (.value u) w) (hv : u = v) (k : ∀ a', Sl n ((d, v) :: L) a' → wpList P ops Q rest a' w) : wpList P ops Q (o :: rest) a w := by
  subst hv; exact H.val d u hc hx k
/-- An operation that is not wanted. -/
theorem Sl.skip (H : Sl n L a) (d : Nat) (hc : chkSkip ops n L o d = true) (k : ∀ a', Sl n ((d, undef) :: L) a' → wpList P ops Q rest a' w) : wpList P ops Q (o :: rest) a w := by
  obtain ⟨hd, hn, hw⟩ := chkSkip_spec hc
  unfold wpList
  rw [if_neg (by rw [H.wanted hw]; simp), hd]
  exact k _ (H.put undef hn)
/-- A new block. -/
theorem Sl.alloc {w0 : World} {LH : List HB} {K : List FK} (H : Sl n L a) (HP : Hp w0 w LH K) (d : Nat) (V : Nat → Value) (t : TypeId) (vs : List Value) (hc : chk ops n L o d = true)
    (hx : ∀ w, (execOp (ev L) o).run P w = .ok (.value (V w.heap.size)) (w.alloc (.cells vs.toArray t)))
    (k : ∀ b w' a', Sl n ((d, V b) :: L) a' → Hp w0 w' (bx b t vs true :: LH) K → wpList P ops Q rest a' w') : wpList P ops Q (o :: rest) a w :=
  H.valW d _ hc (hx w) fun a' H' => k _ _ a' H' (HP.alloc t vs)
/-- A store into a held block. -/
theorem Sl.store {w0 : World} {LH : List HB} {K : List FK} {t : TypeId} {x y : Operand} {ty : TypeId} {pos : String} {af : Array Edge} {g : Option (Nat × Bool)} (H : Sl n L a) (HP : Hp w0 w LH K) (i b off k : Nat) (tb : TypeId) (us : List Value) (f : Bool) (v : Value) (LH' : List HB)
    (hc : chk0 ops L ⟨none, .store t x y, ty, pos, af, g⟩ = true) (hx : ev L x = .pointer (some ⟨b, off, none⟩)) (hy : ev L y = v) (hi : LH[i]? = some (bx b tb us f)) (hs : sizeB P t = some k) (hv : v.cells.size = k) (h1 : oneCells v.cells.toList = true) (hl : Nat.ble (off + v.cells.toList.length) us.length = true)
    (hL : LH.set i (bx b tb (setAll us off v.cells.toList) f) = LH')
    (kk : ∀ w' a', Sl n L a' → Hp w0 w' LH' K → wpList P ops Q rest a' w') : wpList P ops Q (⟨none, .store t x y, ty, pos, af, g⟩ :: rest) a w := by
  obtain ⟨hd, hk, hs', hw⟩ := chk0_spec hc
  refine wpList_wanted (H.wanted hw) ?_
  obtain ⟨w', hr, hw'⟩ := run_storeCells (P := P) (off := off) v.cells.toList us 0 w LH K HP hi h1 (by simpa [Nat.ble_eq] using hl)
  unfold Oper.wp
  rw [H.exec hk hs']
  simp only [execOp, hx, hy, Instr.storeAt, Instr.sureAddr, storeVar, Sem.run_bind, Sem.run_pure, Result.andThen_ok, run_sizeOf hs, hv]
  simp only [ne_eq, not_true_eq_false, if_false, hr, Result.andThen_ok, Oper.upon_skip]
  exact kk w' _ H (hL ▸ hw')
/-- A call of a Go function. -/
theorem Sl.call (H : Sl n L a) (d : Nat) {f : FuncId} {args : Array Value} {R : Ending → World → Prop} (hc : chk ops n L o d = true)
    (hx : (execOp (ev L) o).run P w = .ok (.enter f args) w') (hC : Calls P f args w' R) (k : ∀ e w'', R e w'' → ∃ v, e = .returned v ∧ ∀ a', Sl n ((d, v) :: L) a' → wpList P ops Q rest a' w'') : wpList P ops Q (o :: rest) a w := by
  obtain ⟨hd, hn, hk, hs, hw⟩ := chk_spec hc
  refine wpList_wanted (H.wanted hw) ?_
  unfold Oper.wp
  rw [H.exec hk hs, hx, Oper.upon_enter]
  refine hC.mono fun e w'' he => ?_
  obtain ⟨v, rfl, hv⟩ := k e w'' he
  rw [hd]
  exact hv _ (H.put v hn)
theorem Sl.call0 (H : Sl n L a) {f : FuncId} {args : Array Value} {R : Ending → World → Prop} (hc : chk0 ops L o = true)
    (hx : (execOp (ev L) o).run P w = .ok (.enter f args) w') (hC : Calls P f args w' R) (k : ∀ e w'', R e w'' → ∃ v, e = .returned v ∧ ∀ a', Sl n L a' → wpList P ops Q rest a' w'') : wpList P ops Q (o :: rest) a w := by
  obtain ⟨hd, hk, hs, hw⟩ := chk0_spec hc
  refine wpList_wanted (H.wanted hw) ?_
  unfold Oper.wp
  rw [H.exec hk hs, hx, Oper.upon_enter]
  refine hC.mono fun e w'' he => ?_
  obtain ⟨v, rfl, hv⟩ := k e w'' he
  rw [hd]
  exact hv _ H
end
/-- A slot's bool is decided. -/
theorem Sl.split {n : Nat} {L : List (Nat × Value)} {a : Act} {e : Bool} {G : Prop} (H : Sl n L a) (d : Nat) (hl : look d L = some (.bool e)) (ht : e = true → Sl n ((d, .bool true) :: L) a → G) (hf : e = false → Sl n ((d, .bool false) :: L) a → G) : G := by
  have aux : ∀ b, e = b → Sl n ((d, .bool b) :: L) a := fun b hb => ⟨H.defers, H.size, fun k v hk => by
    rw [look_cons] at hk
    by_cases h : d = k
    · subst h; rw [if_pos rfl] at hk; cases hk; rw [← hb]; exact H.get _ _ hl
    · rw [if_neg h] at hk; exact H.get k v hk⟩
  cases he : e with
  | true => exact ht he (aux true he)
  | false => exact hf he (aux false he)
/-- A slot's value in other words. -/
theorem Sl.as {n : Nat} {L : List (Nat × Value)} {a : Act} {u : Value} (H : Sl n L a) (d : Nat) (v : Value) (hl : look d L = some u) (hv : u = v) : Sl n ((d, v) :: L) a :=
  ⟨H.defers, H.size, fun k x hk => by
    rw [look_cons] at hk
    by_cases h : d = k
    · subst h; rw [if_pos rfl] at hk; cases hk; rw [← hv]; exact H.get _ _ hl
    · rw [if_neg h] at hk; exact H.get k x hk⟩

/-! ### Code -/
section
variable {P : Program} {Q : Exit → Act → World → Prop} {a : Act} {w : World} {n : Nat} {L : List (Nat × Value)}
/-- A piece of code is walked to a point that is described. -/
theorem w_cut {x y : Code} (M : Act → World → Prop) (h : x.wp P (Exit.then M Q) a w) (k : ∀ a w, M a w → y.wp P Q a w) : (Code.seq x y).wp P Q a w :=
  wp_seq (Code.wp_mono (fun e a w q => by cases e <;> first | exact k _ _ q | exact q) h)
theorem w_region {id : Nat} {l : List Oper} (h : wpList P l.toArray Q l a w) : (Code.region id l.toArray false).wp P Q a w := wp_region_lit h
theorem w_if {x y : Code} {t : Nat} {e : Bool} (H : Sl n L a) (hl : look t L = some (.bool e)) (ht : e = true → x.wp P Q a w) (hf : e = false → y.wp P Q a w) : (Code.cond (.tmp t) x y).wp P Q a w :=
  wp_cond_split (t := e) (by simp only [Act.eval]; exact H.get t _ hl) ht hf
theorem w_ift {x y : Code} {t : Nat} (H : Sl n L a) (hl : look t L = some (.bool true)) (h : x.wp P Q a w) : (Code.cond (.tmp t) x y).wp P Q a w :=
  wp_cond_true (by simp only [Act.eval]; exact H.get t _ hl) h
theorem w_iff {x y : Code} {t : Nat} (H : Sl n L a) (hl : look t L = some (.bool false)) (h : y.wp P Q a w) : (Code.cond (.tmp t) x y).wp P Q a w :=
  wp_cond_false (by simp only [Act.eval]; exact H.get t _ hl) h
theorem then_normal {K : Act → World → Prop} (h : K a w) : Exit.then K Q .normal a w := h
theorem then_ret {K : Act → World → Prop} (h : Q .ret a w) : Exit.then K Q .ret a w := h
theorem then_exit {K : Act → World → Prop} {id : Nat} (h : Q (.exit id) a w) : Exit.then K Q (.exit id) a w := h
theorem inb_normal {id : Nat} (h : Q .normal a w) : Exit.inBlock id Q .normal a w := h
theorem inb_ret {id : Nat} (h : Q .ret a w) : Exit.inBlock id Q .ret a w := h
theorem w_enter {f : FuncId} {fn : Func} {c : Code} {args : List Value} {R : Ending → World → Prop} (n : Nat) (L : List (Nat × Value)) (hf : P.funcs[f]? = some fn) (hb : fn.body = some c) (hn : fn.ntmps = n)
    (hle : Nat.ble args.length n = true) (hk : (L.map fun p => look p.1 (args.zipIdx.map fun p => (p.2, p.1))) = L.map fun p => some p.2) (k : ∀ a, Sl n L a → c.wp P (bodyPost P fn R) a w) : Calls P f args.toArray w R := by
  refine calls_of_wp hf hb ?_
  rw [hn]
  exact k _ (Sl.enter args n L hle hk)
theorem w_exit_here {id : Nat} (h : Q .normal a w) : Exit.inBlock id Q (.exit id) a w := by simp only [Exit.inBlock, if_true]; exact h
theorem w_exit_far {id id' : Nat} (hne : Nat.beq id' id = false) (h : Q (.exit id') a w) : Exit.inBlock id Q (.exit id') a w := by
  have : ¬ id' = id := fun e => by subst e; simp at hne
  simp only [Exit.inBlock, this, if_false]; exact h
/-- A loop with a relation that has a number that falls. -/
theorem w_loop {c : Code} (I : Nat → Act → World → Prop) (m : Nat) (h0 : I m a w) (round : ∀ m a w, I m a w → c.wp P (Exit.then (fun a' w' => ∃ m', m' < m ∧ I m' a' w') Q) a w) : (Code.loop c).wp P Q a w := by
  classical
  have hex : ∀ a w, (∃ m, I m a w) → ∃ m, I m a w ∧ ∀ k, I k a w → m ≤ k := by
    intro a w ⟨m, hm⟩
    induction m using Nat.strongRecOn with
    | _ m ih =>
      by_cases h : ∃ k, k < m ∧ I k a w
      · obtain ⟨k, hk, hI⟩ := h; exact ih k hk hI
      · exact ⟨m, hm, fun k hk => Nat.le_of_not_lt fun hlt => h ⟨k, hlt, hk⟩⟩
  let μ : Act → World → Nat := fun a w => if h : ∃ m, I m a w then Classical.choose (hex a w h) else 0
  refine wp_loop (fun a w => ∃ m, I m a w) μ ⟨m, h0⟩ fun a w hI => ?_
  have hμ : μ a w = Classical.choose (hex a w hI) := by simp only [μ, dif_pos hI]
  have hs := Classical.choose_spec (hex a w hI)
  rw [← hμ] at hs
  refine Code.wp_mono (fun e a' w' q => ?_) (round (μ a w) a w hs.1)
  cases e with
  | normal =>
    obtain ⟨m', hlt, hI'⟩ := q
    refine ⟨⟨m', hI'⟩, ?_⟩
    have hμ' : μ a' w' = Classical.choose (hex a' w' ⟨m', hI'⟩) := by simp only [μ, dif_pos (show ∃ m, I m a' w' from ⟨m', hI'⟩)]
    have hs' := (Classical.choose_spec (hex a' w' ⟨m', hI'⟩)).2 m' hI'
    rw [← hμ'] at hs'
    exact Nat.lt_of_le_of_lt hs' hlt
  | _ => exact q
end
/-! ### Numbers and tests -/
theorem wrap_ini64 (n : Int) (h : -9223372036854775808 ≤ n ∧ n ≤ 9223372036854775807) : IntKind.i64.wrap n = n := IntWalk.i64_in n (by omega)
theorem wrap_inu64 (n : Int) (h : 0 ≤ n ∧ n ≤ 18446744073709551615) : IntKind.u64.wrap n = n := by
  simp only [IntKind.wrap, IntKind.bits, IntKind.signed, Bool.false_and, Bool.false_eq_true, if_false]
  omega
theorem wrap_inu8 (n : Int) (h : 0 ≤ n ∧ n ≤ 255) : IntKind.u8.wrap n = n := by
  simp only [IntKind.wrap, IntKind.bits, IntKind.signed, Bool.false_and, Bool.false_eq_true, if_false]
  omega
theorem tdiv_nn (a b : Int) (h : 0 ≤ a) : a.tdiv b = a / b := Int.tdiv_eq_ediv_of_nonneg h
theorem tmod_nn (a b : Int) (h : 0 ≤ a) : a.tmod b = a % b := Int.tmod_eq_emod_of_nonneg h
theorem eq_of_bne_false {a b : Int} (h : (a != b) = false) : a = b := by simpa using h
theorem not_is_true {b : Bool} (h : (!b) = true) : b = false := by simpa using h
theorem not_is_false {b : Bool} (h : (!b) = false) : b = true := by simpa using h
theorem Hp.oldc {w0 w : World} {L : List HB} {K : List FK} (H : Hp w0 w L K) (hf : (L.all fun x => x.fresh) = true) {p : Addr} {v : Value} (h : w0.cell? p = some v) : w.cell? p = some v :=
  ((H.below hf).cell (World.block_lt_of_cell? _ _ h)).trans h
theorem cells2 {w : World} {b off : Nat} {u v : Value} (h0 : w.cell? ⟨b, off, none⟩ = some u) (h1 : w.cell? ⟨b, off + 1, none⟩ = some v) : cellsAt w b off [u, v] := fun i x hx => by
  match i, hx with
  | 0, hx => cases hx; exact h0
  | 1, hx => cases hx; exact h1
  | i + 2, hx => cases hx
theorem cells3 {w : World} {b off : Nat} {u v y : Value} (h0 : w.cell? ⟨b, off, none⟩ = some u) (h1 : w.cell? ⟨b, off + 1, none⟩ = some v) (h2 : w.cell? ⟨b, off + 2, none⟩ = some y) : cellsAt w b off [u, v, y] := fun i x hx => by
  match i, hx with
  | 0, hx => cases hx; exact h0
  | 1, hx => cases hx; exact h1
  | 2, hx => cases hx; exact h2
  | i + 3, hx => cases hx
theorem ex_index {P : Program} {ρ : Operand → Value} {w : World} {t e : TypeId} {x y : Operand} {dst : Option Tmp} {ty : TypeId} {pos : String} {af : Array Edge} {g : Option (Nat × Bool)} {b off len cap m k : Nat} {i : Int} {ik : IntKind}
    (hx : ρ x = .slice (some ⟨b, off, none⟩) len cap) (hy : ρ y = .int ik i) (hm : i = m) (hlt : m < len) (hu : P.underlying t = some (.slice e)) (hs : sizeB P e = some k) : (execOp ρ ⟨dst, .indexAddr t x y, ty, pos, af, g⟩).run P w = .ok (.value (.pointer (some ⟨b, off + m * k, none⟩))) w := by
  subst hm
  have h1 : (0 : Int) ≤ m ∧ (m : Int) < len := by omega
  simp only [execOp, hx, hy, Instr.indexAt, asIntOf, underlying, program, Sem.run_bind, Sem.run_pure, Result.andThen_ok, Sem.run, hu, h1, and_self, if_true, run_sizeOf hs, add_plain, Int.toNat_natCast]
/-! ### The end -/
section
variable {P : Program} {fn : Func} {R : Ending → World → Prop} {a : Act} {w : World} {n : Nat} {L : List (Nat × Value)}
/-- What a result reads as. -/
def RV (P : Program) (w : World) (L : List (Nat × Value)) : ResultVar → Value → Prop
  | .tmp t, v => look t L = some v
  | .cell p t, v => ∃ q, look p L = some (.pointer (some q)) ∧ (loadVar t q).run P w = .ok v w
def resOf (tmps : Array Value) : ResultVar → Sem Value
  | .tmp t => pure (tmps.getD t undef)
  | .cell p t => do loadVar t (← asAddr (tmps.getD p undef))
theorem results_of (fn : Func) (tmps : Array Value) : results fn tmps = (do let vs ← fn.results.mapM (resOf tmps); pure (if h : vs.size = 1 then vs[0] else .tuple vs)) := by
  have : resOf tmps = (fun | .tmp t => pure (tmps.getD t undef) | .cell a t => do loadVar t (← asAddr (tmps.getD a undef))) := by
    funext r; cases r <;> rfl
  rw [this]
  rfl
theorem RV.run (H : Sl n L a) {r : ResultVar} {v : Value} (h : RV P w L r v) : (resOf a.tmps r).run P w = .ok v w := by
  cases r with
  | tmp t => simp only [resOf, H.get t v h, Sem.run_pure]
  | cell p t =>
    obtain ⟨q, hq, hl⟩ := h
    simp only [resOf, H.get p _ hq, asAddr, Sem.run_bind, Sem.run_pure, Result.andThen_ok, hl]
theorem Sl.ret1 (H : Sl n L a) {r : ResultVar} {v : Value} (hr : fn.results = #[r]) (h : RV P w L r v) (hR : R (.returned v) w) : bodyPost P fn R .ret a w := by
  refine ⟨H.defers, v, ?_, hR⟩
  rw [results_of, hr]
  simp [h.run H]
theorem Sl.ret2 (H : Sl n L a) {r s : ResultVar} {v u : Value} (hr : fn.results = #[r, s]) (h : RV P w L r v) (h' : RV P w L s u) (hR : R (.returned (.tuple #[v, u])) w) : bodyPost P fn R .ret a w := by
  refine ⟨H.defers, _, ?_, hR⟩
  rw [results_of, hr]
  simp [h.run H, h'.run H]
theorem Sl.ret3 (H : Sl n L a) {r s t : ResultVar} {v u x : Value} (hr : fn.results = #[r, s, t]) (h : RV P w L r v) (h' : RV P w L s u) (h'' : RV P w L t x) (hR : R (.returned (.tuple #[v, u, x])) w) : bodyPost P fn R .ret a w := by
  refine ⟨H.defers, _, ?_, hR⟩
  rw [results_of, hr]
  simp [h.run H, h'.run H, h''.run H]
theorem Sl.ret0 (H : Sl n L a) (hr : fn.results = #[]) (hR : R (.returned (.tuple #[])) w) : bodyPost P fn R .ret a w := by
  refine ⟨H.defers, _, ?_, hR⟩
  unfold results
  rw [hr]
  simp
theorem Sl.end0 (H : Sl n L a) (hr : fn.results = #[]) (hR : R (.returned (.tuple #[])) w) : bodyPost P fn R .normal a w := by
  refine ⟨H.defers, _, ?_, hR⟩
  unfold results
  rw [hr]
  simp
theorem RV.tmp_ {t : Nat} {v : Value} (h : look t L = some v) : RV P w L (.tmp t) v := h
theorem RV.cellN {p t b off k : Nat} {vs : List Value} (hl : look p L = some (.pointer (some ⟨b, off, none⟩))) (ha : aggB P t = some true) (hs : sizeB P t = some k) (hk : vs.length = k) (hc : cellsAt w b off vs) : RV P w L (.cell p t) (.agg vs.toArray) :=
  ⟨_, hl, run_loadVarN ha hs hk hc⟩
theorem RV.cell1 {p t : Nat} {q : Addr} {v : Value} (hl : look p L = some (.pointer (some q))) (ha : aggB P t = some false) (hc : w.cell? q = some v) : RV P w L (.cell p t) v :=
  ⟨_, hl, run_loadVar1 ha hc⟩
end
end Go.Proofs.YtgdjpaeclicdfaaDoor
