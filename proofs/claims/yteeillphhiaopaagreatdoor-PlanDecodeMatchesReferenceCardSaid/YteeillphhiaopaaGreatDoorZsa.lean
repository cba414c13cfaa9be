/- Part 1 of the proofs: Base, Base2, Sym, SymD, SymA, PlA, PlB, SymQ, SymK, SymM, SymP, Shelf, Build, SymC, SymS, BldW, PlC, PlR, SymZ. -/
import Derived.Test.YteeillphhiaopaaGreatDoorRows
import Derived.WalkKit
import Derived.ProofKit
import Derived.OpenShut
import Derived.Outline
import Derived.LoopTactic
import Derived.WalkMore
import Derived.WalkSpells
import Derived.Lib.Hide
import Derived.IntWalk
import Derived.Deep.DeepCutAuto
import Derived.Deep.AppendLies
import Derived.Deep.RegionLaw
import Derived.Laws.AppendOwnNone
import Derived.Maps.AppendAt
import Derived.RangeFuncBox
import Derived.OrdersHeld
import Derived.MapFrom
import Derived.KernelRfl
import Derived.Shelf.Strings.Builder1
import Derived.Shelf.Strings.BuilderF
import Derived.Shelf.Strings.BuilderK
import Derived.Test.YteeillphhiaopaaGreatDoorProg
import Derived.Lib.Builder
import Derived.Laws.Strings2
import Derived.Laws.Concat
import Derived.Laws.BytesString
import Derived.Laws.BitsAllLaws
import Derived.Laws.IdiomStrings
import Derived.Lib.FrozenHead
import Derived.Laws.StructEq
namespace Go.Proofs.YteeillphhiaopaaGreatDoor
set_option maxRecDepth 100000
set_option maxHeartbeats 4000000
open Go.ChangeShapes Go.WideShapes Go.ChangeAt Go.RowKit
set_option linter.unusedVariables false
theorem bnext {w v v' : World} (h : Below w.heap.size w v) (hb : Below v.heap.size v v') : Below w.heap.size w v' := h.trans (hb.mono h.size)
theorem balloc (w : World) (o : Obj) : Below w.heap.size w (w.alloc o) := (Below.refl _ _).alloc (Nat.le_refl _) _
def Rd (w : World) (size : Nat) (A : Option Addr) (n : Nat) (xs : List Value) : Prop :=
  xs.length = n * size ∧ (n = 0 ∨ ∃ b off, A = some ⟨b, off, none⟩ ∧ b < w.heap.size ∧ ∀ i, i < n * size → w.cell? ⟨b, off + i, none⟩ = xs[i]?)
theorem Rd.below {w w' : World} {size : Nat} {A : Option Addr} {n : Nat} {xs : List Value} (h : Rd w size A n xs) (hb : Below w.heap.size w w') : Rd w' size A n xs := by
  obtain ⟨h1, h2⟩ := h
  refine ⟨h1, ?_⟩
  rcases h2 with h2 | ⟨b, off, rfl, hlt, hc⟩
  · exact .inl h2
  · exact .inr ⟨b, off, rfl, Nat.lt_of_lt_of_le hlt hb.size, fun i hi => (hb.cell (p := ⟨b, off + i, none⟩) hlt).trans (hc i hi)⟩
theorem Rd.of_own {w : World} {base size : Nat} {e : TypeId} {A : Option Addr} {n c : Nat} {xs : List Value} (h : w.ownsRow base e size (.slice A n c) n xs) : Rd w size A n xs := by
  refine ⟨h.1, ?_⟩
  by_cases hn : n = 0
  · exact .inl hn
  · obtain ⟨g, cap, hv, _, hlt⟩ := h.form (by omega)
    have hA : A = some ⟨g, 0, none⟩ := by injection hv
    subst hA
    refine .inr ⟨g, 0, rfl, hlt, fun i hi => ?_⟩
    have hi' : i < xs.length := by rw [h.1]; exact hi
    have := h.cells (g := g) rfl i _ (List.getElem?_eq_getElem hi')
    rw [List.getElem?_eq_getElem hi', ← this]
    unfold Addr.add
    split
    · subst i; rfl
    · simp
theorem Rd.take {w : World} {size : Nat} {A : Option Addr} {n : Nat} {xs : List Value} (h : Rd w size A n xs) {k : Nat} (hk : k ≤ n) :
    Rd w size A k (xs.take (k * size)) := by
  obtain ⟨h1, h2⟩ := h
  have hm : k * size ≤ n * size := Nat.mul_le_mul_right _ hk
  refine ⟨by rw [List.length_take, h1]; omega, ?_⟩
  rcases h2 with h2 | ⟨b, off, rfl, hlt, hcell⟩
  · exact .inl (by omega)
  · exact .inr ⟨b, off, rfl, hlt, fun i hi => by rw [hcell i (by omega), List.getElem?_take, if_pos hi]⟩
theorem Rd.nil (w : World) (size : Nat) (A : Option Addr) : Rd w size A 0 [] := ⟨by simp, .inl rfl⟩
theorem Rd.cell {w : World} {A : Option Addr} {n : Nat} {xs : List Value} (h : Rd w 1 A n xs) {i : Nat} (hi : i < n) :
    ∃ b off v, A = some ⟨b, off, none⟩ ∧ b < w.heap.size ∧ xs[i]? = some v ∧ w.cell? ⟨b, off + i, none⟩ = some v := by
  obtain ⟨h1, h2⟩ := h
  obtain ⟨b, off, rfl, hb, hc⟩ := h2.resolve_left (by omega)
  have hl : i < xs.length := by omega
  exact ⟨b, off, xs[i], rfl, hb, List.getElem?_eq_getElem hl, (hc i (by omega)).trans (List.getElem?_eq_getElem hl)⟩
section
variable {P : Program} (w : World)
theorem wp_append_rd {o : Oper} {a : Act} {K : Act → World → Prop} {Q : Exit → Act → World → Prop} (s x : Operand) (t : TypeId)
    (ho : o.op = .call { callee := .builtin .append, args := #[s, x], argTypes := #[t, t] })
    (base : Nat) (e : TypeId) (i : TypeInfo) (z : Value) (size bytes : Nat) (ht : P.underlying t = some (.slice e)) (hi : P.info? e = some i) (hz : i.zero = some z)
    (hsize : i.size = size) (hby : i.bytes = bytes) (hzs : z.cells.size = size) (hsz : 0 < size)
    (v : Value) (n : Nat) (xs : List Value) (hs : a.eval s = v) (hown : w.ownsRow base e size v n xs)
    (A : Option Addr) (m c : Nat) (news : List Value) (hx : a.eval x = .slice A m c) (hA : A = none → m = 0 ∧ c = 0) (hr : Rd w size A m news) (h1 : ∀ u ∈ news, u.oneCell' = true)
    (h63 : n + m ≤ maxLen) (hbytes : (n + m) * bytes ≤ 140737488355328) (hbase : base ≤ w.heap.size)
    (h : ∀ B c' w', w'.ownsRow base e size (.slice B (n + m) c') (n + m) (xs ++ news) → w.grownBy w' v.ownBlock → ((Value.slice B (n + m) c').ownBlock = v.ownBlock ∨ (Value.slice B (n + m) c').ownBlock = some w.heap.size) → K (a.put o.dst (.slice B (n + m) c')) w') : o.wp P a w K Q := by
  have form : ∀ (v' : Value) (w' : World) (k : Nat) (ys : List Value), w'.ownsRow base e size v' k ys → ∃ B c', v' = .slice B k c' := by
    intro v' w' k ys hw
    rcases hw.2 with ⟨rfl, rfl⟩ | ⟨g, cap, cur, rfl, _⟩
    · exact ⟨_, _, rfl⟩
    · exact ⟨_, _, rfl⟩
  cases A with
  | none =>
    obtain ⟨rfl, rfl⟩ := hA rfl
    have hn : news = [] := List.eq_nil_of_length_eq_zero (by simpa using hr.1)
    subst hn
    have hrun := run_append_owned_none (P := P) (w := w) base t o.type e i size ht hi v n xs hown
    unfold Oper.wp
    simp [execOp, ho, resolve, invoke, builtin, hs, hx, hrun, Result.andThen]
    obtain ⟨B, c', rfl⟩ := form v w n xs hown
    exact h B c' w (by simpa using hown) ⟨rfl, rfl, rfl, Nat.le_refl _, fun _ _ _ => rfl⟩ (.inl rfl)
  | some ad =>
    have hnews : ∀ j u, news[j]? = some u → w.cell? (ad.add j) = some u := by
      intro j u hu
      have hj : j < m * size := by rw [← hr.1]; exact (List.getElem?_eq_some_iff.1 hu).1
      rcases hr.2 with h0 | ⟨b, off, he, hlt, hcell⟩
      · subst h0; omega
      · cases he
        rw [← hu, ← hcell j hj]
        unfold Addr.add
        split
        · subst j; rfl
        · rfl
    obtain ⟨v', w', hrun, h2, h3, _, h5⟩ := run_append_own_at (P := P) w base t o.type e i z size bytes ht hi hz hsize hby hzs hsz v n xs hown ad m c news hr.1 hnews h1 h63 hbytes hbase
    obtain ⟨B, c', rfl⟩ := form v' w' _ _ h2
    unfold Oper.wp
    simp [execOp, ho, resolve, invoke, builtin, hs, hx, hrun, Result.andThen]
    exact h B c' w' h2 h3 h5
end
def IsInts (w : World) (a : Option Addr) (len : Nat) (zs : List Int) : Prop :=
  zs.length = len ∧ (len = 0 ∨ ∃ b off, a = some ⟨b, off, none⟩ ∧ b < w.heap.size ∧ ∀ i, i < len → w.cell? ⟨b, off + i, none⟩ = some (.int .i64 (zs.getD i 0)))
theorem IsInts.below {w w' : World} {a : Option Addr} {len : Nat} {zs : List Int} (h : IsInts w a len zs) (hb : Below w.heap.size w w') : IsInts w' a len zs := by
  obtain ⟨h1, h2⟩ := h
  refine ⟨h1, ?_⟩
  rcases h2 with h2 | ⟨b, off, rfl, hlt, hc⟩
  · exact .inl h2
  · exact .inr ⟨b, off, rfl, Nat.lt_of_lt_of_le hlt hb.size, fun i hi => by rw [hb.cell (p := ⟨b, off + i, none⟩) hlt]; exact hc i hi⟩
theorem IsInts.nil (w : World) (a : Option Addr) : IsInts w a 0 [] := ⟨rfl, .inl rfl⟩
theorem own_facts {w : World} {base : Nat} {e : TypeId} {size n c : Nat} {B : Option Addr} {xs : List Value} (h : w.ownsRow base e size (.slice B n c) n xs) : n ≤ c ∧ c ≤ maxLen ∧ (B = none → c = 0) := by
  rcases h.2 with ⟨hv, rfl⟩ | ⟨g, cap, cur, hv, _, _, h1, h2, _⟩
  · cases hv; exact ⟨Nat.le_refl _, Nat.zero_le _, fun _ => rfl⟩
  · cases hv; exact ⟨h1, h2, fun e => by cases e⟩
abbrev pairs (al : List (Int × Int)) : List Value := al.flatMap fun a => [.int .i64 a.1, .int .i64 a.2]
theorem pairs_get (al : List (Int × Int)) (i : Nat) (h : i < al.length) : (pairs al)[i * 2]? = some (.int .i64 al[i].1) ∧ (pairs al)[i * 2 + 1]? = some (.int .i64 al[i].2) := by
  induction al generalizing i with
  | nil => simp at h
  | cons a al ih =>
    cases i with
    | zero => exact ⟨rfl, rfl⟩
    | succ i =>
      have := ih i (by simpa using h)
      rw [show (i + 1) * 2 = i * 2 + 1 + 1 by omega]
      exact this
def IsAlts (w : World) (A : Option Addr) (n : Nat) (al : List (Int × Int)) : Prop := al.length = n ∧ Rd w 2 A n (pairs al)
theorem IsAlts.below {w w' : World} {A : Option Addr} {n : Nat} {al : List (Int × Int)} (h : IsAlts w A n al) (hb : Below w.heap.size w w') : IsAlts w' A n al := ⟨h.1, h.2.below hb⟩
theorem IsAlts.nil (w : World) (A : Option Addr) : IsAlts w A 0 [] := ⟨rfl, Rd.nil _ _ _⟩
theorem IsAlts.at_ {w : World} {A : Option Addr} {n : Nat} {al : List (Int × Int)} (h : IsAlts w A n al) {i : Nat} (hi : i < n) :
    ∃ b off, A = some ⟨b, off, none⟩ ∧ b < w.heap.size ∧ w.cell? ⟨b, off + i * 2, none⟩ = some (.int .i64 (al.getD i (0, 0)).1) ∧ w.cell? ⟨b, off + i * 2 + 1, none⟩ = some (.int .i64 (al.getD i (0, 0)).2) := by
  obtain ⟨h1, h2, h3⟩ := h
  obtain ⟨b, off, rfl, hb, hc⟩ := h3.resolve_left (by omega)
  have hg := pairs_get al i (by omega)
  have e : al.getD i (0, 0) = al[i]'(by omega) := by simp [List.getD, List.getElem?_eq_getElem (show i < al.length by omega)]
  rw [e]
  exact ⟨b, off, rfl, hb, (hc (i * 2) (by omega)).trans hg.1, by rw [Nat.add_assoc]; exact (hc (i * 2 + 1) (by omega)).trans hg.2⟩
def Box (w : World) (b : Nat) (t : TypeId) (vs : Array Value) : Prop := w.heap[b]? = some (.cells vs t)
theorem Box.new (w : World) (t : TypeId) (vs : Array Value) : Box (w.alloc (.cells vs t)) w.heap.size t vs := heap_alloc_new w _
theorem Box.lt {w : World} {b : Nat} {t : TypeId} {vs : Array Value} (h : Box w b t vs) : b < w.heap.size := (Array.getElem?_eq_some_iff.1 h).1
theorem Box.below {w w' : World} {k b : Nat} {t : TypeId} {vs : Array Value} (h : Box w b t vs) (hb : Below k w w') (hk : b < k) : Box w' b t vs := (hb.block b hk).trans h
theorem Box.next {w w' : World} {b : Nat} {t : TypeId} {vs : Array Value} (h : Box w b t vs) (hb : Below w.heap.size w w') : Box w' b t vs := h.below hb h.lt
theorem Box.cell {w : World} {b : Nat} {t : TypeId} {vs : Array Value} (h : Box w b t vs) {i : Nat} {v : Value} (hv : vs[i]? = some v) : w.cell? ⟨b, i, none⟩ = some v := by
  unfold Box at h
  unfold World.cell?
  simp [h, hv]
theorem Box.set {w : World} {b i : Nat} {t : TypeId} {vs : Array Value} (h : Box w b t vs) (v : Value) : Box (w.setCell ⟨b, i, none⟩ v) b t (vs.setIfInBounds i v) := by
  unfold Box at *
  simp only [World.setCell, Array.getElem?_modify, if_true, h, Option.map_some]
  simp
theorem Box.frozen {w : World} {b : Nat} {t : TypeId} {vs : Array Value} (h : Box w b t vs) (i : Nat) : w.frozen? ⟨b, i, none⟩ = false := by
  unfold Box at h
  simp [World.frozen?, h]
def look (k : Nat) : List (Nat × Value) → Option Value
  | [] => none
  | p :: L => bif Nat.beq p.1 k then some p.2 else look k L
def ev (L : List (Nat × Value)) : Operand → Value
  | .tmp t => (look t L).getD undef
  | .const v => v
  | .global g => .pointer (some ⟨g, 0, none⟩)
  | .func f => .func (.func f) #[] #[]
def knows (L : List (Nat × Value)) : Operand → Bool
  | .tmp t => (look t L).isSome
  | _ => true
def knowsAll (L : List (Nat × Value)) : List Operand → Bool
  | [] => true
  | x :: xs => knows L x && knowsAll L xs
def notSelect : Op → Bool
  | .select _ _ => false
  | _ => true
structure Sl (n : Nat) (L : List (Nat × Value)) (a : Act) : Prop where
  defers : a.defers = []
  size : a.tmps.size = n
  get : ∀ k v, look k L = some v → a.tmps.getD k undef = v
theorem look_cons (d k : Nat) (v : Value) (L : List (Nat × Value)) : look k ((d, v) :: L) = if d = k then some v else look k L := by
  simp only [look]
  by_cases h : d = k
  · subst h; simp
  · have : Nat.beq d k = false := by
      cases hb : Nat.beq d k with
      | false => rfl
      | true => exact absurd (Nat.eq_of_beq_eq_true hb) h
    simp [this, h]
theorem Sl.put {n d : Nat} {L : List (Nat × Value)} {a : Act} (H : Sl n L a) (v : Value) (hd : Nat.blt d n = true) : Sl n ((d, v) :: L) (a.put (some d) v) := by
  have hd' : d < n := by simp [Nat.blt] at hd; omega
  refine ⟨H.defers, by simp [Act.put, H.size], fun k u hk => ?_⟩
  rw [look_cons] at hk
  by_cases h : d = k
  · subst h
    simp only [if_true, Option.some.injEq] at hk
    subst hk
    simp [Act.put, H.size, hd']
  · rw [if_neg h] at hk
    have := H.get k u hk
    simp only [Act.put]
    rw [Array.getD_eq_getD_getElem?] at this ⊢
    rw [Array.getElem?_setIfInBounds_ne h]
    exact this
theorem Sl.eval {n : Nat} {L : List (Nat × Value)} {a : Act} (H : Sl n L a) {x : Operand} (h : knows L x = true) : a.eval x = ev L x := by
  cases x with
  | tmp t =>
    simp only [knows] at h
    cases hl : look t L with
    | none => rw [hl] at h; cases h
    | some v => simp only [Act.eval, ev, hl, Option.getD_some]; exact H.get t v hl
  | _ => rfl
theorem knowsAll_spec {L : List (Nat × Value)} : ∀ {xs : List Operand}, knowsAll L xs = true → ∀ x ∈ xs, knows L x = true
  | [], _, x, hx => by cases hx
  | y :: ys, h, x, hx => by
    simp only [knowsAll, Bool.and_eq_true] at h
    rcases List.mem_cons.1 hx with rfl | hx
    · exact h.1
    · exact knowsAll_spec h.2 x hx
theorem Sl.exec {n : Nat} {L : List (Nat × Value)} {a : Act} (H : Sl n L a) {o : Oper} (hk : knowsAll L o.op.operands.toList = true) (hs : notSelect o.op = true) : execOp a.eval o = execOp (ev L) o :=
  execOp_congr o (fun cs b e => by rw [e] at hs; cases hs) fun x hx => H.eval (knowsAll_spec hk x (by simpa using hx))
def keeps (L L' : List (Nat × Value)) : Prop := (L'.map fun p => look p.1 L) = L'.map fun p => some p.2
theorem keeps_spec {L : List (Nat × Value)} : ∀ {L' : List (Nat × Value)}, keeps L L' → ∀ k v, look k L' = some v → look k L = some v
  | [], _, k, v, h => by cases h
  | (d, u) :: L', hk, k, v, h => by
    simp only [keeps, List.map_cons, List.cons.injEq] at hk
    rw [look_cons] at h
    by_cases e : d = k
    · subst e; rw [if_pos rfl] at h; cases h; exact hk.1
    · rw [if_neg e] at h; exact keeps_spec (L' := L') hk.2 k v h
theorem Sl.keep {n : Nat} {L L' : List (Nat × Value)} {a : Act} (H : Sl n L a) (h : (L'.map fun p => look p.1 L) = L'.map fun p => some p.2) : Sl n L' a := ⟨H.defers, H.size, fun k v hk => H.get k v (keeps_spec h k v hk)⟩
theorem Sl.enter (args : List Value) (n : Nat) (L : List (Nat × Value)) (hn : Nat.ble args.length n = true) (h : keeps (args.zipIdx.map fun p => (p.2, p.1)) L) : Sl n L ⟨args.toArray ++ Array.replicate (n - args.toArray.size) undef, []⟩ := by
  have hn' : args.length ≤ n := by simpa [Nat.ble_eq] using hn
  refine ⟨rfl, by simp; omega, fun k v hk => ?_⟩
  have h1 := keeps_spec h k v hk
  have aux : ∀ (l : List Value) (i : Nat), look k ((l.zipIdx i).map fun p => (p.2, p.1)) = some v → i ≤ k ∧ l[k - i]? = some v := by
    intro l
    induction l with
    | nil => intro i hh; cases hh
    | cons x l ih =>
      intro i hh
      simp only [List.zipIdx_cons, List.map_cons] at hh
      rw [look_cons] at hh
      by_cases e : i = k
      · subst e; rw [if_pos rfl] at hh; cases hh; simp
      · rw [if_neg e] at hh
        have := ih (i + 1) hh
        refine ⟨by omega, ?_⟩
        rw [show k - i = (k - (i + 1)) + 1 by omega]
        simpa using this.2
  have h2 := aux args 0 (by simpa using h1)
  simp only [Nat.sub_zero] at h2
  have hlt := (List.getElem?_eq_some_iff.1 h2.2).1
  rw [Array.getD_eq_getD_getElem?, Array.getElem?_append_left (by simpa using hlt)]
  simp [h2.2]
def wantedL (ops : Array Oper) (L : List (Nat × Value)) (o : Oper) : Option Bool :=
  match o.guard with
  | none => some true
  | some (j, want) => match (ops[j]?).bind (·.dst) with
    | none => none
    | some d => match look d L with
      | none => none
      | some (.bool b) => some (b == want)
      | some _ => some false
theorem Sl.wanted {n : Nat} {L : List (Nat × Value)} {a : Act} (H : Sl n L a) {ops : Array Oper} {o : Oper} {b : Bool} (h : wantedL ops L o = some b) : Region.wanted o (yielded ops a.tmps) = b := by
  unfold wantedL at h
  unfold Region.wanted
  cases hg : o.guard with
  | none => rw [hg] at h; simpa using h
  | some jw =>
    obtain ⟨j, want⟩ := jw
    rw [hg] at h
    simp only at h ⊢
    unfold yielded
    cases hd : (ops[j]?).bind (·.dst) with
    | none => rw [hd] at h; cases h
    | some d =>
      rw [hd] at h
      simp only at h
      cases hl : look d L with
      | none => rw [hl] at h; cases h
      | some v =>
        rw [hl] at h
        have hv := H.get d v hl
        have hv' : a.tmps[d]? = some v ∨ (a.tmps[d]? = none ∧ v = undef) := by
          rw [Array.getD_eq_getD_getElem?] at hv
          cases hh : a.tmps[d]? with
          | none => rw [hh] at hv; exact .inr ⟨rfl, hv.symm⟩
          | some u => rw [hh] at hv; exact .inl (by simpa using hv)
        cases v with
        | bool c =>
          rcases hv' with hv' | ⟨_, hv'⟩
          · simp [hv'] at h ⊢; exact h
          · cases hv'
        | _ =>
          simp only [Option.some.injEq] at h
          subst h
          rcases hv' with hv' | ⟨hv', _⟩ <;> simp [hv']
structure HB where
  fp : Nat → Prop
  F : World → Prop
  fresh : Bool
def HB.ok (x : HB) : Prop := ∀ w1 w2, x.F w1 → (∀ k, x.fp k → w2.heap[k]? = w1.heap[k]?) → w1.heap.size ≤ w2.heap.size → x.F w2
def bx (b : Nat) (t : TypeId) (vs : List Value) (f : Bool) : HB := ⟨fun k => k = b, fun w => Box w b t vs.toArray, f⟩
theorem bx_ok (b : Nat) (t : TypeId) (vs : List Value) (f : Bool) : (bx b t vs f).ok := fun _ _ h hk _ => (hk b rfl).trans h
structure FK where
  fp : Nat → Prop
  F : World → Prop
def FK.ok (p : FK) : Prop := ∀ w1 w2, p.F w1 → (∀ k, p.fp k → w2.heap[k]? = w1.heap[k]?) → w1.heap.size ≤ w2.heap.size → p.F w2
structure Hp (w0 w : World) (L : List HB) (K : List FK) : Prop where
  os : w.os = w0.os
  tape : w.tape = w0.tape
  output : w.output = w0.output
  size : w0.heap.size ≤ w.heap.size
  old : ∀ k, k < w0.heap.size → (∀ x ∈ L, ¬ x.fp k) → w.heap[k]? = w0.heap[k]?
  res : ∀ x ∈ L, x.F w ∧ x.ok ∧ ∀ k, x.fp k → k < w.heap.size
  apart : L.Pairwise fun x y => ∀ k, x.fp k → ¬ y.fp k
  fresh : ∀ x ∈ L, x.fresh = true → ∀ k, x.fp k → w0.heap.size ≤ k
  kept : ∀ p ∈ K, p.F w ∧ p.ok ∧ ∀ k, p.fp k → k < w.heap.size ∧ ∀ x ∈ L, ¬ x.fp k
theorem Hp.start (w : World) : Hp w w [] [] := ⟨rfl, rfl, rfl, Nat.le_refl _, fun _ _ _ => rfl, (fun _ h => by cases h), .nil, (fun _ h => by cases h), (fun _ h => by cases h)⟩
theorem Hp.next {w0 w w' : World} {L : List HB} {K : List FK} (H : Hp w0 w L K) (hb : Below w.heap.size w w') : Hp w0 w' L K :=
  ⟨hb.os.trans H.os, hb.tape.trans H.tape, hb.output.trans H.output, Nat.le_trans H.size hb.size,
    fun k hk hn => (hb.block k (Nat.lt_of_lt_of_le hk H.size)).trans (H.old k hk hn),
    fun x hx => let ⟨h1, h2, h3⟩ := H.res x hx; ⟨h2 _ _ h1 (fun k hk => hb.block k (h3 k hk)) hb.size, h2, fun k hk => Nat.lt_of_lt_of_le (h3 k hk) hb.size⟩, H.apart, H.fresh,
    fun p hp => let ⟨h1, h2, h3⟩ := H.kept p hp; ⟨h2 _ _ h1 (fun k hk => hb.block k (h3 k hk).1) hb.size, h2, fun k hk => ⟨Nat.lt_of_lt_of_le (h3 k hk).1 hb.size, (h3 k hk).2⟩⟩⟩
theorem Hp.add {w0 w : World} {L : List HB} {K : List FK} (H : Hp w0 w L K) (x : HB) (hF : x.F w) (hok : x.ok) (hlt : ∀ k, x.fp k → k < w.heap.size) (hs : ∀ k, x.fp k → (∀ y ∈ L, ¬ y.fp k) ∧ ∀ p ∈ K, ¬ p.fp k) (hf : x.fresh = true → ∀ k, x.fp k → w0.heap.size ≤ k) : Hp w0 w (x :: L) K := by
  refine ⟨H.os, H.tape, H.output, H.size, fun k hk hn => H.old k hk fun y hy => hn y (List.mem_cons_of_mem _ hy), fun y hy => ?_, .cons (fun y hy k hk => (hs k hk).1 y hy) H.apart, fun y hy hfy => ?_, fun p hp => ?_⟩
  · rcases List.mem_cons.1 hy with rfl | hy
    · exact ⟨hF, hok, hlt⟩
    · exact H.res y hy
  · rcases List.mem_cons.1 hy with rfl | hy
    · exact hf hfy
    · exact H.fresh y hy hfy
  · obtain ⟨k1, k2, k3⟩ := H.kept p hp
    refine ⟨k1, k2, fun k hk => ⟨(k3 k hk).1, fun y hy => ?_⟩⟩
    rcases List.mem_cons.1 hy with rfl | hy
    · exact fun hx => (hs k hx).2 p hp hk
    · exact (k3 k hk).2 y hy
theorem Hp.apart_new {w0 w : World} {L : List HB} {K : List FK} (H : Hp w0 w L K) {k : Nat} (hk : w.heap.size ≤ k) : (∀ y ∈ L, ¬ y.fp k) ∧ ∀ p ∈ K, ¬ p.fp k :=
  ⟨fun y hy h => by have := (H.res y hy).2.2 k h; omega, fun p hp h => by have := ((H.kept p hp).2.2 k h).1; omega⟩
theorem Hp.gain {w0 w w' : World} {L : List HB} {K : List FK} (H : Hp w0 w L K) (hb : Below w.heap.size w w') (x : HB) (hF : x.F w') (hok : x.ok) (hlt : ∀ k, x.fp k → k < w'.heap.size) (hn : ∀ k, x.fp k → w.heap.size ≤ k) : Hp w0 w' (x :: L) K :=
  (H.next hb).add x hF hok hlt (fun k hk => H.apart_new (hn k hk)) fun _ k hk => Nat.le_trans H.size (hn k hk)
theorem Hp.own {w : World} {b : Nat} {t : TypeId} {vs : List Value} (h : Box w b t vs.toArray) : Hp w w [bx b t vs false] [] :=
  (Hp.start w).add (bx b t vs false) h (bx_ok _ _ _ _) (fun k hk => by cases hk; exact h.lt) (fun _ _ => ⟨(fun _ h => by cases h), (fun _ h => by cases h)⟩) fun h => by cases h
theorem Hp.alloc {w0 w : World} {L : List HB} {K : List FK} (H : Hp w0 w L K) (t : TypeId) (vs : List Value) : Hp w0 (w.alloc (.cells vs.toArray t)) (bx w.heap.size t vs true :: L) K :=
  H.gain (balloc w (.cells vs.toArray t)) (bx w.heap.size t vs true) (Box.new w t vs.toArray) (bx_ok _ _ _ _) (fun k hk => by cases hk; simp) (fun k hk => by cases hk; exact Nat.le_refl _)
theorem Hp.below {w0 w : World} {L : List HB} {K : List FK} (H : Hp w0 w L K) (hf : (L.all fun x => x.fresh) = true) : Below w0.heap.size w0 w :=
  ⟨H.os, H.tape, H.output, H.size, fun k hk => H.old k hk fun x hx h => by have := H.fresh x hx (List.all_eq_true.1 hf x hx) k h; omega⟩
theorem Hp.at_ {w0 w : World} {L : List HB} {K : List FK} (H : Hp w0 w L K) (i : Nat) {b : Nat} {t : TypeId} {vs : List Value} {f : Bool} (hi : L[i]? = some (bx b t vs f)) : Box w b t vs.toArray := (H.res _ (List.mem_of_getElem? hi)).1
theorem Hp.cell {w0 w : World} {L : List HB} {K : List FK} (H : Hp w0 w L K) (i : Nat) {b : Nat} {t : TypeId} {vs : List Value} {f : Bool} (hi : L[i]? = some (bx b t vs f)) (j : Nat) {v : Value} (hv : vs[j]? = some v) : w.cell? ⟨b, j, none⟩ = some v :=
  (H.at_ i hi).cell (by simpa using hv)
theorem pairwise_set {α : Type} {R : α → α → Prop} : ∀ {L : List α} {i : Nat} {x y : α}, L.Pairwise R → L[i]? = some x → (∀ z ∈ L, R z x → R z y) → (∀ z ∈ L, R x z → R y z) → (L.set i y).Pairwise R
  | [], _, _, _, _, h, _, _ => by cases h
  | a :: L, 0, x, y, hp, h, h1, h2 => by
    simp only [List.getElem?_cons_zero, Option.some.injEq] at h
    subst h
    cases hp with
    | cons p q => exact .cons (fun z hz => h2 z (List.mem_cons_of_mem _ hz) (p z hz)) q
  | a :: L, i + 1, x, y, hp, h, h1, h2 => by
    simp only [List.getElem?_cons_succ] at h
    cases hp with
    | cons p q =>
      refine .cons (fun z hz => ?_) (pairwise_set q h (fun z hz => h1 z (List.mem_cons_of_mem _ hz)) (fun z hz => h2 z (List.mem_cons_of_mem _ hz)))
      rcases List.mem_or_eq_of_mem_set hz with hz | rfl
      · exact p z hz
      · exact h1 a (List.mem_cons_self ..) (p x (List.mem_of_getElem? h))
theorem pairwise_at {L : List HB} (h : L.Pairwise fun x y => ∀ k, x.fp k → ¬ y.fp k) {i j : Nat} {x y : HB} (hi : L[i]? = some x) (hj : L[j]? = some y) (hne : i ≠ j) : ∀ k, x.fp k → ¬ y.fp k := by
  induction h generalizing i j with
  | nil => cases hi
  | @cons a L p q ih =>
    cases i with
    | zero =>
      cases j with
      | zero => exact absurd rfl hne
      | succ j => simp only [List.getElem?_cons_zero, Option.some.injEq] at hi; subst hi; exact p y (List.mem_of_getElem? hj)
    | succ i =>
      cases j with
      | zero => simp only [List.getElem?_cons_zero, Option.some.injEq] at hj; subst hj; exact fun k hk hk' => p x (List.mem_of_getElem? hi) k hk' hk
      | succ j => exact ih hi hj (fun e => hne (by rw [e]))
structure Agree (w w' : World) (fp : Nat → Prop) : Prop where
  os : w'.os = w.os
  tape : w'.tape = w.tape
  output : w'.output = w.output
  size : w.heap.size ≤ w'.heap.size
  block : ∀ k, k < w.heap.size → ¬ fp k → w'.heap[k]? = w.heap[k]?
theorem Agree.of_below {w w' : World} {fp : Nat → Prop} (h : Below w.heap.size w w') : Agree w w' fp := ⟨h.os, h.tape, h.output, h.size, fun k hk _ => h.block k hk⟩
theorem Agree.of_grown {w w' : World} {row : Option Nat} {fp : Nat → Prop} (h : w.grownBy w' row) (hr : ∀ k, row = some k → fp k) : Agree w w' fp := ⟨h.os, h.tape, h.output, h.size, fun k hk hn => h.block k hk fun e => hn (hr k e.symm)⟩
theorem mem_set {L : List HB} (h : L.Pairwise fun x y => ∀ k, x.fp k → ¬ y.fp k) {i : Nat} {x x' : HB} (hi : L[i]? = some x) : ∀ y ∈ L.set i x', y = x' ∨ (y ∈ L ∧ ∀ k, x.fp k → ¬ y.fp k) := by
  intro y hy
  obtain ⟨k, hk⟩ := List.mem_iff_getElem?.1 hy
  by_cases e : i = k
  · subst e
    rw [List.getElem?_set] at hk
    simp [(List.getElem?_eq_some_iff.1 hi).1] at hk
    exact .inl hk.symm
  · rw [List.getElem?_set_ne e] at hk
    exact .inr ⟨List.mem_of_getElem? hk, pairwise_at h hi hk e⟩
theorem Hp.mut {w0 w w' : World} {L : List HB} {K : List FK} (H : Hp w0 w L K) (i : Nat) {x : HB} (hi : L[i]? = some x) (x' : HB) (L' : List HB) (hL : L.set i x' = L') (hag : Agree w w' x.fp) (hF : x'.F w') (hok : x'.ok) (hlt : ∀ k, x'.fp k → k < w'.heap.size) (hfp : ∀ k, x'.fp k → x.fp k ∨ w.heap.size ≤ k)
    (hall : ∀ k, k < w0.heap.size → x.fp k → x'.fp k) (hfr : x'.fresh = x.fresh) : Hp w0 w' L' K := by
  subst hL
  have hm := mem_set H.apart (x' := x') hi
  have hxm := List.mem_of_getElem? hi
  have hil := (List.getElem?_eq_some_iff.1 hi).1
  have hx'm : x' ∈ L.set i x' := List.mem_iff_getElem?.2 ⟨i, by rw [List.getElem?_set]; simp [hil]⟩
  have hback : ∀ y ∈ L, y = x ∨ y ∈ L.set i x' := by
    intro y hy
    obtain ⟨k, hk⟩ := List.mem_iff_getElem?.1 hy
    by_cases e : i = k
    · subst e; rw [hi] at hk; cases hk; exact .inl rfl
    · exact .inr (List.mem_iff_getElem?.2 ⟨k, by rw [List.getElem?_set_ne e]; exact hk⟩)
  have hnot : ∀ y ∈ L, ∀ k, x'.fp k → y.fp k → x.fp k := fun y hy k hk hy' => (hfp k hk).resolve_right fun h => by have := (H.res y hy).2.2 k hy'; omega
  refine ⟨hag.os.trans H.os, hag.tape.trans H.tape, hag.output.trans H.output, Nat.le_trans H.size hag.size, fun k hk hn => ?_, fun y hy => ?_, ?_, fun y hy hfy k hk => ?_, fun p hp => ?_⟩
  · have hx : ¬ x.fp k := fun h => hn x' hx'm (hall k hk h)
    rw [hag.block k (Nat.lt_of_lt_of_le hk H.size) hx]
    refine H.old k hk fun y hy => ?_
    rcases hback y hy with rfl | hy
    · exact hx
    · exact hn y hy
  · rcases hm y hy with rfl | ⟨hy, hne⟩
    · exact ⟨hF, hok, hlt⟩
    · obtain ⟨h1, h2, h3⟩ := H.res y hy
      exact ⟨h2 _ _ h1 (fun k hk => hag.block k (h3 k hk) fun hx => hne k hx hk) hag.size, h2, fun k hk => Nat.lt_of_lt_of_le (h3 k hk) hag.size⟩
  · exact pairwise_set H.apart hi (fun z hz h k hk hk' => h k hk (hnot z hz k hk' hk)) (fun z hz h k hk hk' => h k (hnot z hz k hk hk') hk')
  · rcases hm y hy with rfl | ⟨hy, _⟩
    · rcases hfp k hk with h | h
      · exact H.fresh x hxm (hfr ▸ hfy) k h
      · exact Nat.le_trans H.size h
    · exact H.fresh y hy hfy k hk
  · obtain ⟨k1, k2, k3⟩ := H.kept p hp
    refine ⟨k2 _ _ k1 (fun k hk => hag.block k (k3 k hk).1 ((k3 k hk).2 x hxm)) hag.size, k2, fun k hk => ⟨Nat.lt_of_lt_of_le (k3 k hk).1 hag.size, fun y hy hy' => ?_⟩⟩
    rcases hm y hy with rfl | ⟨hy, _⟩
    · rcases hfp k hy' with h | h
      · exact (k3 k hk).2 x hxm h
      · have := (k3 k hk).1; omega
    · exact (k3 k hk).2 y hy hy'
theorem Hp.set {w0 w : World} {L : List HB} {K : List FK} (H : Hp w0 w L K) (i : Nat) {b : Nat} {t : TypeId} {vs : List Value} {f : Bool} (hi : L[i]? = some (bx b t vs f)) (j : Nat) (v : Value) :
    Hp w0 (w.setCell ⟨b, j, none⟩ v) (L.set i (bx b t (vs.set j v) f)) K :=
  H.mut i hi (bx b t (vs.set j v) f) _ rfl ⟨rfl, rfl, rfl, by simp [World.setCell], fun k _ hk => Below.heap_setCell _ _ _ _ hk⟩ (by
      have := (H.at_ i hi).set (i := j) v
      simpa [bx] using this) (bx_ok _ _ _ _) (fun k hk => by cases hk; simpa [World.setCell] using (H.at_ i hi).lt) (fun k hk => .inl hk) (fun k _ hk => hk) rfl
theorem Hp.only {w0 w : World} {L : List HB} {K : List FK} (H : Hp w0 w L K) (b : Nat) (hf : ∀ x ∈ L, x.fresh = true ∨ ∀ k, x.fp k → k = b) : w0.grownBy w (some b) :=
  ⟨H.os, H.tape, H.output, H.size, fun k hk hne => H.old k hk fun x hx e => by
    rcases hf x hx with h | h
    · have := H.fresh x hx h k e; omega
    · exact hne (by rw [h k e])⟩
theorem Hp.some_ {w0 w : World} {L L' : List HB} {K : List FK} (H : Hp w0 w L K) (hs : L'.Sublist L) (hf : ∀ x ∈ L, x.fresh = true ∨ x ∈ L') : Hp w0 w L' K := by
  refine ⟨H.os, H.tape, H.output, H.size, fun k hk hn => H.old k hk fun x hx h => ?_, fun x hx => H.res x (hs.subset hx), H.apart.sublist hs, fun x hx => H.fresh x (hs.subset hx), fun p hp => let ⟨h1, h2, h3⟩ := H.kept p hp; ⟨h1, h2, fun k hk => ⟨(h3 k hk).1, fun x hx => (h3 k hk).2 x (hs.subset hx)⟩⟩⟩
  rcases hf x hx with h' | h'
  · have := H.fresh x hx h' k h; omega
  · exact hn x h' h
theorem Hp.tail {w0 w : World} {x : HB} {L : List HB} {K : List FK} (H : Hp w0 w (x :: L) K) (hx : x.fresh = true) : Hp w0 w L K :=
  H.some_ (List.sublist_cons_self _ _) fun y hy => by
    rcases List.mem_cons.1 hy with rfl | hy
    · exact .inl hx
    · exact .inr hy
theorem Hp.keepF {w0 w : World} {L : List HB} {K : List FK} (H : Hp w0 w L K) (p : FK) (hp : p.F w) (hok : p.ok) (hn : ∀ k, p.fp k → k < w.heap.size ∧ ∀ x ∈ L, ¬ x.fp k) : Hp w0 w L (p :: K) :=
  ⟨H.os, H.tape, H.output, H.size, H.old, H.res, H.apart, H.fresh, fun q hq => by
    rcases List.mem_cons.1 hq with rfl | hq
    · exact ⟨hp, hok, hn⟩
    · exact H.kept q hq⟩
theorem Hp.fact {w0 w : World} {L : List HB} {K : List FK} (H : Hp w0 w L K) (i : Nat) {p : FK} (hi : K[i]? = some p) : p.F w := (H.kept p (List.mem_of_getElem? hi)).1
theorem Hp.held {w0 w : World} {L : List HB} {K : List FK} (H : Hp w0 w L K) (i : Nat) {x : HB} (hi : L[i]? = some x) : x.F w := (H.res x (List.mem_of_getElem? hi)).1
theorem Hp.keeps {w0 w : World} {L : List HB} {K K' : List FK} (H : Hp w0 w L K) (h : K' ⊆ K) : Hp w0 w L K' := ⟨H.os, H.tape, H.output, H.size, H.old, H.res, H.apart, H.fresh, fun p hp => H.kept p (h hp)⟩
theorem Hp.lt {w0 w : World} {L : List HB} {K : List FK} (H : Hp w0 w L K) : ∀ x ∈ L, ∀ k, x.fp k → k < w.heap.size := fun x hx => (H.res x hx).2.2
def rowFp (n : Nat) (A : Option Addr) (k : Nat) : Prop := 0 < n ∧ ∃ off, A = some ⟨k, off, none⟩
theorem Rd.keep {w1 w2 : World} {size : Nat} {A : Option Addr} {n : Nat} {xs : List Value} (h : Rd w1 size A n xs) (hk : ∀ k, rowFp n A k → w2.heap[k]? = w1.heap[k]?) (hs : w1.heap.size ≤ w2.heap.size) : Rd w2 size A n xs := by
  obtain ⟨h1, h2⟩ := h
  refine ⟨h1, ?_⟩
  by_cases hn : n = 0
  · exact .inl hn
  rcases h2 with h2 | ⟨b, off, rfl, hlt, hc⟩
  · exact .inl h2
  · exact .inr ⟨b, off, rfl, Nat.lt_of_lt_of_le hlt hs, fun i hi => (World.cell?_of_block (w := w1) (hk b ⟨by omega, off, rfl⟩)).trans (hc i hi)⟩
theorem Rd.of_box {w : World} {b t n : Nat} {vs : List Value} (h : Box w b t vs.toArray) (hl : vs.length = n * 1) : Rd w 1 (some ⟨b, 0, none⟩) n vs :=
  ⟨hl, .inr ⟨b, 0, rfl, h.lt, fun i hi => by
    have hi' : i < vs.length := by omega
    rw [Nat.zero_add, List.getElem?_eq_getElem hi']
    exact h.cell (by simp [List.getElem?_eq_getElem hi'])⟩⟩
def aggB (P : Program) (t : TypeId) : Option Bool :=
  match P.underlying t with
  | some (.struct _) | some (.array _ _) => some true
  | some _ => some false
  | none => none
def sizeB (P : Program) (t : TypeId) : Option Nat := (P.info? t).map (·.size)
def cellsAt (w : World) (b off : Nat) (vs : List Value) : Prop := ∀ i v, vs[i]? = some v → w.cell? ⟨b, off + i, none⟩ = some v
theorem Hp.cells {w0 w : World} {L : List HB} {K : List FK} (H : Hp w0 w L K) (i : Nat) {b : Nat} {t : TypeId} {us : List Value} {f : Bool} (hi : L[i]? = some (bx b t us f)) (off n : Nat) {vs : List Value} (hv : (us.drop off).take n = vs) : cellsAt w b off vs := by
  intro j v hj
  subst hv
  rw [List.getElem?_take] at hj
  split at hj
  · rw [List.getElem?_drop] at hj
    exact H.cell i hi _ hj
  · cases hj
def one : Value → Bool
  | .agg _ | .tuple _ => false
  | _ => true
def oneCells : List Value → Bool
  | [] => true
  | v :: vs => one v && oneCells vs
def setAll (us : List Value) (off : Nat) : List Value → List Value
  | [] => us
  | v :: vs => setAll (us.set off v) (off + 1) vs
theorem add_plain (b off i : Nat) : (⟨b, off, none⟩ : Addr).add i = ⟨b, off + i, none⟩ := by
  unfold Addr.add
  split
  · subst i; rfl
  · rfl
section
variable {P : Program} {ρ : Operand → Value} {w : World} {t : TypeId} {x y : Operand} {dst : Option Tmp} {ty : TypeId} {pos : String} {af : Array Edge} {g : Option (Nat × Bool)}
theorem run_isAgg {c : Bool} (h : aggB P t = some c) : (isAgg t).run P w = .ok c w := by
  unfold aggB at h
  unfold isAgg underlying
  cases hu : P.underlying t with
  | none => rw [hu] at h; cases h
  | some d => rw [hu] at h; cases d <;> simp at h <;> subst h <;> simp [Sem.run_bind, hu, program, Sem.run]
theorem run_sizeOf {k : Nat} (h : sizeB P t = some k) : (sizeOf t).run P w = .ok k w := by
  unfold sizeB at h
  unfold sizeOf typeInfo
  cases hu : P.info? t with
  | none => rw [hu] at h; cases h
  | some d => rw [hu] at h; simp at h; subst h; simp [Sem.run_bind, hu, program, Sem.run]
theorem run_load {p : Addr} {v : Value} (hc : w.cell? p = some v) : (load p).run P w = .ok v w := by
  simp [load, Sem.run, hc]
theorem run_loadCellsFrom {b off : Nat} : ∀ (vs : List Value) (i : Nat) (acc : Array Value), (∀ j v, vs[j]? = some v → w.cell? ⟨b, off + (i + j), none⟩ = some v) →
    (loadCellsFrom ⟨b, off, none⟩ i vs.length acc).run P w = .ok (acc ++ vs.toArray) w
  | [], i, acc, _ => by simp [loadCellsFrom]
  | v :: vs, i, acc, h => by
    have h0 := h 0 v rfl
    simp only [List.length_cons, loadCellsFrom, Sem.run_bind, add_plain]
    rw [run_load (by simpa using h0)]
    simp only [Result.andThen_ok]
    rw [run_loadCellsFrom vs (i + 1) _ fun j u hj => by
      have := h (j + 1) u (by simpa using hj)
      rw [show i + 1 + j = i + (j + 1) by omega]
      exact this]
    simp
theorem run_loadVarN {b off k : Nat} {vs : List Value} (ha : aggB P t = some true) (hs : sizeB P t = some k) (hl : vs.length = k) (hc : cellsAt w b off vs) : (loadVar t ⟨b, off, none⟩).run P w = .ok (.agg vs.toArray) w := by
  subst hl
  have h2 := run_loadCellsFrom (P := P) (w := w) (b := b) (off := off) vs 0 #[] fun j v hj => by have := hc j v hj; simpa using this
  simp only [loadVar, Sem.run_bind, run_isAgg ha, Result.andThen_ok, if_true, run_sizeOf hs, loadCells, h2]
  simp
theorem run_loadVar1 {p : Addr} {v : Value} (ha : aggB P t = some false) (hc : w.cell? p = some v) : (loadVar t p).run P w = .ok v w := by
  simp only [loadVar, Sem.run_bind, run_isAgg ha, Result.andThen_ok, Bool.false_eq_true, if_false, run_load hc]
theorem ex_load1 {p : Addr} {v : Value} (hx : ρ x = .pointer (some p)) (ha : aggB P t = some false) (hc : w.cell? p = some v) : (execOp ρ ⟨dst, .load t x, ty, pos, af, g⟩).run P w = .ok (.value v) w := by
  simp only [execOp, hx, Instr.loadAt, Instr.sureAddr, Sem.run_bind, Sem.run_pure, Result.andThen_ok, run_loadVar1 ha hc]
theorem ex_loadN {b off k : Nat} {vs : List Value} (hx : ρ x = .pointer (some ⟨b, off, none⟩)) (ha : aggB P t = some true) (hs : sizeB P t = some k) (hl : vs.length = k) (hc : cellsAt w b off vs) : (execOp ρ ⟨dst, .load t x, ty, pos, af, g⟩).run P w = .ok (.value (.agg vs.toArray)) w := by
  simp only [execOp, hx, Instr.loadAt, Instr.sureAddr, Sem.run_bind, Sem.run_pure, Result.andThen_ok, run_loadVarN ha hs hl hc]
theorem run_store {p : Addr} {v u : Value} (h1 : one v = true) (hc : w.cell? p = some u) (hf : w.frozen? p = false) : (store p v).run P w = .ok () (w.setCell p v) := by
  cases v <;> first | (simp [store, Sem.run, hc, hf]; done) | cases h1
theorem run_storeCells {w0 : World} {b off i : Nat} {tb : TypeId} {f : Bool} : ∀ (vs us : List Value) (j : Nat) (w : World) (L : List HB) (K : List FK), Hp w0 w L K → L[i]? = some (bx b tb us f) → oneCells vs = true → off + j + vs.length ≤ us.length →
    ∃ w', (storeCells ⟨b, off, none⟩ vs j).run P w = .ok () w' ∧ Hp w0 w' (L.set i (bx b tb (setAll us (off + j) vs) f)) K
  | [], us, j, w, L, K, H, hi, _, _ => ⟨w, by simp [storeCells], by
      have : L.set i (bx b tb us f) = L := by
        apply List.ext_getElem?
        intro k
        by_cases e : i = k
        · subst e; rw [List.getElem?_set, hi]; simp [(List.getElem?_eq_some_iff.1 hi).1]
        · rw [List.getElem?_set_ne e]
      simp only [setAll]
      rw [this]
      exact H⟩
  | v :: vs, us, j, w, L, K, H, hi, h1, hl => by
    simp only [oneCells, Bool.and_eq_true] at h1
    simp only [List.length_cons] at hl
    have hlt : off + j < us.length := by omega
    have hc := H.cell i hi (off + j) (List.getElem?_eq_getElem hlt)
    have hf := (H.at_ i hi).frozen (off + j)
    have H' := H.set i hi (off + j) v
    have hil := (List.getElem?_eq_some_iff.1 hi).1
    obtain ⟨w', hr, hw'⟩ := run_storeCells (b := b) (off := off) (i := i) (tb := tb) (f := f) vs (us.set (off + j) v) (j + 1) (w.setCell ⟨b, off + j, none⟩ v) (L.set i (bx b tb (us.set (off + j) v) f)) K H' (by rw [List.getElem?_set]; simp [hil]) h1.2 (by simp; omega)
    refine ⟨w', ?_, ?_⟩
    · simp only [storeCells, Sem.run_bind, add_plain]
      rw [run_store h1.1 hc hf]
      simp only [Result.andThen_ok]
      exact hr
    · rw [List.set_set] at hw'
      exact hw'
end
def chk (ops : Array Oper) (n : Nat) (L : List (Nat × Value)) (o : Oper) (d : Nat) : Bool :=
  match o.dst with
  | some d' => Nat.beq d' d && (Nat.blt d n && (knowsAll L o.op.operands.toList && (notSelect o.op && (match wantedL ops L o with | some b => b | none => false))))
  | none => false
def chk0 (ops : Array Oper) (L : List (Nat × Value)) (o : Oper) : Bool :=
  match o.dst with
  | some _ => false
  | none => knowsAll L o.op.operands.toList && (notSelect o.op && (match wantedL ops L o with | some b => b | none => false))
def chkSkip (ops : Array Oper) (n : Nat) (L : List (Nat × Value)) (o : Oper) (d : Nat) : Bool :=
  match o.dst with
  | some d' => Nat.beq d' d && (Nat.blt d n && (match wantedL ops L o with | some b => !b | none => false))
  | none => false
section
variable {P : Program} {ops : Array Oper} {Q : Exit → Act → World → Prop} {a : Act} {w w' : World} {rest : List Oper} {o : Oper} {n : Nat} {L : List (Nat × Value)} {v : Value}
theorem chk_spec {d : Nat} (h : chk ops n L o d = true) : o.dst = some d ∧ Nat.blt d n = true ∧ knowsAll L o.op.operands.toList = true ∧ notSelect o.op = true ∧ wantedL ops L o = some true := by
  unfold chk at h
  cases hd : o.dst with
  | none => rw [hd] at h; cases h
  | some d' =>
    rw [hd] at h
    simp only [Bool.and_eq_true] at h
    refine ⟨by rw [Nat.eq_of_beq_eq_true h.1], h.2.1, h.2.2.1, h.2.2.2.1, ?_⟩
    have := h.2.2.2.2
    cases hw : wantedL ops L o with
    | none => rw [hw] at this; cases this
    | some b => rw [hw] at this; simp at this; rw [this]
theorem chk0_spec (h : chk0 ops L o = true) : o.dst = none ∧ knowsAll L o.op.operands.toList = true ∧ notSelect o.op = true ∧ wantedL ops L o = some true := by
  unfold chk0 at h
  cases hd : o.dst with
  | some _ => rw [hd] at h; cases h
  | none =>
    rw [hd] at h
    simp only [Bool.and_eq_true] at h
    refine ⟨rfl, h.1, h.2.1, ?_⟩
    have := h.2.2
    cases hw : wantedL ops L o with
    | none => rw [hw] at this; cases this
    | some b => rw [hw] at this; simp at this; rw [this]
theorem chkSkip_spec {d : Nat} (h : chkSkip ops n L o d = true) : o.dst = some d ∧ Nat.blt d n = true ∧ wantedL ops L o = some false := by
  unfold chkSkip at h
  cases hd : o.dst with
  | none => rw [hd] at h; cases h
  | some d' =>
    rw [hd] at h
    simp only [Bool.and_eq_true] at h
    refine ⟨by rw [Nat.eq_of_beq_eq_true h.1], h.2.1, ?_⟩
    have := h.2.2
    cases hw : wantedL ops L o with
    | none => rw [hw] at this; cases this
    | some b => rw [hw] at this; simp at this; rw [this]
theorem wpList_wanted (hw : Region.wanted o (yielded ops a.tmps) = true) (h : o.wp P a w (wpList P ops Q rest) Q) : wpList P ops Q (o :: rest) a w := by
  unfold wpList
  rw [if_pos hw]
  exact .inl h
theorem Sl.valW (H : Sl n L a) (d : Nat) (v : Value) (hc : chk ops n L o d = true)
    (hx : (execOp (ev L) o).run P w = .ok (.value v) w') (k : ∀ a', Sl n ((d, v) :: L) a' → wpList P ops Q rest a' w') : wpList P ops Q (o :: rest) a w := by
  obtain ⟨hd, hn, hk, hs, hw⟩ := chk_spec hc
  refine wpList_wanted (H.wanted hw) ?_
  unfold Oper.wp
  rw [H.exec hk hs, hx, Oper.upon_value, hd]
  exact k _ (H.put v hn)
theorem Sl.val (H : Sl n L a) (d : Nat) (v : Value) (hc : chk ops n L o d = true)
    (hx : (execOp (ev L) o).run P w = .ok (.value v) w) (k : ∀ a', Sl n ((d, v) :: L) a' → wpList P ops Q rest a' w) : wpList P ops Q (o :: rest) a w := H.valW d v hc hx k
theorem Sl.valE (H : Sl n L a) (d : Nat) (u v : Value) (hc : chk ops n L o d = true)
    (hx : (execOp (ev L) o).run P w = .ok (.value u) w) (hv : u = v) (k : ∀ a', Sl n ((d, v) :: L) a' → wpList P ops Q rest a' w) : wpList P ops Q (o :: rest) a w := by
  subst hv; exact H.val d u hc hx k
theorem Sl.skip (H : Sl n L a) (d : Nat) (hc : chkSkip ops n L o d = true) (k : ∀ a', Sl n ((d, undef) :: L) a' → wpList P ops Q rest a' w) : wpList P ops Q (o :: rest) a w := by
  obtain ⟨hd, hn, hw⟩ := chkSkip_spec hc
  unfold wpList
  rw [if_neg (by rw [H.wanted hw]; simp), hd]
  exact k _ (H.put undef hn)
theorem Sl.alloc {w0 : World} {LH : List HB} {K : List FK} (H : Sl n L a) (HP : Hp w0 w LH K) (d : Nat) (V : Nat → Value) (t : TypeId) (vs : List Value) (hc : chk ops n L o d = true)
    (hx : ∀ w, (execOp (ev L) o).run P w = .ok (.value (V w.heap.size)) (w.alloc (.cells vs.toArray t)))
    (k : ∀ b w' a', Sl n ((d, V b) :: L) a' → Hp w0 w' (bx b t vs true :: LH) K → wpList P ops Q rest a' w') : wpList P ops Q (o :: rest) a w :=
  H.valW d _ hc (hx w) fun a' H' => k _ _ a' H' (HP.alloc t vs)
theorem Sl.store {w0 : World} {LH : List HB} {K : List FK} {t : TypeId} {x y : Operand} {ty : TypeId} {pos : String} {af : Array Edge} {g : Option (Nat × Bool)} (H : Sl n L a) (HP : Hp w0 w LH K) (i b off k : Nat) (tb : TypeId) (us : List Value) (f : Bool) (v : Value) (LH' : List HB)
    (hc : chk0 ops L ⟨none, .store t x y, ty, pos, af, g⟩ = true) (hx : ev L x = .pointer (some ⟨b, off, none⟩)) (hy : ev L y = v) (hi : LH[i]? = some (bx b tb us f)) (hs : sizeB P t = some k) (hv : v.cells.size = k) (h1 : oneCells v.cells.toList = true) (hl : Nat.ble (off + v.cells.toList.length) us.length = true)
    (hL : LH.set i (bx b tb (setAll us off v.cells.toList) f) = LH')
    (kk : ∀ w' a', Sl n L a' → Hp w0 w' LH' K → wpList P ops Q rest a' w') : wpList P ops Q (⟨none, .store t x y, ty, pos, af, g⟩ :: rest) a w := by
  obtain ⟨hd, hk, hs', hw⟩ := chk0_spec hc
  refine wpList_wanted (H.wanted hw) ?_
  obtain ⟨w', hr, hw'⟩ := run_storeCells (P := P) (off := off) v.cells.toList us 0 w LH K HP hi h1 (by simpa [Nat.ble_eq] using hl)
  unfold Oper.wp
  rw [H.exec hk hs']
  simp only [execOp, hx, hy, Instr.storeAt, Instr.sureAddr, storeVar, Sem.run_bind, Sem.run_pure, Result.andThen_ok, run_sizeOf hs, hv]
  simp only [ne_eq, not_true_eq_false, if_false, hr, Result.andThen_ok, Oper.upon_skip]
  exact kk w' _ H (hL ▸ hw')
theorem Sl.call (H : Sl n L a) (d : Nat) {f : FuncId} {args : Array Value} {R : Ending → World → Prop} (hc : chk ops n L o d = true)
    (hx : (execOp (ev L) o).run P w = .ok (.enter f args) w') (hC : Calls P f args w' R) (k : ∀ e w'', R e w'' → ∃ v, e = .returned v ∧ ∀ a', Sl n ((d, v) :: L) a' → wpList P ops Q rest a' w'') : wpList P ops Q (o :: rest) a w := by
  obtain ⟨hd, hn, hk, hs, hw⟩ := chk_spec hc
  refine wpList_wanted (H.wanted hw) ?_
  unfold Oper.wp
  rw [H.exec hk hs, hx, Oper.upon_enter]
  refine hC.mono fun e w'' he => ?_
  obtain ⟨v, rfl, hv⟩ := k e w'' he
  rw [hd]
  exact hv _ (H.put v hn)
end
theorem Sl.split {n : Nat} {L : List (Nat × Value)} {a : Act} {e : Bool} {G : Prop} (H : Sl n L a) (d : Nat) (hl : look d L = some (.bool e)) (ht : e = true → Sl n ((d, .bool true) :: L) a → G) (hf : e = false → Sl n ((d, .bool false) :: L) a → G) : G := by
  have aux : ∀ b, e = b → Sl n ((d, .bool b) :: L) a := fun b hb => ⟨H.defers, H.size, fun k v hk => by
    rw [look_cons] at hk
    by_cases h : d = k
    · subst h; rw [if_pos rfl] at hk; cases hk; rw [← hb]; exact H.get _ _ hl
    · rw [if_neg h] at hk; exact H.get k v hk⟩
  cases he : e with
  | true => exact ht he (aux true he)
  | false => exact hf he (aux false he)
theorem Sl.as {n : Nat} {L : List (Nat × Value)} {a : Act} {u : Value} (H : Sl n L a) (d : Nat) (v : Value) (hl : look d L = some u) (hv : u = v) : Sl n ((d, v) :: L) a :=
  ⟨H.defers, H.size, fun k x hk => by
    rw [look_cons] at hk
    by_cases h : d = k
    · subst h; rw [if_pos rfl] at hk; cases hk; rw [← hv]; exact H.get _ _ hl
    · rw [if_neg h] at hk; exact H.get k x hk⟩
section
variable {P : Program} {Q : Exit → Act → World → Prop} {a : Act} {w : World} {n : Nat} {L : List (Nat × Value)}
theorem w_cut {x y : Code} (M : Act → World → Prop) (h : x.wp P (Exit.then M Q) a w) (k : ∀ a w, M a w → y.wp P Q a w) : (Code.seq x y).wp P Q a w :=
  wp_seq (Code.wp_mono (fun e a w q => by cases e <;> first | exact k _ _ q | exact q) h)
theorem w_region {id : Nat} {l : List Oper} (h : wpList P l.toArray Q l a w) : (Code.region id l.toArray false).wp P Q a w := wp_region_lit h
theorem w_if {x y : Code} {t : Nat} {e : Bool} (H : Sl n L a) (hl : look t L = some (.bool e)) (ht : e = true → x.wp P Q a w) (hf : e = false → y.wp P Q a w) : (Code.cond (.tmp t) x y).wp P Q a w :=
  wp_cond_split (t := e) (by simp only [Act.eval]; exact H.get t _ hl) ht hf
theorem w_ift {x y : Code} {t : Nat} (H : Sl n L a) (hl : look t L = some (.bool true)) (h : x.wp P Q a w) : (Code.cond (.tmp t) x y).wp P Q a w :=
  wp_cond_true (by simp only [Act.eval]; exact H.get t _ hl) h
theorem w_iff {x y : Code} {t : Nat} (H : Sl n L a) (hl : look t L = some (.bool false)) (h : y.wp P Q a w) : (Code.cond (.tmp t) x y).wp P Q a w :=
  wp_cond_false (by simp only [Act.eval]; exact H.get t _ hl) h
theorem then_normal {K : Act → World → Prop} (h : K a w) : Exit.then K Q .normal a w := h
theorem then_ret {K : Act → World → Prop} (h : Q .ret a w) : Exit.then K Q .ret a w := h
theorem then_exit {K : Act → World → Prop} {id : Nat} (h : Q (.exit id) a w) : Exit.then K Q (.exit id) a w := h
theorem inb_normal {id : Nat} (h : Q .normal a w) : Exit.inBlock id Q .normal a w := h
theorem inb_ret {id : Nat} (h : Q .ret a w) : Exit.inBlock id Q .ret a w := h
theorem w_enter {f : FuncId} {fn : Func} {c : Code} {args : List Value} {R : Ending → World → Prop} (n : Nat) (L : List (Nat × Value)) (hf : P.funcs[f]? = some fn) (hb : fn.body = some c) (hn : fn.ntmps = n)
    (hle : Nat.ble args.length n = true) (hk : (L.map fun p => look p.1 (args.zipIdx.map fun p => (p.2, p.1))) = L.map fun p => some p.2) (k : ∀ a, Sl n L a → c.wp P (bodyPost P fn R) a w) : Calls P f args.toArray w R := by
 refine calls_of_wp hf hb ?_
 rw [hn]
 exact k _ (Sl.enter args n L hle hk)
theorem w_exit_here {id : Nat} (h : Q .normal a w) : Exit.inBlock id Q (.exit id) a w := by simp only [Exit.inBlock, if_true]; exact h
theorem w_loop {c : Code} (I : Nat → Act → World → Prop) (m : Nat) (h0 : I m a w) (round : ∀ m a w, I m a w → c.wp P (Exit.then (fun a' w' => ∃ m', m' < m ∧ I m' a' w') Q) a w) : (Code.loop c).wp P Q a w := by
  classical
  have hex : ∀ a w, (∃ m, I m a w) → ∃ m, I m a w ∧ ∀ k, I k a w → m ≤ k := by
    intro a w ⟨m, hm⟩
    induction m using Nat.strongRecOn with
    | _ m ih =>
      by_cases h : ∃ k, k < m ∧ I k a w
      · obtain ⟨k, hk, hI⟩ := h; exact ih k hk hI
      · exact ⟨m, hm, fun k hk => Nat.le_of_not_lt fun hlt => h ⟨k, hlt, hk⟩⟩
  let μ : Act → World → Nat := fun a w => if h : ∃ m, I m a w then Classical.choose (hex a w h) else 0
  refine wp_loop (fun a w => ∃ m, I m a w) μ ⟨m, h0⟩ fun a w hI => ?_
  have hμ : μ a w = Classical.choose (hex a w hI) := by simp only [μ, dif_pos hI]
  have hs := Classical.choose_spec (hex a w hI)
  rw [← hμ] at hs
  refine Code.wp_mono (fun e a' w' q => ?_) (round (μ a w) a w hs.1)
  cases e with
  | normal =>
    obtain ⟨m', hlt, hI'⟩ := q
    refine ⟨⟨m', hI'⟩, ?_⟩
    have hμ' : μ a' w' = Classical.choose (hex a' w' ⟨m', hI'⟩) := by simp only [μ, dif_pos (show ∃ m, I m a' w' from ⟨m', hI'⟩)]
    have hs' := (Classical.choose_spec (hex a' w' ⟨m', hI'⟩)).2 m' hI'
    rw [← hμ'] at hs'
    exact Nat.lt_of_le_of_lt hs' hlt
  | _ => exact q
end
theorem wrap_ini64 (n : Int) (h : -9223372036854775808 ≤ n ∧ n ≤ 9223372036854775807) : IntKind.i64.wrap n = n := IntWalk.i64_in n (by omega)
theorem wrap_inu64 (n : Int) (h : 0 ≤ n ∧ n ≤ 18446744073709551615) : IntKind.u64.wrap n = n := by
  simp only [IntKind.wrap, IntKind.bits, IntKind.signed, Bool.false_and, Bool.false_eq_true, if_false]
  omega
theorem wrap_inu8 (n : Int) (h : 0 ≤ n ∧ n ≤ 255) : IntKind.u8.wrap n = n := by
  simp only [IntKind.wrap, IntKind.bits, IntKind.signed, Bool.false_and, Bool.false_eq_true, if_false]
  omega
theorem tdiv_nn (a b : Int) (h : 0 ≤ a) : a.tdiv b = a / b := Int.tdiv_eq_ediv_of_nonneg h
theorem tmod_nn (a b : Int) (h : 0 ≤ a) : a.tmod b = a % b := Int.tmod_eq_emod_of_nonneg h
theorem eq_of_bne_false {a b : Int} (h : (a != b) = false) : a = b := by simpa using h
theorem not_is_true {b : Bool} (h : (!b) = true) : b = false := by simpa using h
theorem not_is_false {b : Bool} (h : (!b) = false) : b = true := by simpa using h
theorem Hp.oldc {w0 w : World} {L : List HB} {K : List FK} (H : Hp w0 w L K) (hf : (L.all fun x => x.fresh) = true) {p : Addr} {v : Value} (h : w0.cell? p = some v) : w.cell? p = some v :=
  ((H.below hf).cell (World.block_lt_of_cell? _ _ h)).trans h
theorem cells2 {w : World} {b off : Nat} {u v : Value} (h0 : w.cell? ⟨b, off, none⟩ = some u) (h1 : w.cell? ⟨b, off + 1, none⟩ = some v) : cellsAt w b off [u, v] := fun i x hx => by
  match i, hx with
  | 0, hx => cases hx; exact h0
  | 1, hx => cases hx; exact h1
  | i + 2, hx => cases hx
theorem ex_index {P : Program} {ρ : Operand → Value} {w : World} {t e : TypeId} {x y : Operand} {dst : Option Tmp} {ty : TypeId} {pos : String} {af : Array Edge} {g : Option (Nat × Bool)} {b off len cap m k : Nat} {i : Int} {ik : IntKind}
    (hx : ρ x = .slice (some ⟨b, off, none⟩) len cap) (hy : ρ y = .int ik i) (hm : i = m) (hlt : m < len) (hu : P.underlying t = some (.slice e)) (hs : sizeB P e = some k) : (execOp ρ ⟨dst, .indexAddr t x y, ty, pos, af, g⟩).run P w = .ok (.value (.pointer (some ⟨b, off + m * k, none⟩))) w := by
  subst hm
  have h1 : (0 : Int) ≤ m ∧ (m : Int) < len := by omega
  simp only [execOp, hx, hy, Instr.indexAt, asIntOf, underlying, program, Sem.run_bind, Sem.run_pure, Result.andThen_ok, Sem.run, hu, h1, and_self, if_true, run_sizeOf hs, add_plain, Int.toNat_natCast]
section
variable {P : Program} {fn : Func} {R : Ending → World → Prop} {a : Act} {w : World} {n : Nat} {L : List (Nat × Value)}
def RV (P : Program) (w : World) (L : List (Nat × Value)) : ResultVar → Value → Prop
  | .tmp t, v => look t L = some v
  | .cell p t, v => ∃ q, look p L = some (.pointer (some q)) ∧ (loadVar t q).run P w = .ok v w
def resOf (tmps : Array Value) : ResultVar → Sem Value
  | .tmp t => pure (tmps.getD t undef)
  | .cell p t => do loadVar t (← asAddr (tmps.getD p undef))
theorem results_of (fn : Func) (tmps : Array Value) : results fn tmps = (do let vs ← fn.results.mapM (resOf tmps); pure (if h : vs.size = 1 then vs[0] else .tuple vs)) := by
  have : resOf tmps = (fun | .tmp t => pure (tmps.getD t undef) | .cell a t => do loadVar t (← asAddr (tmps.getD a undef))) := by
    funext r; cases r <;> rfl
  rw [this]
  rfl
theorem RV.run (H : Sl n L a) {r : ResultVar} {v : Value} (h : RV P w L r v) : (resOf a.tmps r).run P w = .ok v w := by
  cases r with
  | tmp t => simp only [resOf, H.get t v h, Sem.run_pure]
  | cell p t =>
    obtain ⟨q, hq, hl⟩ := h
    simp only [resOf, H.get p _ hq, asAddr, Sem.run_bind, Sem.run_pure, Result.andThen_ok, hl]
theorem Sl.ret1 (H : Sl n L a) {r : ResultVar} {v : Value} (hr : fn.results = #[r]) (h : RV P w L r v) (hR : R (.returned v) w) : bodyPost P fn R .ret a w := by
  refine ⟨H.defers, v, ?_, hR⟩
  rw [results_of, hr]
  simp [h.run H]
theorem Sl.ret2 (H : Sl n L a) {r s : ResultVar} {v u : Value} (hr : fn.results = #[r, s]) (h : RV P w L r v) (h' : RV P w L s u) (hR : R (.returned (.tuple #[v, u])) w) : bodyPost P fn R .ret a w := by
  refine ⟨H.defers, _, ?_, hR⟩
  rw [results_of, hr]
  simp [h.run H, h'.run H]
theorem Sl.ret3 (H : Sl n L a) {r s t : ResultVar} {v u x : Value} (hr : fn.results = #[r, s, t]) (h : RV P w L r v) (h' : RV P w L s u) (h'' : RV P w L t x) (hR : R (.returned (.tuple #[v, u, x])) w) : bodyPost P fn R .ret a w := by
  refine ⟨H.defers, _, ?_, hR⟩
  rw [results_of, hr]
  simp [h.run H, h'.run H, h''.run H]
theorem Sl.end0 (H : Sl n L a) (hr : fn.results = #[]) (hR : R (.returned (.tuple #[])) w) : bodyPost P fn R .normal a w := by
  refine ⟨H.defers, _, ?_, hR⟩
  unfold results
  rw [hr]
  simp
theorem RV.tmp_ {t : Nat} {v : Value} (h : look t L = some v) : RV P w L (.tmp t) v := h
theorem RV.cellN {p t b off k : Nat} {vs : List Value} (hl : look p L = some (.pointer (some ⟨b, off, none⟩))) (ha : aggB P t = some true) (hs : sizeB P t = some k) (hk : vs.length = k) (hc : cellsAt w b off vs) : RV P w L (.cell p t) (.agg vs.toArray) :=
  ⟨_, hl, run_loadVarN ha hs hk hc⟩
theorem RV.cell1 {p t : Nat} {q : Addr} {v : Value} (hl : look p L = some (.pointer (some q))) (ha : aggB P t = some false) (hc : w.cell? q = some v) : RV P w L (.cell p t) v :=
  ⟨_, hl, run_loadVar1 ha hc⟩
end
section
variable {P : Program} {ops : Array Oper} {Q : Exit → Act → World → Prop} {md : Region.Mode} {S : World → Prop}
def upM (m : Nat) (listed : Array Bool) : Prop := listed.getD m false = true
theorem upM_set {m i : Nat} {listed : Array Bool} (h : i ≠ m) : upM m (listed.setIfInBounds i true) ↔ upM m listed := by
  unfold upM
  rw [Array.getD_eq_getD_getElem?, Array.getD_eq_getD_getElem?, Array.getElem?_setIfInBounds_ne h]
def wpAnyM (P : Program) (md : Region.Mode) (ops : Array Oper) (Q : Exit → Act → World → Prop) (S : World → Prop) (m : Nat) : Nat → Array Bool → Act → World → Prop
  | 0, listed, a, w => Region.ready md ops listed = [] ∧ Q .normal a w
  | fuel + 1, listed, a, w =>
    (Region.ready md ops listed = [] → Q .normal a w) ∧
    ∀ i ∈ Region.ready md ops listed, wpOp P ops Q i (fun a' w' => (upM m (listed.setIfInBounds i true) ∨ S w') ∧ wpAnyM P md ops Q S m fuel (listed.setIfInBounds i true) a' w') a w
theorem wpAny_of_M {m : Nat} : ∀ (fuel : Nat) (listed : Array Bool) (a : Act) (w : World), wpAnyM P md ops Q S m fuel listed a w → wpAny P md ops Q fuel listed a w
  | 0, _, _, _, h => h
  | fuel + 1, _, _, _, h => ⟨h.1, fun i hi => wpOp_mono (fun a' w' h' => wpAny_of_M fuel _ a' w' h'.2) (h.2 i hi)⟩
def waitsFor (md : Region.Mode) (ops : Array Oper) (m i : Nat) : Bool :=
  match ops[m]? with
  | none => true
  | some om => om.after.any fun e => Region.binds md e && e.on == i
theorem not_waits {i j m : Nat} {oj : Oper} {listed : Array Bool} (hwm : waitsFor md ops m i = true) (hoj : ops[j]? = some oj) (hnot : ∀ e ∈ oj.after, Region.binds md e = true → e.on ≠ i) : j ≠ m := fun e => by
  subst e
  unfold waitsFor at hwm
  rw [hoj] at hwm
  simp only [Array.any_eq_true] at hwm
  obtain ⟨q, hq, hb⟩ := hwm
  simp only [Bool.and_eq_true, beq_iff_eq] at hb
  exact hnot _ (Array.getElem_mem hq) hb.1 hb.2
theorem not_on {i j : Nat} {oj : Oper} {listed : Array Bool} (hr : i ∈ Region.ready md ops listed) (hj : j ∈ Region.ready md ops listed) (hoj : ops[j]? = some oj) : ∀ e ∈ oj.after, Region.binds md e = true → e.on ≠ i := fun e he hb heq => by
  obtain ⟨_, oj', hoj', hall⟩ := mem_ready.1 hj
  rw [hoj] at hoj'
  cases hoj'
  have h1 := hall e he hb
  have h0 := (mem_ready.1 hr).1
  rw [heq] at h1
  rcases Nat.lt_or_ge i listed.size with h' | h'
  · simp [h'] at h0 h1; rw [h0] at h1; cases h1
  · simp [Array.getElem?_eq_none h'] at h1
theorem wpAnyM_first {m i : Nat} {oi : Oper} {v : Value} (r : Bool) (hi : ops[i]? = some oi) (hsel : ∀ (j : Nat) (o : Oper) cs b, ops[j]? = some o → o.op ≠ .select cs b) (him : i ≠ m)
    (hU : r = true → waitsFor md ops m i = true)
    (hQ : ∀ c a w, Q (.panic c) (a.put oi.dst v) w → Q (.panic c) a w) :
    ∀ (fuel : Nat) (listed : Array Bool) (a : Act) (w : World),
      (∀ j oj, ops[j]? = some oj → j ≠ i → listed.getD j true = false → (∀ e ∈ oj.after, Region.binds md e = true → e.on ≠ i) → oi.apart ops oj = true) →
      i ∈ Region.ready md ops listed → YieldsIf P ops (fun w => r = true → S w) oi v a → (r = true → ¬ upM m listed) → (upM m listed ∨ S w) →
      wpAnyM P md ops Q S m fuel (listed.setIfInBounds i true) (a.put oi.dst v) w → wpAnyM P md ops Q S m (fuel + 1) listed a w := by
  have hUw : ∀ (listed : Array Bool) (w : World), (r = true → ¬ upM m listed) → (upM m listed ∨ S w) → (r = true → S w) := fun listed w h h' hr => h'.resolve_left (h hr)
  intro fuel
  induction fuel with
  | zero =>
    intro listed a w _ hr hy hm hS H
    refine ⟨fun h => (by rw [h] at hr; cases hr), fun j hj => ?_⟩
    by_cases hji : j = i
    · subst hji; exact hy.wpOp hi (hUw _ _ hm hS) ⟨by rw [upM_set him]; exact hS, H⟩
    · have := ready_mono hj hji
      rw [H.1] at this
      cases this
  | succ fuel ih =>
    intro listed a w hfree hr hy hm hS H
    refine ⟨fun h => (by rw [h] at hr; cases hr), fun j hj => ?_⟩
    by_cases hji : j = i
    · subst hji; exact hy.wpOp hi (hUw _ _ hm hS) ⟨by rw [upM_set him]; exact hS, H⟩
    · have h1 := H.2 j (ready_mono hj hji)
      obtain ⟨hjun, oj, hoj, _⟩ := mem_ready.1 hj
      have hnot := not_on hr hj hoj
      have h2 := wpOp_putIf hoj (hfree j oj hoj hji hjun hnot) (fun cs b => hsel i oi cs b hi) (fun cs b => hsel j oj cs b hoj) hQ hy h1
      have hfree' : ∀ k ok, ops[k]? = some ok → k ≠ i → (listed.setIfInBounds j true).getD k true = false →
          (∀ e ∈ ok.after, Region.binds md e = true → e.on ≠ i) → oi.apart ops ok = true := fun k ok hk hki hun hno => by
        refine hfree k ok hk hki ?_ hno
        by_cases hjk : j = k
        · subst hjk; exact hjun
        · rw [getD_set_ne true hjk] at hun; exact hun
      refine wpOp_mono (fun a' w' h3 => ?_) h2
      have hS' : upM m (listed.setIfInBounds j true) ∨ S w' := by
        have := h3.2.1
        rw [Array.setIfInBounds_comm _ _ (Ne.symm hji), upM_set him] at this
        exact this
      refine ⟨hS', ih (listed.setIfInBounds j true) a' w' hfree' (ready_mono hr (Ne.symm hji)) h3.1 (fun e => ?_) hS' ?_⟩
      · rw [upM_set (not_waits (listed := listed) (hU e) hoj hnot)]
        exact hm e
      · rw [Array.setIfInBounds_comm _ _ hji]
        exact h3.2.2
end
section
variable {P : Program} {ops : Array Oper} {Q : Exit → Act → World → Prop} {S : World → Prop} {a : Act} {w w' : World} {o : Oper} {n m : Nat} {L : List (Nat × Value)} {v : Value} {i fuel : Nat} {listed : Array Bool} {K : Act → World → Prop} {KB : List FK}
theorem An.start {w0 : World} {LH : List HB} {id : Nat} {l : List Oper} (S : World → Prop) (m c : Nat) (HP : Hp w0 w LH KB) (hf : P.follows .mixedOrders = true) (hm : l.length = c)
    (k : ∀ w', Hp w0 w' LH KB → wpAnyM P .any l.toArray Q S m c (Array.replicate c false) a w') : (Code.region id l.toArray true).wp P Q a w := by
  refine wp_region_any hf (wpAny_of_M (S := S) (m := m) _ _ _ _ ?_)
  have := k w.drew (HP.next ((Below.refl _ _).drew))
  subst hm
  simpa using this
def chkP (ops : Array Oper) (listed : Array Bool) (m i : Nat) : Bool := Region.noSelect ops && (Region.free .any ops listed i && ((Region.ready .any ops listed).contains i && !Nat.beq i m))
def chkT (ops : Array Oper) (listed : Array Bool) (m i : Nat) : Bool := waitsFor .any ops m i && (!(listed.getD m false) && chkP ops listed m i)
theorem chkP_ne {ops : Array Oper} (h : (!Nat.beq i m) = true) : i ≠ m := fun e => by subst e; simp at h
theorem An.val (H : Sl n L a) (hS : S w) (i d : Nat) (v : Value) (ho : ops[i]? = some o) (hc : chk ops n L o d = true) (ht : chkT ops listed m i = true) (hQ : ∀ c a w, Q (.panic c) (a.put o.dst v) w → Q (.panic c) a w)
    (hx : ∀ w, S w → (execOp (ev L) o).run P w = .ok (.value v) w) (k : ∀ a', Sl n ((d, v) :: L) a' → wpAnyM P .any ops Q S m fuel (listed.setIfInBounds i true) a' w) : wpAnyM P .any ops Q S m (fuel + 1) listed a w := by
  obtain ⟨hd, hn, hk, hs, hw⟩ := chk_spec hc
  simp only [chkT, chkP, Bool.and_eq_true] at ht
  obtain ⟨t1, t2, t3, t4, t5, t6⟩ := ht
  refine wpAnyM_first true ho (Region.noSelect_spec t3) (chkP_ne (ops := ops) t6) (fun _ => t1) hQ fuel listed a w (Region.free_spec ho t4) (by simpa using t5) (.inl ⟨H.wanted hw, fun w hw => by rw [H.exec hk hs]; exact hx w (hw rfl)⟩) (fun _ h => by unfold upM at h; rw [h] at t2; cases t2) (.inr hS) ?_
  rw [hd]
  exact k _ (H.put v hn)
theorem An.valE (H : Sl n L a) (hS : S w) (i d : Nat) (u v : Value) (ho : ops[i]? = some o) (hc : chk ops n L o d = true) (ht : chkT ops listed m i = true) (hQ : ∀ c a w, Q (.panic c) (a.put o.dst v) w → Q (.panic c) a w)
    (hx : ∀ w, S w → (execOp (ev L) o).run P w = .ok (.value u) w) (hv : u = v) (k : ∀ a', Sl n ((d, v) :: L) a' → wpAnyM P .any ops Q S m fuel (listed.setIfInBounds i true) a' w) : wpAnyM P .any ops Q S m (fuel + 1) listed a w := by
  subst hv; exact An.val H hS i d u ho hc ht hQ hx k
theorem An.pure (H : Sl n L a) (hS : listed.getD m false = true ∨ S w) (i d : Nat) (v : Value) (ho : ops[i]? = some o) (hc : chk ops n L o d = true) (ht : chkP ops listed m i = true) (hQ : ∀ c a w, Q (.panic c) (a.put o.dst v) w → Q (.panic c) a w)
    (hx : ∀ w, (execOp (ev L) o).run P w = .ok (.value v) w) (k : ∀ a', Sl n ((d, v) :: L) a' → wpAnyM P .any ops Q S m fuel (listed.setIfInBounds i true) a' w) : wpAnyM P .any ops Q S m (fuel + 1) listed a w := by
  obtain ⟨hd, hn, hk, hs, hw⟩ := chk_spec hc
  simp only [chkP, Bool.and_eq_true] at ht
  obtain ⟨t3, t4, t5, t6⟩ := ht
  refine wpAnyM_first false ho (Region.noSelect_spec t3) (chkP_ne (ops := ops) t6) (fun h => by cases h) hQ fuel listed a w (Region.free_spec ho t4) (by simpa using t5) (.inl ⟨H.wanted hw, fun w _ => by rw [H.exec hk hs]; exact hx w⟩) (fun h => by cases h) hS ?_
  rw [hd]
  exact k _ (H.put v hn)
theorem An.pureE (H : Sl n L a) (hS : listed.getD m false = true ∨ S w) (i d : Nat) (u v : Value) (ho : ops[i]? = some o) (hc : chk ops n L o d = true) (ht : chkP ops listed m i = true) (hQ : ∀ c a w, Q (.panic c) (a.put o.dst v) w → Q (.panic c) a w)
    (hx : ∀ w, (execOp (ev L) o).run P w = .ok (.value u) w) (hv : u = v) (k : ∀ a', Sl n ((d, v) :: L) a' → wpAnyM P .any ops Q S m fuel (listed.setIfInBounds i true) a' w) : wpAnyM P .any ops Q S m (fuel + 1) listed a w := by
  subst hv; exact An.pure H hS i d u ho hc ht hQ hx k
theorem An.skip (H : Sl n L a) (hS : listed.getD m false = true ∨ S w) (i d : Nat) (ho : ops[i]? = some o) (hc : chkSkip ops n L o d = true) (ht : chkP ops listed m i = true) (hQ : ∀ c a w, Q (.panic c) (a.put o.dst undef) w → Q (.panic c) a w)
    (k : ∀ a', Sl n ((d, undef) :: L) a' → wpAnyM P .any ops Q S m fuel (listed.setIfInBounds i true) a' w) : wpAnyM P .any ops Q S m (fuel + 1) listed a w := by
  obtain ⟨hd, hn, hw⟩ := chkSkip_spec hc
  simp only [chkP, Bool.and_eq_true] at ht
  obtain ⟨t3, t4, t5, t6⟩ := ht
  refine wpAnyM_first false ho (Region.noSelect_spec t3) (chkP_ne (ops := ops) t6) (fun h => by cases h) hQ fuel listed a w (Region.free_spec ho t4) (by simpa using t5) (.inr ⟨H.wanted hw, rfl⟩) (fun h => by cases h) hS ?_
  rw [hd]
  exact k _ (H.put undef hn)
theorem wpAnyM_all {rs : List Nat} (hr : Region.ready .any ops listed = rs) (hne : rs ≠ [])
    (h : ∀ i ∈ rs, wpOp P ops Q i (fun a' w' => ((listed.setIfInBounds i true).getD m false = true ∨ S w') ∧ wpAnyM P .any ops Q S m fuel (listed.setIfInBounds i true) a' w') a w) : wpAnyM P .any ops Q S m (fuel + 1) listed a w :=
  ⟨fun h0 => absurd (hr ▸ h0) hne, hr ▸ h⟩
theorem An.one (i : Nat) (hr : Region.ready .any ops listed = [i]) (h : wpOp P ops Q i (fun a' w' => ((listed.setIfInBounds i true).getD m false = true ∨ S w') ∧ wpAnyM P .any ops Q S m fuel (listed.setIfInBounds i true) a' w') a w) : wpAnyM P .any ops Q S m (fuel + 1) listed a w :=
  wpAnyM_all hr (by simp) fun j hj => by rcases List.mem_singleton.1 hj with rfl; exact h
theorem An.two (i j : Nat) (hr : Region.ready .any ops listed = [i, j]) (h : wpOp P ops Q i (fun a' w' => ((listed.setIfInBounds i true).getD m false = true ∨ S w') ∧ wpAnyM P .any ops Q S m fuel (listed.setIfInBounds i true) a' w') a w)
    (h' : wpOp P ops Q j (fun a' w' => ((listed.setIfInBounds j true).getD m false = true ∨ S w') ∧ wpAnyM P .any ops Q S m fuel (listed.setIfInBounds j true) a' w') a w) : wpAnyM P .any ops Q S m (fuel + 1) listed a w :=
  wpAnyM_all hr (by simp) fun k hk => by
    rcases List.mem_cons.1 hk with rfl | hk
    · exact h
    · rcases List.mem_singleton.1 hk with rfl; exact h'
theorem An.done (hr : Region.ready .any ops listed = []) (h : Q .normal a w) : wpAnyM P .any ops Q S m fuel listed a w := by
  cases fuel with
  | zero => exact ⟨hr, h⟩
  | succ fuel => exact ⟨fun _ => h, by rw [hr]; simp⟩
theorem wpOp_wanted (ho : ops[i]? = some o) (hw : Region.wanted o (yielded ops a.tmps) = true) (h : o.wp P a w K Q) : wpOp P ops Q i K a w := by
  unfold wpOp
  simp only [ho, hw, if_true]
  exact .inl h
theorem Op.call (H : Sl n L a) (d : Nat) {f : FuncId} {args : Array Value} {R : Ending → World → Prop} (ho : ops[i]? = some o) (hc : chk ops n L o d = true)
    (hx : (execOp (ev L) o).run P w = .ok (.enter f args) w') (hC : Calls P f args w' R) (k : ∀ e w'', R e w'' → ∃ v, e = .returned v ∧ ∀ a', Sl n ((d, v) :: L) a' → K a' w'') : wpOp P ops Q i K a w := by
  obtain ⟨hd, hn, hk, hs, hw⟩ := chk_spec hc
  refine wpOp_wanted ho (H.wanted hw) ?_
  unfold Oper.wp
  rw [H.exec hk hs, hx, Oper.upon_enter]
  refine hC.mono fun e w'' he => ?_
  obtain ⟨v, rfl, hv⟩ := k e w'' he
  rw [hd]
  exact hv _ (H.put v hn)
theorem Op.val (H : Sl n L a) (d : Nat) (v : Value) (ho : ops[i]? = some o) (hc : chk ops n L o d = true) (hx : (execOp (ev L) o).run P w = .ok (.value v) w') (k : ∀ a', Sl n ((d, v) :: L) a' → K a' w') : wpOp P ops Q i K a w := by
  obtain ⟨hd, hn, hk, hs, hw⟩ := chk_spec hc
  refine wpOp_wanted ho (H.wanted hw) ?_
  unfold Oper.wp
  rw [H.exec hk hs, hx, Oper.upon_value, hd]
  exact k _ (H.put v hn)
theorem Op.alloc {w0 : World} {LH : List HB} (H : Sl n L a) (HP : Hp w0 w LH KB) (d : Nat) (V : Nat → Value) (t : TypeId) (vs : List Value) (ho : ops[i]? = some o) (hc : chk ops n L o d = true)
    (hx : ∀ w, (execOp (ev L) o).run P w = .ok (.value (V w.heap.size)) (w.alloc (.cells vs.toArray t)))
    (k : ∀ b w' a', Sl n ((d, V b) :: L) a' → Hp w0 w' (bx b t vs true :: LH) KB → K a' w') : wpOp P ops Q i K a w :=
  Op.val H d _ ho hc (hx w) fun a' H' => k _ _ a' H' (HP.alloc t vs)
theorem Op.store {w0 : World} {LH : List HB} {t : TypeId} {x y : Operand} {ty : TypeId} {pos : String} {af : Array Edge} {g : Option (Nat × Bool)} (H : Sl n L a) (HP : Hp w0 w LH KB) (ib b off k : Nat) (tb : TypeId) (us : List Value) (f : Bool) (v : Value) (LH' : List HB)
    (ho : ops[i]? = some ⟨none, .store t x y, ty, pos, af, g⟩) (hc : chk0 ops L ⟨none, .store t x y, ty, pos, af, g⟩ = true) (hx : ev L x = .pointer (some ⟨b, off, none⟩)) (hy : ev L y = v) (hi : LH[ib]? = some (bx b tb us f)) (hs : sizeB P t = some k) (hv : v.cells.size = k) (h1 : oneCells v.cells.toList = true) (hl : Nat.ble (off + v.cells.toList.length) us.length = true)
    (hL : LH.set ib (bx b tb (setAll us off v.cells.toList) f) = LH')
    (kk : ∀ w' a', Sl n L a' → Hp w0 w' LH' KB → K a' w') : wpOp P ops Q i K a w := by
  obtain ⟨hd, hk, hs', hw⟩ := chk0_spec hc
  refine wpOp_wanted ho (H.wanted hw) ?_
  obtain ⟨w', hr, hw'⟩ := run_storeCells (P := P) (off := off) v.cells.toList us 0 w LH KB HP hi h1 (by simpa [Nat.ble_eq] using hl)
  unfold Oper.wp
  rw [H.exec hk hs']
  simp only [execOp, hx, hy, Instr.storeAt, Instr.sureAddr, storeVar, Sem.run_bind, Sem.run_pure, Result.andThen_ok, run_sizeOf hs, hv]
  simp only [ne_eq, not_true_eq_false, if_false, hr, Result.andThen_ok, Oper.upon_skip]
  exact kk w' _ H (hL ▸ hw')
end
theorem wide_follows : Tryz.prog.follows .mixedOrders = true := by kernel_rfl
theorem Hp.perm {w0 w : World} {L L' : List HB} {K : List FK} (H : Hp w0 w L K) (h : L.Perm L') : Hp w0 w L' K :=
  ⟨H.os, H.tape, H.output, H.size, fun k hk hn => H.old k hk fun x hx => hn x (h.subset hx), fun x hx => H.res x (h.symm.subset hx), h.pairwise H.apart (fun {x y} hxy k hk hk' => hxy k hk' hk), fun x hx => H.fresh x (h.symm.subset hx), fun p hp => let ⟨h1, h2, h3⟩ := H.kept p hp; ⟨h1, h2, fun k hk => ⟨(h3 k hk).1, fun x hx => (h3 k hk).2 x (h.symm.subset hx)⟩⟩⟩
theorem perm_front {α : Type} : ∀ {L : List α} {i : Nat} {x : α}, L[i]? = some x → L.Perm (x :: L.eraseIdx i)
  | [], _, _, h => by cases h
  | a :: L, 0, x, h => by simp only [List.getElem?_cons_zero, Option.some.injEq] at h; subst h; exact .refl _
  | a :: L, i + 1, x, h => by
    simp only [List.getElem?_cons_succ] at h
    simp only [List.eraseIdx_cons_succ]
    exact ((perm_front h).cons a).trans (.swap _ _ _)
theorem Hp.front {w0 w : World} {L : List HB} {K : List FK} (H : Hp w0 w L K) (i : Nat) {x : HB} (hi : L[i]? = some x) (L' : List HB) (hL : x :: L.eraseIdx i = L') : Hp w0 w L' K := by
  subst hL; exact H.perm (perm_front hi)
def placed (L : List HB) : List Nat → List HB
  | [] => []
  | i :: is => match L[i]? with
    | some x => x :: placed L is
    | none => placed L is
theorem Rd.of_boxN {w : World} {b t size : Nat} {vs : List Value} (h : Box w b t vs.toArray) (hl : vs.length = 1 * size) : Rd w size (some ⟨b, 0, none⟩) 1 vs :=
  ⟨hl, .inr ⟨b, 0, rfl, h.lt, fun i hi => by
    have hi' : i < vs.length := by omega
    rw [Nat.zero_add, List.getElem?_eq_getElem hi']
    exact h.cell (by simp [List.getElem?_eq_getElem hi'])⟩⟩
theorem oneCells_spec : ∀ {vs : List Value}, oneCells vs = true → ∀ u ∈ vs, u.oneCell' = true
  | [], _, u, h => by cases h
  | v :: vs, h, u, hu => by
    simp only [oneCells, Bool.and_eq_true] at h
    rcases List.mem_cons.1 hu with rfl | hu
    · have h1 := h.1
      cases u <;> first | rfl | cases h1
    · exact oneCells_spec h.2 u hu
def infoB (P : Program) (e : TypeId) : Option (Option Value × Nat × Nat) := (P.info? e).map fun i => (i.zero, i.size, i.bytes)
theorem infoB_spec {P : Program} {e : TypeId} {z : Value} {size bytes : Nat} (h : infoB P e = some (some z, size, bytes)) : ∃ i, P.info? e = some i ∧ i.zero = some z ∧ i.size = size ∧ i.bytes = bytes := by
  unfold infoB at h
  cases hi : P.info? e with
  | none => rw [hi] at h; cases h
  | some i =>
    rw [hi] at h
    simp only [Option.map_some, Option.some.injEq, Prod.mk.injEq] at h
    exact ⟨i, rfl, h⟩
section
variable {α : Type}
def ElOk (ok : α → World → Prop) (fe : α → Nat → Prop) : Prop := ∀ a w1 w2, ok a w1 → (∀ k, fe a k → w2.heap[k]? = w1.heap[k]?) → w1.heap.size ≤ w2.heap.size → ok a w2
theorem elOk_flat : ElOk (α := α) (fun _ _ => True) (fun _ _ => False) := fun _ _ _ _ _ _ => trivial
abbrev flat (cs : α → Array Value) (l : List α) : List Value := l.flatMap fun a => (cs a).toList
def rowsR (base : Nat) (e : TypeId) (size : Nat) (cs : α → Array Value) (ok : α → World → Prop) (fe : α → Nat → Prop) (v : Value) (l : List α) : HB :=
  ⟨fun k => v.ownBlock = some k ∨ ∃ a ∈ l, fe a k, fun w => w.ownsRow base e size v l.length (flat cs l) ∧ ∀ a ∈ l, ok a w ∧ ∀ k, fe a k → k < w.heap.size ∧ v.ownBlock ≠ some k, true⟩
def rowsP (base : Nat) (e : TypeId) (size : Nat) (cs : α → Array Value) (ok : α → World → Prop) (fe : α → Nat → Prop) (v : Value) (l : List α) (p : α) : HB :=
  ⟨fun k => (v.ownBlock = some k ∨ ∃ a ∈ l, fe a k) ∨ fe p k, fun w => (w.ownsRow base e size v l.length (flat cs l) ∧ ∀ a ∈ l, ok a w ∧ ∀ k, fe a k → k < w.heap.size ∧ v.ownBlock ≠ some k) ∧ ok p w ∧ ∀ k, fe p k → k < w.heap.size ∧ v.ownBlock ≠ some k, true⟩
variable {base : Nat} {e : TypeId} {size : Nat} {cs : α → Array Value} {ok : α → World → Prop} {fe : α → Nat → Prop} {v : Value} {l : List α} {p : α}
theorem own_keep {w1 w2 : World} {n : Nat} {xs : List Value} (h : w1.ownsRow base e size v n xs) (hk : ∀ k, v.ownBlock = some k → w2.heap[k]? = w1.heap[k]?) : w2.ownsRow base e size v n xs := by
  obtain ⟨h1, h2⟩ := h
  refine ⟨h1, ?_⟩
  rcases h2 with h2 | ⟨g, cap, cur, hv, hg, hh, r⟩
  · exact .inl h2
  · exact .inr ⟨g, cap, cur, hv, hg, (hk g (by rw [hv]; rfl)).trans hh, r⟩
theorem own_lt {w : World} {n : Nat} {xs : List Value} (h : w.ownsRow base e size v n xs) : ∀ k, v.ownBlock = some k → k < w.heap.size ∧ base ≤ k := by
  intro k hk
  rcases h.2 with ⟨rfl, _⟩ | ⟨g, cap, cur, rfl, hb, hh, _⟩
  · cases hk
  · cases hk; exact ⟨(Array.getElem?_eq_some_iff.1 hh).1, hb⟩
theorem rowsR_ok (hel : ElOk ok fe) : (rowsR base e size cs ok fe v l).ok := fun w1 w2 h hk hs =>
  ⟨own_keep h.1 fun k hv => hk k (.inl hv), fun a ha => ⟨hel a w1 w2 (h.2 a ha).1 (fun k hf => hk k (.inr ⟨a, ha, hf⟩)) hs, fun k hf => ⟨Nat.lt_of_lt_of_le ((h.2 a ha).2 k hf).1 hs, ((h.2 a ha).2 k hf).2⟩⟩⟩
theorem rowsP_ok (hel : ElOk ok fe) : (rowsP base e size cs ok fe v l p).ok := fun w1 w2 h hk hs =>
  ⟨⟨own_keep h.1.1 fun k hv => hk k (.inl (.inl hv)), fun a ha => ⟨hel a w1 w2 (h.1.2 a ha).1 (fun k hf => hk k (.inl (.inr ⟨a, ha, hf⟩))) hs, fun k hf => ⟨Nat.lt_of_lt_of_le ((h.1.2 a ha).2 k hf).1 hs, ((h.1.2 a ha).2 k hf).2⟩⟩⟩,
    hel p w1 w2 h.2.1 (fun k hf => hk k (.inr hf)) hs, fun k hf => ⟨Nat.lt_of_lt_of_le (h.2.2 k hf).1 hs, (h.2.2 k hf).2⟩⟩
theorem Hp.nilRow {w0 w : World} {L : List HB} {K : List FK} (H : Hp w0 w L K) (base : Nat) (e : TypeId) (size : Nat) (cs : α → Array Value) (ok : α → World → Prop) (fe : α → Nat → Prop) (hel : ElOk ok fe) : Hp w0 w (rowsR base e size cs ok fe (.slice none 0 0) [] :: L) K :=
  have hno : ∀ k, ¬ (rowsR base e size cs ok fe (.slice none 0 0) []).fp k := fun k hk => by
    rcases hk with h | ⟨a, ha, _⟩
    · cases h
    · cases ha
  H.add _ ⟨World.ownsRow_nil _ _ _ _, fun a ha => by cases ha⟩ (rowsR_ok hel) (fun k hk => (hno k hk).elim) (fun k hk => (hno k hk).elim) (fun _ k hk => (hno k hk).elim)
theorem Hp.pend {w0 w w' : World} {L : List HB} {K : List FK} (H : Hp w0 w L K) (i : Nat) (hi : L[i]? = some (rowsR base e size cs ok fe v l)) (hel : ElOk ok fe) (p : α) (L' : List HB) (hL : L.set i (rowsP base e size cs ok fe v l p) = L') (hb : Below w.heap.size w w') (hp : ok p w') (hn : ∀ k, fe p k → w.heap.size ≤ k ∧ k < w'.heap.size) : Hp w0 w' L' K := by
  have hx := H.held i hi
  have hr := (H.res _ (List.mem_of_getElem? hi)).2.2
  have hx' := rowsR_ok (base := base) (e := e) (size := size) (cs := cs) (v := v) (l := l) hel w w' hx (fun k hk => hb.block k (hr k hk)) hb.size
  refine H.mut i hi (rowsP base e size cs ok fe v l p) L' hL (Agree.of_below hb) ⟨hx', hp, fun k hk => ⟨(hn k hk).2, fun e => ?_⟩⟩ (rowsP_ok hel) (fun k hk => ?_) (fun k hk => ?_) (fun k _ hk => .inl hk) rfl
  · have := hr k (.inl e); have := (hn k hk).1; omega
  · rcases hk with hk | hk
    · exact Nat.lt_of_lt_of_le (hr k hk) hb.size
    · exact (hn k hk).2
  · rcases hk with hk | hk
    · exact .inl hk
    · exact .inr (hn k hk).1
theorem Hp.pend0 {w0 w : World} {L : List HB} {K : List FK} (H : Hp w0 w L K) (i : Nat) (hi : L[i]? = some (rowsR base e size cs ok fe v l)) (hel : ElOk ok fe) (p : α) (L' : List HB) (hL : L.set i (rowsP base e size cs ok fe v l p) = L') (hp : ok p w) (hn : ∀ k, ¬ fe p k) : Hp w0 w L' K :=
  H.pend i hi hel p L' hL (Below.refl _ _) hp fun k hk => (hn k hk).elim
theorem flat_snoc (cs : α → Array Value) (l : List α) (p : α) : flat cs (l ++ [p]) = flat cs l ++ (cs p).toList := by simp [flat]
theorem wp_push {P : Program} {w0 w : World} {LH : List HB} {K : List FK} {o : Oper} {a : Act} {KK : Act → World → Prop} {Q : Exit → Act → World → Prop} (HP : Hp w0 w LH K) (ir ib : Nat) {bb tb : Nat} {fb : Bool} (s x : Operand) (t : TypeId)
    (ho : o.op = .call { callee := .builtin .append, args := #[s, x], argTypes := #[t, t] }) (hel : ElOk ok fe) {z : Value} {bytes : Nat} (ht : P.underlying t = some (.slice e)) (hinf : infoB P e = some (some z, size, bytes)) (hzs : z.cells.size = size) (hsz : 0 < size)
    (hs : a.eval s = v) (hx : a.eval x = .slice (some ⟨bb, 0, none⟩) 1 1) (hi : LH[ir]? = some (rowsP w0.heap.size e size cs ok fe v l p)) (hb : LH[ib]? = some (bx bb tb (cs p).toList fb)) (hl : (cs p).toList.length = size) (h1 : oneCells (cs p).toList = true)
    (h63 : l.length + 1 ≤ maxLen) (hbytes : (l.length + 1) * bytes ≤ 140737488355328)
    (h : ∀ B c' w', Hp w0 w' (LH.set ir (rowsR w0.heap.size e size cs ok fe (.slice B (l.length + 1) c') (l ++ [p]))) K → KK (a.put o.dst (.slice B (l.length + 1) c')) w') : o.wp P a w KK Q := by
  obtain ⟨i, hi0, hi1, hi2, hi3⟩ := infoB_spec hinf
  have hF := HP.held ir hi
  have hres := (HP.res _ (List.mem_of_getElem? hi)).2.2
  refine wp_append_rd w s x t ho w0.heap.size e i z size bytes ht hi0 hi1 hi2 hi3 hzs hsz v l.length (flat cs l) hs hF.1.1 (some ⟨bb, 0, none⟩) 1 1 (cs p).toList hx (fun e => by cases e) (Rd.of_boxN (HP.at_ ib hb) (by omega)) (oneCells_spec h1) h63 hbytes HP.size ?_
  intro B c' w' hown hg hat
  refine h B c' w' ?_
  have hkeep : ∀ a, (∀ k, fe a k → k < w.heap.size ∧ v.ownBlock ≠ some k) → ∀ k, fe a k → w'.heap[k]? = w.heap[k]? := fun a hf k hk => hg.block k (hf k hk).1 fun e => (hf k hk).2 e.symm
  have hsep : ∀ a, (∀ k, fe a k → k < w.heap.size ∧ v.ownBlock ≠ some k) → ∀ k, fe a k → k < w'.heap.size ∧ (Value.slice B (l.length + 1) c').ownBlock ≠ some k := fun a hf k hk => ⟨Nat.lt_of_lt_of_le (hf k hk).1 hg.size, fun e => by
    rcases hat with h' | h'
    · exact (hf k hk).2 (h' ▸ e)
    · rw [h'] at e
      have := (hf k hk).1
      have e' := Option.some.inj e
      omega⟩
  refine HP.mut ir hi _ _ rfl (Agree.of_grown hg fun k hk => .inl (.inl hk)) ⟨?_, ?_⟩ (rowsR_ok hel) (fun k hk => ?_) (fun k hk => ?_) (fun k hk hk' => ?_) rfl
  · rw [flat_snoc, List.length_append]
    exact hown
  · intro a ha
    rcases List.mem_append.1 ha with ha | ha
    · exact ⟨hel a w w' (hF.1.2 a ha).1 (hkeep a (hF.1.2 a ha).2) hg.size, hsep a (hF.1.2 a ha).2⟩
    · rcases List.mem_singleton.1 ha with rfl
      exact ⟨hel a w w' hF.2.1 (hkeep a hF.2.2) hg.size, hsep a hF.2.2⟩
  · rcases hk with hk | ⟨a, ha, hk⟩
    · exact (own_lt hown k hk).1
    · rcases List.mem_append.1 ha with ha | ha
      · exact (hsep a (hF.1.2 a ha).2 k hk).1
      · rcases List.mem_singleton.1 ha with rfl
        exact (hsep a hF.2.2 k hk).1
  · rcases hk with hk | ⟨a, ha, hk⟩
    · rcases hat with h' | h'
      · exact .inl (.inl (.inl (h' ▸ hk)))
      · rw [h'] at hk
        have := Option.some.inj hk
        exact .inr (by omega)
    · rcases List.mem_append.1 ha with ha | ha
      · exact .inl (.inl (.inr ⟨a, ha, hk⟩))
      · rcases List.mem_singleton.1 ha with rfl
        exact .inl (.inr hk)
  · have := HP.fresh _ (List.mem_of_getElem? hi) rfl k hk'
    omega
theorem Sl.push {P : Program} {ops : Array Oper} {Q : Exit → Act → World → Prop} {a : Act} {w0 w : World} {LH : List HB} {K : List FK} {rest : List Oper} {n : Nat} {L : List (Nat × Value)} {s x : Operand} {t ty : TypeId} {pos : String} {af : Array Edge} {g : Option (Nat × Bool)} (H : Sl n L a) (HP : Hp w0 w LH K) (d ir ib : Nat) {bb tb : Nat} {fb : Bool} {z : Value} {bytes : Nat}
    (hc : chk ops n L ⟨some d, .call { callee := .builtin .append, args := #[s, x], argTypes := #[t, t] }, ty, pos, af, g⟩ d = true) (hel : ElOk ok fe) (ht : P.underlying t = some (.slice e)) (hinf : infoB P e = some (some z, size, bytes)) (hzs : z.cells.size = size) (hsz : Nat.blt 0 size = true)
    (hs : ev L s = v) (hx : ev L x = .slice (some ⟨bb, 0, none⟩) 1 1) (hi : LH[ir]? = some (rowsP w0.heap.size e size cs ok fe v l p)) (hb : LH[ib]? = some (bx bb tb (cs p).toList fb)) (hl : (cs p).toList.length = size) (h1 : oneCells (cs p).toList = true)
    (h63 : l.length + 1 ≤ maxLen) (hbytes : (l.length + 1) * bytes ≤ 140737488355328)
    (k : ∀ B c' w' a', Sl n ((d, .slice B (l.length + 1) c') :: L) a' → Hp w0 w' (LH.set ir (rowsR w0.heap.size e size cs ok fe (.slice B (l.length + 1) c') (l ++ [p]))) K → wpList P ops Q rest a' w') :
    wpList P ops Q (⟨some d, .call { callee := .builtin .append, args := #[s, x], argTypes := #[t, t] }, ty, pos, af, g⟩ :: rest) a w := by
  obtain ⟨hd, hn, hk, hs', hw⟩ := chk_spec hc
  have k1 := knowsAll_spec hk s (by simp [Op.operands, Call.operands])
  have k2 := knowsAll_spec hk x (by simp [Op.operands, Call.operands])
  exact wpList_wanted (H.wanted hw) (wp_push HP ir ib s x t rfl hel ht hinf hzs (by simp [Nat.blt] at hsz; omega) ((H.eval k1).trans hs) ((H.eval k2).trans hx) hi hb hl h1 h63 hbytes fun B c' w' h' => k B c' w' _ (H.put _ hn) h')
theorem Op.push {P : Program} {ops : Array Oper} {Q : Exit → Act → World → Prop} {a : Act} {w0 w : World} {LH : List HB} {K : List FK} {KK : Act → World → Prop} {i n : Nat} {L : List (Nat × Value)} {s x : Operand} {t ty : TypeId} {pos : String} {af : Array Edge} {g : Option (Nat × Bool)} (H : Sl n L a) (HP : Hp w0 w LH K) (d ir ib : Nat) {bb tb : Nat} {fb : Bool} {z : Value} {bytes : Nat}
    (hop : ops[i]? = some ⟨some d, .call { callee := .builtin .append, args := #[s, x], argTypes := #[t, t] }, ty, pos, af, g⟩)
    (hc : chk ops n L ⟨some d, .call { callee := .builtin .append, args := #[s, x], argTypes := #[t, t] }, ty, pos, af, g⟩ d = true) (hel : ElOk ok fe) (ht : P.underlying t = some (.slice e)) (hinf : infoB P e = some (some z, size, bytes)) (hzs : z.cells.size = size) (hsz : Nat.blt 0 size = true)
    (hs : ev L s = v) (hx : ev L x = .slice (some ⟨bb, 0, none⟩) 1 1) (hi : LH[ir]? = some (rowsP w0.heap.size e size cs ok fe v l p)) (hb : LH[ib]? = some (bx bb tb (cs p).toList fb)) (hl : (cs p).toList.length = size) (h1 : oneCells (cs p).toList = true)
    (h63 : l.length + 1 ≤ maxLen) (hbytes : (l.length + 1) * bytes ≤ 140737488355328)
    (k : ∀ B c' w' a', Sl n ((d, .slice B (l.length + 1) c') :: L) a' → Hp w0 w' (LH.set ir (rowsR w0.heap.size e size cs ok fe (.slice B (l.length + 1) c') (l ++ [p]))) K → KK a' w') : wpOp P ops Q i KK a w := by
  obtain ⟨hd, hn, hk, hs', hw⟩ := chk_spec hc
  have k1 := knowsAll_spec hk s (by simp [Op.operands, Call.operands])
  have k2 := knowsAll_spec hk x (by simp [Op.operands, Call.operands])
  exact wpOp_wanted hop (H.wanted hw) (wp_push HP ir ib s x t rfl hel ht hinf hzs (by simp [Nat.blt] at hsz; omega) ((H.eval k1).trans hs) ((H.eval k2).trans hx) hi hb hl h1 h63 hbytes fun B c' w' h' => k B c' w' _ (H.put _ hn) h')
end
theorem Rd.lt {w : World} {size n j : Nat} {A : Option Addr} {xs : List Value} (h : Rd w size A n xs) (hj : rowFp n A j) : j < w.heap.size := by
  obtain ⟨h1, h2⟩ := h
  obtain ⟨hn, off, rfl⟩ := hj
  rcases h2 with h2 | ⟨b, o, he, hlt, _⟩
  · omega
  · cases he; exact hlt
section
variable {α : Type} {k : Nat} {cs : α → Array Value}
theorem flat_len (hk : ∀ e, (cs e).size = k) (l : List α) : (flat cs l).length = l.length * k := by
  induction l with
  | nil => simp
  | cons a l ih => simp only [flat, List.flatMap_cons, List.length_append, List.length_cons] at *; rw [ih, Array.length_toList, hk, Nat.succ_mul, Nat.add_comm]
theorem flat_get (hk : ∀ e, (cs e).size = k) (l : List α) (i j : Nat) (h : i < l.length) (hj : j < k) : (flat cs l)[i * k + j]? = (cs l[i])[j]? := by
  induction l generalizing i with
  | nil => simp at h
  | cons a l ih =>
    have ha := hk a
    cases i with
    | zero => simp only [flat, List.flatMap_cons, Nat.zero_mul, Nat.zero_add]; rw [List.getElem?_append_left (by simpa [ha] using hj)]; simp
    | succ i =>
      have := ih i (by simpa using h)
      rw [show (i + 1) * k + j = (i * k + j) + k by rw [Nat.succ_mul]; omega]
      simp only [flat, List.flatMap_cons]
      rw [List.getElem?_append_right (by simp [ha])]
      simpa [ha] using this
def IsRow (k : Nat) (cs : α → Array Value) (w : World) (A : Option Addr) (l : List α) : Prop := Rd w k A l.length (flat cs l)
theorem IsRow.below {w w' : World} {A : Option Addr} {l : List α} (h : IsRow k cs w A l) (hb : Below w.heap.size w w') : IsRow k cs w' A l := Rd.below h hb
theorem IsRow.nil (w : World) (A : Option Addr) : IsRow k cs w A [] := Rd.nil _ _ _
theorem drop_get {α : Type} {l : List α} {i : Nat} (h : i < l.length) : l.drop i = l[i] :: l.drop (i + 1) := (List.getElem_cons_drop h).symm
theorem IsRow.get (hk : ∀ e, (cs e).size = k) {w : World} {A : Option Addr} {l : List α} (h : IsRow k cs w A l) {i : Nat} (hi : i < l.length) :
    ∃ b off x, A = some ⟨b, off, none⟩ ∧ b < w.heap.size ∧ l.drop i = x :: l.drop (i + 1) ∧ l[i]? = some x ∧ x ∈ l ∧ cellsAt w b (off + i * k) (cs x).toList := by
  obtain ⟨h1, h3⟩ := h
  obtain ⟨b, off, rfl, hb, hc⟩ := h3.resolve_left (by omega)
  refine ⟨b, off, l[i], rfl, hb, drop_get hi, List.getElem?_eq_getElem hi, List.getElem_mem hi, fun j v hv => ?_⟩
  have hj : j < k := by
    have := (List.getElem?_eq_some_iff.1 hv).1
    rwa [Array.length_toList, hk] at this
  have hm : i * k + j < l.length * k := by
    have : (i + 1) * k ≤ l.length * k := Nat.mul_le_mul_right _ (by omega)
    rw [Nat.succ_mul] at this
    omega
  rw [Nat.add_assoc, hc (i * k + j) hm, flat_get hk l i j hi hj]
  simpa using hv
theorem flat_take (hk : ∀ e, (cs e).size = k) (l : List α) (j : Nat) : (flat cs l).take (j * k) = flat cs (l.take j) := by
  induction l generalizing j with
  | nil => simp
  | cons a l ih =>
    cases j with
    | zero => simp
    | succ j =>
      simp only [flat, List.flatMap_cons, List.take_succ_cons] at *
      rw [List.take_append, ← ih j, Array.length_toList, hk, Nat.succ_mul, Nat.add_sub_cancel, List.take_of_length_le (by rw [Array.length_toList, hk]; omega)]
theorem IsRow.take (hk : ∀ e, (cs e).size = k) {w : World} {A : Option Addr} {l : List α} (h : IsRow k cs w A l) {j : Nat} (hj : j ≤ l.length) : IsRow k cs w A (l.take j) := by
  unfold IsRow
  rw [List.length_take, Nat.min_eq_left hj, ← flat_take hk]
  exact Rd.take h hj
theorem IsRow.keep {w w' : World} {A : Option Addr} {l : List α} (h : IsRow k cs w A l) (hk : ∀ b, rowFp l.length A b → w'.heap[b]? = w.heap[b]?) (hs : w.heap.size ≤ w'.heap.size) : IsRow k cs w' A l := Rd.keep h hk hs
theorem IsRow.lt {w : World} {A : Option Addr} {l : List α} (h : IsRow k cs w A l) : ∀ b, rowFp l.length A b → b < w.heap.size := fun b hb => Rd.lt h hb
end
abbrev Alts := List (Int × Int)
structure Itm where
  id : Int
  kind : Int
  frames : Int
  sponsor : Int
  rating : Int
structure Bkg where
  id : Int
  item : Int
  region : Int
  from_ : Int
  to_ : Int
  until_ : Int
  price : Int
structure Cls where
  kind : Int
  item : Int
  from_ : Int
  to_ : Int
  regions : Int
  n : Int
  a : Int
  b : Int
structure Ent where
  id : Int
  item : Int
  frames : Int
  earliest : Int
  latest : Int
  booking : Int
  A : Option Addr
  c : Nat
  al : Alts
structure Pln where
  channel : Int
  num : Int
  den : Int
  offset : Int
  SA : Option Addr
  sc : Nat
  sh : Alts
  epoch : Int
  regions : Int
  length : Int
  fill : Int
  IA : Option Addr
  ic : Nat
  its : List Itm
  EA : Option Addr
  ec : Nat
  es : List Ent
  BA : Option Addr
  bc : Nat
  bs : List Bkg
  CA : Option Addr
  cc : Nat
  cs : List Cls
def altC (a : Int × Int) : Array Value := #[.int .i64 a.1, .int .i64 a.2]
def itC (x : Itm) : Array Value := #[.int .i64 x.id, .int .i64 x.kind, .int .i64 x.frames, .int .i64 x.sponsor, .int .i64 x.rating]
def bkC (x : Bkg) : Array Value := #[.int .i64 x.id, .int .i64 x.item, .int .i64 x.region, .int .i64 x.from_, .int .i64 x.to_, .int .i64 x.until_, .int .i64 x.price]
def clC (x : Cls) : Array Value := #[.int .i64 x.kind, .int .i64 x.item, .int .i64 x.from_, .int .i64 x.to_, .int .i64 x.regions, .int .i64 x.n, .int .i64 x.a, .int .i64 x.b]
def enC (x : Ent) : Array Value := #[.int .i64 x.id, .int .i64 x.item, .int .i64 x.frames, .int .i64 x.earliest, .int .i64 x.latest, .int .i64 x.booking, .slice x.A x.al.length x.c]
def plC (p : Pln) : List Value := [.int .i64 p.channel, .int .i64 p.num, .int .i64 p.den, .int .i64 p.offset, .slice p.SA p.sh.length p.sc, .int .i64 p.epoch, .int .i64 p.regions, .int .i64 p.length, .int .i64 p.fill,
  .slice p.IA p.its.length p.ic, .slice p.EA p.es.length p.ec, .slice p.BA p.bs.length p.bc, .slice p.CA p.cs.length p.cc]
abbrev IsAl (w : World) (A : Option Addr) (l : Alts) : Prop := IsRow 2 altC w A l
abbrev IsIt (w : World) (A : Option Addr) (l : List Itm) : Prop := IsRow 5 itC w A l
abbrev IsBk (w : World) (A : Option Addr) (l : List Bkg) : Prop := IsRow 7 bkC w A l
abbrev IsCl (w : World) (A : Option Addr) (l : List Cls) : Prop := IsRow 8 clC w A l
theorem altC_size (e : Int × Int) : (altC e).size = 2 := rfl
theorem itC_size (e : Itm) : (itC e).size = 5 := rfl
theorem bkC_size (e : Bkg) : (bkC e).size = 7 := rfl
theorem clC_size (e : Cls) : (clC e).size = 8 := rfl
theorem enC_size (e : Ent) : (enC e).size = 7 := rfl
def Ent.ok (e : Ent) (w : World) : Prop := IsAl w e.A e.al ∧ e.al.length ≤ maxLen
def Ent.fp (e : Ent) (k : Nat) : Prop := rowFp e.al.length e.A k
structure IsEn (w : World) (A : Option Addr) (l : List Ent) : Prop where
  row : IsRow 7 enC w A l
  ok : ∀ e ∈ l, e.ok w
def enFp (A : Option Addr) (l : List Ent) (k : Nat) : Prop := rowFp l.length A k ∨ ∃ e ∈ l, e.fp k
theorem Ent.ok.keep {e : Ent} {w w' : World} (h : e.ok w) (hk : ∀ b, e.fp b → w'.heap[b]? = w.heap[b]?) (hs : w.heap.size ≤ w'.heap.size) : e.ok w' := ⟨h.1.keep hk hs, h.2⟩
theorem IsEn.keep {w w' : World} {A : Option Addr} {l : List Ent} (h : IsEn w A l) (hk : ∀ b, enFp A l b → w'.heap[b]? = w.heap[b]?) (hs : w.heap.size ≤ w'.heap.size) : IsEn w' A l :=
  ⟨h.row.keep (fun b hb => hk b (.inl hb)) hs, fun e he => (h.ok e he).keep (fun b hb => hk b (.inr ⟨e, he, hb⟩)) hs⟩
theorem IsEn.lt {w : World} {A : Option Addr} {l : List Ent} (h : IsEn w A l) : ∀ b, enFp A l b → b < w.heap.size := by
  rintro b (hb | ⟨e, he, hb⟩)
  · exact h.row.lt b hb
  · exact (h.ok e he).1.lt b hb
theorem IsEn.below {w w' : World} {A : Option Addr} {l : List Ent} (h : IsEn w A l) (hb : Below w.heap.size w w') : IsEn w' A l :=
  h.keep (fun b hb' => hb.block b (h.lt b hb')) hb.size
structure IsPln (w : World) (p : Pln) : Prop where
  sh : IsAl w p.SA p.sh
  its : IsIt w p.IA p.its
  es : IsEn w p.EA p.es
  bs : IsBk w p.BA p.bs
  cs : IsCl w p.CA p.cs
  lsh : p.sh.length ≤ maxLen
  lits : p.its.length ≤ maxLen
  les : p.es.length ≤ maxLen
  lbs : p.bs.length ≤ maxLen
  lcs : p.cs.length ≤ maxLen
def Pln.fp (p : Pln) (k : Nat) : Prop := rowFp p.sh.length p.SA k ∨ rowFp p.its.length p.IA k ∨ enFp p.EA p.es k ∨ rowFp p.bs.length p.BA k ∨ rowFp p.cs.length p.CA k
theorem IsPln.keep {w w' : World} {p : Pln} (h : IsPln w p) (hk : ∀ b, p.fp b → w'.heap[b]? = w.heap[b]?) (hs : w.heap.size ≤ w'.heap.size) : IsPln w' p :=
  ⟨h.sh.keep (fun b hb => hk b (.inl hb)) hs, h.its.keep (fun b hb => hk b (.inr (.inl hb))) hs, h.es.keep (fun b hb => hk b (.inr (.inr (.inl hb)))) hs, h.bs.keep (fun b hb => hk b (.inr (.inr (.inr (.inl hb))))) hs, h.cs.keep (fun b hb => hk b (.inr (.inr (.inr (.inr hb))))) hs, h.lsh, h.lits, h.les, h.lbs, h.lcs⟩
theorem IsPln.lt {w : World} {p : Pln} (h : IsPln w p) : ∀ b, p.fp b → b < w.heap.size := by
  rintro b (hb | hb | hb | hb | hb)
  · exact h.sh.lt b hb
  · exact h.its.lt b hb
  · exact h.es.lt b hb
  · exact h.bs.lt b hb
  · exact h.cs.lt b hb
theorem IsPln.below {w w' : World} {p : Pln} (h : IsPln w p) (hb : Below w.heap.size w w') : IsPln w' p :=
  h.keep (fun b hb' => hb.block b (h.lt b hb')) hb.size
def plnK (p : Pln) : FK := ⟨p.fp, fun w => IsPln w p⟩
theorem plnK_ok (p : Pln) : (plnK p).ok := fun _ _ h hk hs => IsPln.keep h hk hs
def mEs (l : List (Int × Value)) : List MapEntry := l.zipIdx.map fun p => { key := .int .i64 p.1.1, val := p.1.2, born := p.2 }
def mget (k : Int) (l : List (Int × Value)) : Option Value := (l.find? fun p => p.1 == k).map (·.2)
def MapAt (w : World) (b : Nat) (l : List (Int × Value)) : Prop := w.heap[b]? = some (.map (mEs l).toArray l.length)
theorem mEs_push (l : List (Int × Value)) (k : Int) (v : Value) : (mEs l).toArray.push { key := .int .i64 k, val := v, born := l.length } = (mEs (l ++ [(k, v)])).toArray := by
  simp [mEs, List.zipIdx_append]
theorem findNow_mEs (k : Int) : ∀ (l : List (Int × Value)) (s i : Nat), ∃ r, Instr.findNow (.int .i64) (.int .i64 k) ((l.zipIdx s).map fun p => ({ key := .int .i64 p.1.1, val := p.1.2, born := p.2 } : MapEntry)) i = some r ∧ r.map (·.2) = mget k l
  | [], s, i => ⟨none, rfl, rfl⟩
  | (k', v) :: l, s, i => by
    simp only [List.zipIdx_cons, List.map_cons, Instr.findNow, Instr.sameNow, if_true]
    by_cases h : k = k'
    · subst h
      refine ⟨some (i, v), by simp, by simp [mget]⟩
    · have hb : (k == k') = false := by simpa using h
      have hb' : (k' == k) = false := by simpa using fun e => h e.symm
      rw [hb]
      obtain ⟨r, h1, h2⟩ := findNow_mEs k l (s + 1) (i + 1)
      refine ⟨r, h1, h2.trans ?_⟩
      simp only [mget, List.find?_cons, hb']
def mapB (b : Nat) (l : List (Int × Value)) (f : Bool) : HB := ⟨fun k => k = b, fun w => MapAt w b l, f⟩
theorem mapB_ok (b : Nat) (l : List (Int × Value)) (f : Bool) : (mapB b l f).ok := fun _ _ h hk _ => (hk b rfl).trans h
theorem MapAt.lt {w : World} {b : Nat} {l : List (Int × Value)} (h : MapAt w b l) : b < w.heap.size := (Array.getElem?_eq_some_iff.1 h).1
theorem MapAt.next {w w' : World} {b : Nat} {l : List (Int × Value)} (h : MapAt w b l) (hb : Below w.heap.size w w') : MapAt w' b l := (hb.block b h.lt).trans h
theorem run_lookupM {P : Program} {w : World} {b : Nat} {l : List (Int × Value)} {t kt et : TypeId} {k : Int} {z : Value} (c : Bool) (ht : P.underlying t = some (.map kt et)) (hk : P.underlying kt = some (.int .i64)) (hz : (zeroValue et).run P w = .ok z w) (h : MapAt w b l) :
    (Instr.lookup t (.map (some b)) (.int .i64 k) c).run P w = .ok (if c then .tuple #[(mget k l).getD z, .bool (mget k l).isSome] else (mget k l).getD z) w := by
  obtain ⟨r, h1, h2⟩ := findNow_mEs k l 0 0
  have hK : MapKept.IsKey (.int .i64) (.int .i64 k) := by simp [MapKept.IsKey]
  have hf := MapKept.run_findKey (w := w) (l := (mEs l).toArray.toList) hk h1
  simp only [Instr.lookup, Sem.run_bind, run_underlying ht, MapKept.run_getObj_map h, Result.andThen, MapKept.run_checkKey hk hK, Sem.run_pure, hf]
  cases r with
  | none => simp only [Option.map_none] at h2; simp [← h2, hz]
  | some p => simp only [Option.map_some] at h2; simp [← h2]
theorem run_mapPush {P : Program} {w : World} {b : Nat} {l : List (Int × Value)} {t kt et : TypeId} {k : Int} {v : Value} (ht : P.underlying t = some (.map kt et)) (hk : P.underlying kt = some (.int .i64)) (h : MapAt w b l) (hn : mget k l = none) :
    (Instr.mapUpdate t (.map (some b)) (.int .i64 k) v).run P w = .ok () { w with heap := w.heap.setIfInBounds b (.map (mEs (l ++ [(k, v)])).toArray (l.length + 1)) } := by
  obtain ⟨r, h1, h2⟩ := findNow_mEs k l 0 0
  have hr : r = none := by rw [hn] at h2; cases r with | none => rfl | some p => cases h2
  subst hr
  have hK : MapKept.IsKey (.int .i64) (.int .i64 k) := by simp [MapKept.IsKey]
  have hf := MapKept.run_findKey (w := w) (l := (mEs l).toArray.toList) hk h1
  simp only [Instr.mapUpdate, Sem.run_bind, run_underlying ht, MapKept.run_getObj_map h, Result.andThen, MapKept.run_checkKey hk hK, hf, MapKept.run_setObj_map _ h, mEs_push]
theorem MapAt.pushed {w : World} {b : Nat} {l : List (Int × Value)} {k : Int} {v : Value} (h : MapAt w b l) : MapAt { w with heap := w.heap.setIfInBounds b (.map (mEs (l ++ [(k, v)])).toArray (l.length + 1)) } b (l ++ [(k, v)]) := by
  have := (MapKept.heap_set (o' := .map (mEs (l ++ [(k, v)])).toArray (l.length + 1)) h).1
  unfold MapAt
  simpa using this
theorem mget_none {l : List (Int × Value)} {k : Int} (h : ∀ x ∈ l, x.1 ≠ k) : mget k l = none := by
  unfold mget
  rw [List.find?_eq_none.2 (fun x hx => by simpa using h x hx)]
  rfl
theorem mget_map {α : Type} (l : List α) (f : α → Int) (g : α → Value) (k : Int) : mget k (l.map fun x => (f x, g x)) = (l.find? fun x => f x == k).map g := by
  unfold mget
  rw [List.find?_map, Option.map_map]
  rfl
abbrev ii (x : Int) : Value := .int .i64 x
abbrev pt (b k : Nat) : Value := .pointer (some ⟨b, k, none⟩)
abbrev alL (a : Int × Int) : List Value := [.int .i64 a.1, .int .i64 a.2]
abbrev alV (a : Int × Int) : Value := .agg #[.int .i64 a.1, .int .i64 a.2]
abbrev itL (x : Itm) : List Value := [.int .i64 x.id, .int .i64 x.kind, .int .i64 x.frames, .int .i64 x.sponsor, .int .i64 x.rating]
abbrev itV (x : Itm) : Value := .agg #[.int .i64 x.id, .int .i64 x.kind, .int .i64 x.frames, .int .i64 x.sponsor, .int .i64 x.rating]
abbrev bkL (x : Bkg) : List Value := [.int .i64 x.id, .int .i64 x.item, .int .i64 x.region, .int .i64 x.from_, .int .i64 x.to_, .int .i64 x.until_, .int .i64 x.price]
abbrev bkV (x : Bkg) : Value := .agg #[.int .i64 x.id, .int .i64 x.item, .int .i64 x.region, .int .i64 x.from_, .int .i64 x.to_, .int .i64 x.until_, .int .i64 x.price]
abbrev clL (x : Cls) : List Value := [.int .i64 x.kind, .int .i64 x.item, .int .i64 x.from_, .int .i64 x.to_, .int .i64 x.regions, .int .i64 x.n, .int .i64 x.a, .int .i64 x.b]
abbrev clV (x : Cls) : Value := .agg #[.int .i64 x.kind, .int .i64 x.item, .int .i64 x.from_, .int .i64 x.to_, .int .i64 x.regions, .int .i64 x.n, .int .i64 x.a, .int .i64 x.b]
abbrev enL (x : Ent) : List Value := [.int .i64 x.id, .int .i64 x.item, .int .i64 x.frames, .int .i64 x.earliest, .int .i64 x.latest, .int .i64 x.booking, .slice x.A x.al.length x.c]
abbrev enV (x : Ent) : Value := .agg #[.int .i64 x.id, .int .i64 x.item, .int .i64 x.frames, .int .i64 x.earliest, .int .i64 x.latest, .int .i64 x.booking, .slice x.A x.al.length x.c]
abbrev plL (p : Pln) : List Value := [.int .i64 p.channel, .int .i64 p.num, .int .i64 p.den, .int .i64 p.offset, .slice p.SA p.sh.length p.sc, .int .i64 p.epoch, .int .i64 p.regions, .int .i64 p.length, .int .i64 p.fill, .slice p.IA p.its.length p.ic, .slice p.EA p.es.length p.ec, .slice p.BA p.bs.length p.bc, .slice p.CA p.cs.length p.cc]
abbrev plV (p : Pln) : Value := .agg #[.int .i64 p.channel, .int .i64 p.num, .int .i64 p.den, .int .i64 p.offset, .slice p.SA p.sh.length p.sc, .int .i64 p.epoch, .int .i64 p.regions, .int .i64 p.length, .int .i64 p.fill, .slice p.IA p.its.length p.ic, .slice p.EA p.es.length p.ec, .slice p.BA p.bs.length p.bc, .slice p.CA p.cs.length p.cc]
theorem Hp.bl {w0 w : World} {L : List HB} {K : List FK} (H : Hp w0 w L K) (hf : (L.all fun x => x.fresh) = true := by kernel_rfl) : Below w0.heap.size w0 w := H.below hf
section
variable {P : Program} {ρ : Operand → Value} {w : World} {t : TypeId} {x y : Operand} {dst : Option Tmp} {ty : TypeId} {pos : String} {af : Array Edge} {g : Option (Nat × Bool)}
theorem ex_l1 {p : Addr} {v : Value} (hc : w.cell? p = some v) (hx : ρ x = .pointer (some p) := by kernel_rfl) (ha : aggB P t = some false := by kernel_rfl) : (execOp ρ ⟨dst, .load t x, ty, pos, af, g⟩).run P w = .ok (.value v) w := ex_load1 hx ha hc
end
section
variable {P : Program} {ops : Array Oper} {Q : Exit → Act → World → Prop} {a : Act} {w : World} {rest : List Oper} {o : Oper} {n d : Nat} {L : List (Nat × Value)}
theorem Sl.vx (H : Sl n L a) (_ : o.dst = some d) (v : Value) (k : ∀ a', Sl n ((d, v) :: L) a' → wpList P ops Q rest a' w) (hc : chk ops n L o d = true := by kernel_rfl) (hx : (execOp (ev L) o).run P w = .ok (.value v) w := by kernel_rfl) : wpList P ops Q (o :: rest) a w := H.val d v hc hx k
theorem Sl.sx (H : Sl n L a) (_ : o.dst = some d) (k : ∀ a', Sl n ((d, undef) :: L) a' → wpList P ops Q rest a' w) (hc : chkSkip ops n L o d = true := by kernel_rfl) : wpList P ops Q (o :: rest) a w := H.skip d hc k
end
def inR (n lo hi : Int) : Bool := decide (lo ≤ n) && decide (n ≤ hi)
theorem inR_iff {n lo hi : Int} : inR n lo hi = true ↔ lo ≤ n ∧ n ≤ hi := by simp [inR]
theorem inR_not {n lo hi : Int} : inR n lo hi = false ↔ ¬ (lo ≤ n ∧ n ≤ hi) := by rw [← inR_iff]; simp
def asc (last hi : Int) : List Int → Bool
  | [] => true
  | n :: l => decide (last < n) && decide (n ≤ hi) && asc n hi l
def shP (last : Int) : Alts → Bool
  | [] => true
  | a :: l => decide (last < a.1) && decide (a.1 ≤ 10000000000) && inR a.2 (-50400) 50400 && shP a.1 l
def zoneP (off : Int) (sh : Alts) : Bool := decide ((sh.length : Int) ≤ 40) && inR off (-50400) 50400 && shP (-1) sh
def rateL : List (Int × Int) := [(24000, 1001), (24, 1), (25, 1), (30000, 1001), (30, 1), (50, 1), (60000, 1001), (60, 1)]
def rateP (num den : Int) : Bool := rateL.contains (num, den)
def itZ : Itm := ⟨0, 0, 0, 0, 0⟩
def bkZ : Bkg := ⟨0, 0, 0, 0, 0, 0, 0⟩
def fI (l : List Itm) (k : Int) : Option Itm := l.find? fun x => x.id == k
def fB (l : List Bkg) (k : Int) : Option Bkg := l.find? fun x => x.id == k
def fE (l : List Ent) (k : Int) : Option Ent := l.find? fun x => x.id == k
def gI (l : List Itm) (k : Int) : Itm := (fI l k).getD itZ
def hI (l : List Itm) (k : Int) : Bool := (fI l k).isSome
def gB (l : List Bkg) (k : Int) : Bkg := (fB l k).getD bkZ
def hB (l : List Bkg) (k : Int) : Bool := (fB l k).isSome
def itemP (x : Itm) : Bool := inR x.kind 1 5 && inR x.frames 1 100000000 && inR x.sponsor 0 200 && inR x.rating 0 3
def itsP (l : List Itm) (fill : Int) : Bool := decide ((l.length : Int) ≤ 4000) && asc 0 1000000 (l.map (·.id)) && l.all itemP && (gI l fill).kind == 5
def bookP (its : List Itm) (regions : Int) (x : Bkg) : Bool :=
  (gI its x.item).kind == 2 && inR x.region 0 (regions - 1) && (decide (0 ≤ x.from_) && decide (x.from_ < x.to_) && decide (x.to_ ≤ x.until_) && decide (x.until_ ≤ 100000000)) && inR x.price 0 1000000000
def bksP (its : List Itm) (regions : Int) (l : List Bkg) : Bool := decide ((l.length : Int) ≤ 2000) && asc 0 1000000 (l.map (·.id)) && l.all (bookP its regions)
def fitsP (its : List Itm) (length : Int) (e : Ent) : Bool :=
  hI its e.item && !((gI its e.item).kind == 5) && inR e.frames 1 (gI its e.item).frames && ((gI its e.item).kind == 4 || e.frames == (gI its e.item).frames) && (decide (0 ≤ e.earliest) && decide (e.earliest ≤ e.latest) && decide (e.latest ≤ length - e.frames))
def unfitP (its : List Itm) (frames : Int) (a : Int × Int) : Bool := !hI its a.2 || !((gI its a.2).frames == frames) || (gI its a.2).kind == 5 || (gI its a.2).kind == 4
def altsP (its : List Itm) (regions : Int) (e : Ent) : Bool :=
  asc 0 (regions - 1) (e.al.map (·.1)) && !((gI its e.item).kind == 4 && decide (0 < (e.al.length : Int))) && !e.al.any (unfitP its e.frames)
def fulP (bs : List Bkg) (e : Ent) : Bool :=
  e.booking == 0 || (hB bs e.booking && (if (gB bs e.booking).region = 0 then (gB bs e.booking).item == e.item else e.al.any fun a => a.1 == (gB bs e.booking).region && a.2 == (gB bs e.booking).item))
def entP (p : Pln) (e : Ent) : Bool := inR e.id 1 1000000 && fitsP p.its p.length e && altsP p.its p.regions e && fulP p.bs e
def entsP (p : Pln) (seen : List Int) : List Ent → Bool
  | [] => true
  | e :: l => entP p e && !seen.contains e.id && entsP p (seen ++ [e.id]) l
def usedCl (c : Cls) : Cls :=
  if c.kind = 1 ∨ c.kind = 2 then ⟨c.kind, c.item, c.from_, c.to_, c.regions, 0, 0, 0⟩ else
  if c.kind = 3 ∨ c.kind = 4 then ⟨c.kind, c.item, 0, 0, c.regions, c.n, 0, 0⟩ else
  if c.kind = 5 then ⟨c.kind, 0, 0, 0, 0, c.n, c.a, c.b⟩ else
  if c.kind = 6 then ⟨c.kind, 0, c.from_, c.to_, 0, 0, c.a, 0⟩ else ⟨0, 0, 0, 0, 0, 0, 0, 0⟩
def itemC (c : Cls) : Bool := inR c.item 1 4611686018427387903 && inR c.regions 1 255
def timeC (s : Int) : Bool := inR s 0 86340 && s % 60 == 0
def useP (c : Cls) : Bool :=
  if c.kind = 1 ∨ c.kind = 2 then c.n == 0 && c.a == 0 && c.b == 0 else
  if c.kind = 3 ∨ c.kind = 4 then c.from_ == 0 && c.to_ == 0 && c.a == 0 && c.b == 0 else
  if c.kind = 5 then c.item == 0 && c.from_ == 0 && c.to_ == 0 && c.regions == 0 else
  if c.kind = 6 then c.item == 0 && c.regions == 0 && c.n == 0 && c.b == 0 else
  c.kind == 0 && c.item == 0 && c.from_ == 0 && c.to_ == 0 && c.regions == 0 && c.n == 0 && c.a == 0 && c.b == 0
def bodyC (c : Cls) : Bool :=
  if c.kind = 1 ∨ c.kind = 2 then itemC c && decide (0 ≤ c.from_) && decide (c.from_ < c.to_) && decide (c.to_ ≤ 10000000000) else
  if c.kind = 3 then itemC c && inR c.n 0 1000 else
  if c.kind = 4 then itemC c && inR c.n 0 10000000000 else
  if c.kind = 5 then inR c.a 1 200 && inR c.b 1 200 && !(c.a == c.b) && inR c.n 0 86400 else
  if c.kind = 6 then inR c.a 1 3 && timeC c.from_ && timeC c.to_ && !(c.from_ == c.to_) else false
def clP (c : Cls) : Bool := useP c && bodyC c
theorem useP_eq (c : Cls) : (([c.kind, c.item, c.from_, c.to_, c.regions, c.n, c.a, c.b] : List Int) == [(usedCl c).kind, (usedCl c).item, (usedCl c).from_, (usedCl c).to_, (usedCl c).regions, (usedCl c).n, (usedCl c).a, (usedCl c).b]) = useP c := by
  unfold usedCl useP
  rw [Bool.eq_iff_iff]
  split
  · simp [and_assoc]
  · split
    · simp [and_assoc]
    · split
      · simp [and_assoc]
      · split <;> simp [and_assoc]
def clsP (l : List Cls) : Bool := decide ((l.length : Int) ≤ 400) && l.all clP
def soundP (p : Pln) : Bool := inR p.channel 0 39 && rateP p.num p.den && zoneP p.offset p.sh && inR p.epoch 0 9000000000 && inR p.regions 1 8 && inR p.length 1 100000000
def validPl (p : Pln) : Bool := soundP p && itsP p.its p.fill && bksP p.its p.regions p.bs && (decide ((p.es.length : Int) ≤ 4000) && entsP p [] p.es) && clsP p.cs
theorem asc_lt {last hi : Int} : ∀ {l : List Int}, asc last hi l = true → ∀ n ∈ l, last < n ∧ n ≤ hi
  | [], _, n, h => by cases h
  | m :: l, h, n, hn => by
    simp only [asc, Bool.and_eq_true, decide_eq_true_eq] at h
    obtain ⟨⟨h1, h2⟩, h3⟩ := h
    rcases List.mem_cons.1 hn with rfl | hn
    · exact ⟨h1, h2⟩
    · have := asc_lt h3 n hn; omega
theorem asc_pair {last hi : Int} : ∀ {l : List Int}, asc last hi l = true → l.Pairwise (· < ·)
  | [], _ => .nil
  | m :: l, h => by
    simp only [asc, Bool.and_eq_true, decide_eq_true_eq] at h
    exact .cons (fun n hn => (asc_lt h.2 n hn).1) (asc_pair h.2)
section
variable {P : Program} {ops : Array Oper} {Q : Exit → Act → World → Prop} {a : Act} {w : World} {rest : List Oper} {o : Oper} {n : Nat} {L : List (Nat × Value)}
theorem Sl.v (H : Sl n L a) (d : Nat) (v : Value) (k : ∀ a', Sl n ((d, v) :: L) a' → wpList P ops Q rest a' w) (hc : chk ops n L o d = true := by kernel_rfl) (hx : (execOp (ev L) o).run P w = .ok (.value v) w := by kernel_rfl) : wpList P ops Q (o :: rest) a w := H.val d v hc hx k
theorem Sl.u (H : Sl n L a) (d : Nat) (v : Value) (hx : (execOp (ev L) o).run P w = .ok (.value v) w) (k : ∀ a', Sl n ((d, v) :: L) a' → wpList P ops Q rest a' w) (hc : chk ops n L o d = true := by kernel_rfl) : wpList P ops Q (o :: rest) a w := H.val d v hc hx k
theorem Sl.s (H : Sl n L a) (d : Nat) (k : ∀ a', Sl n ((d, undef) :: L) a' → wpList P ops Q rest a' w) (hc : chkSkip ops n L o d = true := by kernel_rfl) : wpList P ops Q (o :: rest) a w := H.skip d hc k
end
section
variable {P : Program} {ops : Array Oper} {Q : Exit → Act → World → Prop} {S : World → Prop} {a : Act} {w : World} {o : Oper} {n m fuel : Nat} {L : List (Nat × Value)} {listed : Array Bool}
theorem An.p (H : Sl n L a) (hS : listed.getD m false = true ∨ S w) (i d : Nat) (v : Value) (k : ∀ a', Sl n ((d, v) :: L) a' → wpAnyM P .any ops Q S m fuel (listed.setIfInBounds i true) a' w) (ho : ops[i]? = some o := by rfl) (hc : chk ops n L o d = true := by kernel_rfl) (ht : chkP ops listed m i = true := by kernel_rfl) (hQ : ∀ c a w, Q (.panic c) (a.put o.dst v) w → Q (.panic c) a w := by exact fun _ _ _ h => h)
    (hx : ∀ w, (execOp (ev L) o).run P w = .ok (.value v) w := by exact fun _ => by kernel_rfl) : wpAnyM P .any ops Q S m (fuel + 1) listed a w := An.pure H hS i d v ho hc ht hQ hx k
theorem An.s (H : Sl n L a) (hS : listed.getD m false = true ∨ S w) (i d : Nat) (k : ∀ a', Sl n ((d, undef) :: L) a' → wpAnyM P .any ops Q S m fuel (listed.setIfInBounds i true) a' w) (ho : ops[i]? = some o := by rfl) (hc : chkSkip ops n L o d = true := by kernel_rfl) (ht : chkP ops listed m i = true := by kernel_rfl) (hQ : ∀ c a w, Q (.panic c) (a.put o.dst undef) w → Q (.panic c) a w := by exact fun _ _ _ h => h) : wpAnyM P .any ops Q S m (fuel + 1) listed a w := An.skip H hS i d ho hc ht hQ k
end
abbrev nl := @wpList_nil
abbrev tn := @then_normal
abbrev sq := @wp_seq
abbrev rg := @w_region
abbrev sk := @wp_skip
abbrev rt := @wp_ret
abbrev tr := @then_ret
abbrev ibn := @inb_normal
abbrev ibr := @inb_ret
abbrev bk := @wp_block
section
variable {P : Program} {ops : Array Oper} {Q : Exit → Act → World → Prop} {a : Act} {w w0 : World} {rest : List Oper} {o : Oper} {n : Nat} {L : List (Nat × Value)} {LH : List HB} {K : List FK}
theorem Sl.cl (H : Sl n L a) (d : Nat) {f : FuncId} {args : Array Value} {R : Ending → World → Prop} (hcall : (callFunc f args).run P w = .ok (.enter f args) w) (hC : Calls P f args w R) (k : ∀ e w'', R e w'' → ∃ v, e = .returned v ∧ ∀ a', Sl n ((d, v) :: L) a' → wpList P ops Q rest a' w'')
    (hc : chk ops n L o d = true := by kernel_rfl) (hx : (execOp (ev L) o).run P w = (callFunc f args).run P w := by kernel_rfl) : wpList P ops Q (o :: rest) a w := H.call d hc (hx.trans hcall) hC k
theorem Sl.cb (H : Sl n L a) (HP : Hp w0 w LH K) (d : Nat) {f : FuncId} {args : Array Value} {v : Value} (hcall : (callFunc f args).run P w = .ok (.enter f args) w) (hC : Calls P f args w fun e w' => e = .returned v ∧ Below w.heap.size w w') (k : ∀ w'', Below w.heap.size w w'' → ∀ a', Sl n ((d, v) :: L) a' → Hp w0 w'' LH K → wpList P ops Q rest a' w'')
    (hc : chk ops n L o d = true := by kernel_rfl) (hx : (execOp (ev L) o).run P w = (callFunc f args).run P w := by kernel_rfl) : wpList P ops Q (o :: rest) a w :=
  H.call d hc (hx.trans hcall) hC fun e w'' he => ⟨v, he.1, fun a' H' => k w'' he.2 a' H' (HP.next he.2)⟩
theorem Sl.al (H : Sl n L a) (HP : Hp w0 w LH K) (d : Nat) (t : TypeId) (vs : List Value) (k : ∀ b w' a', Sl n ((d, pt b 0) :: L) a' → Hp w0 w' (bx b t vs true :: LH) K → wpList P ops Q rest a' w') (hc : chk ops n L o d = true := by kernel_rfl)
    (hx : ∀ w, (execOp (ev L) o).run P w = .ok (.value (pt w.heap.size 0)) (w.alloc (.cells vs.toArray t)) := by exact fun _ => by kernel_rfl) : wpList P ops Q (o :: rest) a w := H.alloc HP d (fun b => pt b 0) t vs hc hx k
theorem Sl.st {t : TypeId} {x y : Operand} {ty : TypeId} {pos : String} {af : Array Edge} {g : Option (Nat × Bool)} (H : Sl n L a) (HP : Hp w0 w LH K) (i b off k : Nat) (tb : TypeId) {us : List Value} (f : Bool) (v : Value) (LH' : List HB)
    (hi : LH[i]? = some (bx b tb us f)) (kk : ∀ w' a', Sl n L a' → Hp w0 w' LH' K → wpList P ops Q rest a' w')
    (hc : chk0 ops L ⟨none, .store t x y, ty, pos, af, g⟩ = true := by kernel_rfl) (hx : ev L x = .pointer (some ⟨b, off, none⟩) := by kernel_rfl) (hy : ev L y = v := by kernel_rfl) (hs : sizeB P t = some k := by kernel_rfl) (hv : v.cells.size = k := by kernel_rfl) (h1 : oneCells v.cells.toList = true := by kernel_rfl) (hl : Nat.ble (off + v.cells.toList.length) us.length = true := by kernel_rfl)
    (hL : LH.set i (bx b tb (setAll us off v.cells.toList) f) = LH' := by kernel_rfl) : wpList P ops Q (⟨none, .store t x y, ty, pos, af, g⟩ :: rest) a w :=
  H.store HP i b off k tb us f v LH' hc hx hy hi hs hv h1 hl hL kk
end
section
variable {P : Program} {fn : Func} {R : Ending → World → Prop} {a : Act} {w : World} {n : Nat} {L : List (Nat × Value)}
theorem Sl.r1 (H : Sl n L a) {t : Nat} (v : Value) (hr : fn.results = #[.tmp t]) (hR : R (.returned v) w) (h : look t L = some v := by kernel_rfl) : bodyPost P fn R .ret a w := H.ret1 hr (RV.tmp_ h) hR
end
section
variable {P : Program} {ρ : Operand → Value} {w : World} {t : TypeId} {x y : Operand} {dst : Option Tmp} {ty : TypeId} {pos : String} {af : Array Edge} {g : Option (Nat × Bool)}
theorem ex_lN {b off k : Nat} (vs : List Value) (hc : cellsAt w b off vs) (hx : ρ x = .pointer (some ⟨b, off, none⟩) := by kernel_rfl) (ha : aggB P t = some true := by kernel_rfl) (hs : sizeB P t = some k := by kernel_rfl) (hl : vs.length = k := by rfl) : (execOp ρ ⟨dst, .load t x, ty, pos, af, g⟩).run P w = .ok (.value (.agg vs.toArray)) w := ex_loadN hx ha hs hl hc
end
section
variable {P : Program} {ops : Array Oper} {Q : Exit → Act → World → Prop} {S : World → Prop} {a : Act} {w : World} {o : Oper} {n m fuel : Nat} {L : List (Nat × Value)} {listed : Array Bool}
theorem An.vw (H : Sl n L a) (hS : S w) (i d : Nat) (v : Value) (hx : ∀ w, S w → (execOp (ev L) o).run P w = .ok (.value v) w) (k : ∀ a', Sl n ((d, v) :: L) a' → wpAnyM P .any ops Q S m fuel (listed.setIfInBounds i true) a' w) (ho : ops[i]? = some o := by rfl) (hc : chk ops n L o d = true := by kernel_rfl) (ht : chkT ops listed m i = true := by kernel_rfl) (hQ : ∀ c a w, Q (.panic c) (a.put o.dst v) w → Q (.panic c) a w := by exact fun _ _ _ h => h) : wpAnyM P .any ops Q S m (fuel + 1) listed a w := An.val H hS i d v ho hc ht hQ hx k
theorem An.q (H : Sl n L a) (hS : listed.getD m false = true ∨ S w) (i d : Nat) (v : Value) (hx : ∀ w, (execOp (ev L) o).run P w = .ok (.value v) w) (k : ∀ a', Sl n ((d, v) :: L) a' → wpAnyM P .any ops Q S m fuel (listed.setIfInBounds i true) a' w) (ho : ops[i]? = some o := by rfl) (hc : chk ops n L o d = true := by kernel_rfl) (ht : chkP ops listed m i = true := by kernel_rfl) (hQ : ∀ c a w, Q (.panic c) (a.put o.dst v) w → Q (.panic c) a w := by exact fun _ _ _ h => h) : wpAnyM P .any ops Q S m (fuel + 1) listed a w := An.pure H hS i d v ho hc ht hQ hx k
end
set_option linter.unusedSimpArgs false
def itM (l : List Itm) : List (Int × Value) := l.map fun x => (x.id, .agg (itC x))
def bkM (l : List Bkg) : List (Int × Value) := l.map fun x => (x.id, .agg (bkC x))
def seM (l : List Int) : List (Int × Value) := l.map fun x => (x, .bool true)
theorem run_zero {P : Program} {w : World} {e : TypeId} {z : Value} {s b : Nat} (h : infoB P e = some (some z, s, b)) : (zeroValue e).run P w = .ok z w := by
  obtain ⟨i, h1, h2, _, _⟩ := infoB_spec h
  simp [zeroValue, typeInfo, Sem.run_bind, program, Sem.run, h1, h2, Result.andThen]
section
variable {P : Program} {ρ : Operand → Value} {w : World} {t kt et : TypeId} {x y : Operand} {dst : Option Tmp} {ty : TypeId} {pos : String} {af : Array Edge} {g : Option (Nat × Bool)} {b s1 s2 : Nat} {k : Int}
theorem ex_lookup {l : List (Int × Value)} {z : Value} (c : Bool) (hx : ρ x = .map (some b)) (hy : ρ y = .int .i64 k) (ht : P.underlying t = some (.map kt et)) (hk : P.underlying kt = some (.int .i64)) (hz : infoB P et = some (some z, s1, s2)) (h : MapAt w b l) :
    (execOp ρ ⟨dst, .lookup t x y c, ty, pos, af, g⟩).run P w = .ok (.value (if c then .tuple #[(mget k l).getD z, .bool (mget k l).isSome] else (mget k l).getD z)) w := by
  simp only [execOp, hx, hy, Sem.run_bind, run_lookupM c ht hk (run_zero hz) h, Result.andThen_ok, Sem.run_pure]
theorem mget_it (l : List Itm) (k : Int) : (mget k (itM l)).getD (.agg (itC itZ)) = .agg (itC (gI l k)) ∧ (mget k (itM l)).isSome = hI l k := by
  unfold itM gI hI fI
  rw [mget_map]
  cases l.find? fun x => x.id == k <;> simp
theorem mget_bk (l : List Bkg) (k : Int) : (mget k (bkM l)).getD (.agg (bkC bkZ)) = .agg (bkC (gB l k)) ∧ (mget k (bkM l)).isSome = hB l k := by
  unfold bkM gB hB fB
  rw [mget_map]
  cases l.find? fun x => x.id == k <;> simp
theorem mget_se (l : List Int) (k : Int) : (mget k (seM l)).getD (.bool false) = .bool (l.contains k) ∧ (mget k (seM l)).isSome = l.contains k := by
  unfold seM
  rw [mget_map]
  induction l with
  | nil => simp
  | cons a l ih =>
    by_cases h : a = k
    · subst h; simp
    · have h' : (a == k) = false := by simpa using h
      have h'' : ¬ k = a := fun e => h e.symm
      simp [List.find?_cons, h', h''] at ih ⊢
      exact ih
theorem ex_lookI {l : List Itm} (hx : ρ x = .map (some b)) (hy : ρ y = .int .i64 k) (ht : P.underlying t = some (.map kt et)) (hk : P.underlying kt = some (.int .i64)) (hz : infoB P et = some (some (.agg (itC itZ)), s1, s2)) (h : MapAt w b (itM l)) :
    (execOp ρ ⟨dst, .lookup t x y false, ty, pos, af, g⟩).run P w = .ok (.value (.agg (itC (gI l k)))) w := by
  have := ex_lookup (dst := dst) (ty := ty) (pos := pos) (af := af) (g := g) false hx hy ht hk hz h
  rw [(mget_it l k).1] at this
  exact this
theorem ex_lookI2 {l : List Itm} (hx : ρ x = .map (some b)) (hy : ρ y = .int .i64 k) (ht : P.underlying t = some (.map kt et)) (hk : P.underlying kt = some (.int .i64)) (hz : infoB P et = some (some (.agg (itC itZ)), s1, s2)) (h : MapAt w b (itM l)) :
    (execOp ρ ⟨dst, .lookup t x y true, ty, pos, af, g⟩).run P w = .ok (.value (.tuple #[.agg (itC (gI l k)), .bool (hI l k)])) w := by
  have := ex_lookup (dst := dst) (ty := ty) (pos := pos) (af := af) (g := g) true hx hy ht hk hz h
  rw [(mget_it l k).1, (mget_it l k).2] at this
  exact this
theorem ex_lookB2 {l : List Bkg} (hx : ρ x = .map (some b)) (hy : ρ y = .int .i64 k) (ht : P.underlying t = some (.map kt et)) (hk : P.underlying kt = some (.int .i64)) (hz : infoB P et = some (some (.agg (bkC bkZ)), s1, s2)) (h : MapAt w b (bkM l)) :
    (execOp ρ ⟨dst, .lookup t x y true, ty, pos, af, g⟩).run P w = .ok (.value (.tuple #[.agg (bkC (gB l k)), .bool (hB l k)])) w := by
  have := ex_lookup (dst := dst) (ty := ty) (pos := pos) (af := af) (g := g) true hx hy ht hk hz h
  rw [(mget_bk l k).1, (mget_bk l k).2] at this
  exact this
theorem ex_lookS {l : List Int} (hx : ρ x = .map (some b)) (hy : ρ y = .int .i64 k) (ht : P.underlying t = some (.map kt et)) (hk : P.underlying kt = some (.int .i64)) (hz : infoB P et = some (some (.bool false), s1, s2)) (h : MapAt w b (seM l)) :
    (execOp ρ ⟨dst, .lookup t x y false, ty, pos, af, g⟩).run P w = .ok (.value (.bool (l.contains k))) w := by
  have := ex_lookup (dst := dst) (ty := ty) (pos := pos) (af := af) (g := g) false hx hy ht hk hz h
  rw [(mget_se l k).1] at this
  exact this
end
theorem ex_indexA {P : Program} {ρ : Operand → Value} {w : World} {t e : TypeId} {x y : Operand} {dst : Option Tmp} {ty : TypeId} {pos : String} {af : Array Edge} {g : Option (Nat × Bool)} {A : Option Addr} {b off len cap m k : Nat} {i : Int} {ik : IntKind}
    (hA : A = some ⟨b, off, none⟩) (hx : ρ x = .slice A len cap) (hy : ρ y = .int ik i) (hm : i = m) (hlt : m < len) (hu : P.underlying t = some (.slice e)) (hs : sizeB P e = some k) : (execOp ρ ⟨dst, .indexAddr t x y, ty, pos, af, g⟩).run P w = .ok (.value (.pointer (some ⟨b, off + m * k, none⟩))) w := by
  subst hA; exact ex_index hx hy hm hlt hu hs
theorem IsRow.cells {α : Type} {k : Nat} {cs : α → Array Value} (hk : ∀ e, (cs e).size = k) {w : World} {b off : Nat} {A : Option Addr} {l : List α} (h : IsRow k cs w A l) (hA : A = some ⟨b, off, none⟩) {i : Nat} {x : α} (hx : l[i]? = some x) : cellsAt w b (off + i * k) (cs x).toList := by
  subst hA
  obtain ⟨b', off', x', hA, _, _, hx', _, hc⟩ := h.get hk (i := i) (List.getElem?_eq_some_iff.1 hx).1
  cases hA
  rw [hx] at hx'
  cases hx'
  exact hc
theorem Hp.mapAt {w0 w : World} {L : List HB} {K : List FK} (H : Hp w0 w L K) (i : Nat) {b : Nat} {l : List (Int × Value)} {f : Bool} (hi : L[i]? = some (mapB b l f)) : MapAt w b l := (H.res _ (List.mem_of_getElem? hi)).1
theorem Hp.newMap {w0 w : World} {L : List HB} {K : List FK} (H : Hp w0 w L K) : Hp w0 (w.alloc (.map #[] 0)) (mapB w.heap.size [] true :: L) K :=
  H.gain (balloc w _) _ (heap_alloc_new w _) (mapB_ok _ _ _) (fun k hk => by cases hk; simp) (fun k hk => by cases hk; exact Nat.le_refl _)
theorem Hp.pushM {w0 w : World} {L : List HB} {K : List FK} (H : Hp w0 w L K) (i : Nat) {b : Nat} {l : List (Int × Value)} {f : Bool} (hi : L[i]? = some (mapB b l f)) (k : Int) (v : Value) :
    Hp w0 { w with heap := w.heap.setIfInBounds b (.map (mEs (l ++ [(k, v)])).toArray (l.length + 1)) } (L.set i (mapB b (l ++ [(k, v)]) f)) K :=
  H.mut i hi (mapB b (l ++ [(k, v)]) f) _ rfl ⟨rfl, rfl, rfl, by simp, fun j _ hj => (MapKept.heap_set (H.mapAt i hi)).2 j hj⟩ (H.mapAt i hi).pushed (mapB_ok _ _ _) (fun j hj => by cases hj; simpa using (H.mapAt i hi).lt) (fun j hj => .inl hj) (fun j _ hj => hj) rfl
theorem Hp.changedM {w0 w w' : World} {L : List HB} {K : List FK} (H : Hp w0 w L K) (i : Nat) {b : Nat} {l : List (Int × Value)} {f : Bool} (hi : L[i]? = some (mapB b l f)) (l' : List (Int × Value)) (L' : List HB) (hL : L.set i (mapB b l' f) = L') (hg : w.grownBy w' (some b)) (hbx : MapAt w' b l') : Hp w0 w' L' K :=
  H.mut i hi (mapB b l' f) _ hL (Agree.of_grown hg fun k e => (Option.some.inj e).symm) hbx (mapB_ok _ _ _) (fun k hk => by cases hk; exact hbx.lt) (fun k hk => .inl hk) (fun k _ hk => hk) rfl
theorem Hp.ownM {w : World} {b : Nat} {l : List (Int × Value)} (h : MapAt w b l) : Hp w w [mapB b l false] [] :=
  (Hp.start w).add (mapB b l false) h (mapB_ok _ _ _) (fun k hk => by cases hk; exact h.lt) (fun _ _ => ⟨(fun _ h => by cases h), (fun _ h => by cases h)⟩) fun h => by cases h
section
variable {P : Program} {ops : Array Oper} {Q : Exit → Act → World → Prop} {a : Act} {w0 w : World} {rest : List Oper} {n : Nat} {L : List (Nat × Value)} {LH : List HB} {K : List FK} {ty : TypeId} {pos : String} {af : Array Edge} {g : Option (Nat × Bool)} {t kt et : TypeId} {x y z : Operand}
theorem Sl.newMap {dd : Option Tmp} (H : Sl n L a) (HP : Hp w0 w LH K) (d : Nat) (hc : chk ops n L ⟨dd, .makeMap t none, ty, pos, af, g⟩ d = true)
    (k : ∀ b w' a', Sl n ((d, .map (some b)) :: L) a' → Hp w0 w' (mapB b [] true :: LH) K → wpList P ops Q rest a' w') : wpList P ops Q (⟨dd, .makeMap t none, ty, pos, af, g⟩ :: rest) a w :=
  H.valW d (.map (some w.heap.size)) hc (w' := w.alloc (.map #[] 0)) rfl fun a' H' => k _ _ a' H' HP.newMap
theorem wp_pushM {KK : Act → World → Prop} (H : Sl n L a) (HP : Hp w0 w LH K) (i : Nat) {b : Nat} {l : List (Int × Value)} {f : Bool} {k : Int} {v : Value} (LH' : List HB) (hc : chk0 ops L ⟨none, .mapUpdate t x y z, ty, pos, af, g⟩ = true) (hx : ev L x = .map (some b)) (hy : ev L y = .int .i64 k) (hz : ev L z = v)
    (ht : P.underlying t = some (.map kt et)) (hk : P.underlying kt = some (.int .i64)) (hi : LH[i]? = some (mapB b l f)) (hn : mget k l = none) (hL : LH.set i (mapB b (l ++ [(k, v)]) f) = LH')
    (kk : ∀ w' a', Sl n L a' → Hp w0 w' LH' K → KK a' w') : (⟨none, .mapUpdate t x y z, ty, pos, af, g⟩ : Oper).wp P a w KK Q := by
  obtain ⟨hd, hk', hs', hw⟩ := chk0_spec hc
  have hr := run_mapPush (P := P) (w := w) (v := v) ht hk (HP.mapAt i hi) hn
  unfold Oper.wp
  rw [H.exec hk' hs']
  simp only [execOp, hx, hy, hz, Sem.run_bind, hr, Result.andThen_ok, Sem.run_pure, Oper.upon_skip]
  exact kk _ _ H (hL ▸ HP.pushM i hi k v)
theorem Sl.pushM (H : Sl n L a) (HP : Hp w0 w LH K) (i : Nat) {b : Nat} {l : List (Int × Value)} {f : Bool} {k : Int} {v : Value} (LH' : List HB) (hc : chk0 ops L ⟨none, .mapUpdate t x y z, ty, pos, af, g⟩ = true) (hx : ev L x = .map (some b)) (hy : ev L y = .int .i64 k) (hz : ev L z = v)
    (ht : P.underlying t = some (.map kt et)) (hk : P.underlying kt = some (.int .i64)) (hi : LH[i]? = some (mapB b l f)) (hn : mget k l = none) (hL : LH.set i (mapB b (l ++ [(k, v)]) f) = LH')
    (kk : ∀ w' a', Sl n L a' → Hp w0 w' LH' K → wpList P ops Q rest a' w') : wpList P ops Q (⟨none, .mapUpdate t x y z, ty, pos, af, g⟩ :: rest) a w :=
  wpList_wanted (H.wanted (chk0_spec hc).2.2.2) (wp_pushM H HP i LH' hc hx hy hz ht hk hi hn hL kk)
end
section
variable {P : Program} {ops : Array Oper} {Q : Exit → Act → World → Prop} {a : Act} {w0 w : World} {n i : Nat} {L : List (Nat × Value)} {LH : List HB} {K : List FK} {KK : Act → World → Prop} {ty : TypeId} {pos : String} {af : Array Edge} {g : Option (Nat × Bool)} {t kt et : TypeId} {x y z : Operand}
theorem Op.pushM (H : Sl n L a) (HP : Hp w0 w LH K) (im : Nat) {b : Nat} {l : List (Int × Value)} {f : Bool} {k : Int} {v : Value} (LH' : List HB) (ho : ops[i]? = some ⟨none, .mapUpdate t x y z, ty, pos, af, g⟩) (hc : chk0 ops L ⟨none, .mapUpdate t x y z, ty, pos, af, g⟩ = true) (hx : ev L x = .map (some b)) (hy : ev L y = .int .i64 k) (hz : ev L z = v)
    (ht : P.underlying t = some (.map kt et)) (hk : P.underlying kt = some (.int .i64)) (hi : LH[im]? = some (mapB b l f)) (hn : mget k l = none) (hL : LH.set im (mapB b (l ++ [(k, v)]) f) = LH')
    (kk : ∀ w' a', Sl n L a' → Hp w0 w' LH' K → KK a' w') : wpOp P ops Q i KK a w :=
  wpOp_wanted ho (H.wanted (chk0_spec hc).2.2.2) (wp_pushM H HP im LH' hc hx hy hz ht hk hi hn hL kk)
end
theorem then_panic {Q : Exit → Act → World → Prop} {a : Act} {w : World} {K : Act → World → Prop} {c : List PanicEntry} (h : Q (.panic c) a w) : Exit.then K Q (.panic c) a w := h
theorem inb_panic {Q : Exit → Act → World → Prop} {a : Act} {w : World} {id : Nat} {c : List PanicEntry} (h : Q (.panic c) a w) : Exit.inBlock id Q (.panic c) a w := h
theorem Sl.endP {P : Program} {fn : Func} {R : Ending → World → Prop} {a : Act} {w : World} {n : Nat} {L : List (Nat × Value)} {c : List PanicEntry} (H : Sl n L a) (hR : R (.panicked c) w) : bodyPost P fn R (.panic c) a w := ⟨H.defers, hR⟩
section
variable {P : Program} {ops : Array Oper} {Q : Exit → Act → World → Prop} {a : Act} {w w' : World} {rest : List Oper} {o : Oper} {n i : Nat} {L : List (Nat × Value)} {KK : Act → World → Prop}
theorem wp_callP (H : Sl n L a) (d : Nat) {f : FuncId} {args : Array Value} {R : Ending → World → Prop} (hc : chk ops n L o d = true)
    (hx : (execOp (ev L) o).run P w = .ok (.enter f args) w') (hC : Calls P f args w' R) (k : ∀ e w'', R e w'' → (∃ v, e = .returned v ∧ ∀ a', Sl n ((d, v) :: L) a' → KK a' w'') ∨ ∃ c, e = .panicked c ∧ ∀ a', Sl n L a' → Q (.panic c) a' w'') : o.wp P a w KK Q := by
  obtain ⟨hd, hn, hk, hs, hw⟩ := chk_spec hc
  unfold Oper.wp
  rw [H.exec hk hs, hx, Oper.upon_enter]
  refine hC.mono fun e w'' he => ?_
  rcases k e w'' he with ⟨v, rfl, hv⟩ | ⟨c, rfl, hv⟩
  · rw [hd]
    exact hv _ (H.put v hn)
  · exact hv _ H
theorem Sl.callP (H : Sl n L a) (d : Nat) {f : FuncId} {args : Array Value} {R : Ending → World → Prop} (hc : chk ops n L o d = true)
    (hx : (execOp (ev L) o).run P w = .ok (.enter f args) w') (hC : Calls P f args w' R) (k : ∀ e w'', R e w'' → (∃ v, e = .returned v ∧ ∀ a', Sl n ((d, v) :: L) a' → wpList P ops Q rest a' w'') ∨ ∃ c, e = .panicked c ∧ ∀ a', Sl n L a' → Q (.panic c) a' w'') : wpList P ops Q (o :: rest) a w :=
  wpList_wanted (H.wanted (chk_spec hc).2.2.2.2) (wp_callP H d hc hx hC k)
theorem Op.callP (H : Sl n L a) (d : Nat) {f : FuncId} {args : Array Value} {R : Ending → World → Prop} (ho : ops[i]? = some o) (hc : chk ops n L o d = true)
    (hx : (execOp (ev L) o).run P w = .ok (.enter f args) w') (hC : Calls P f args w' R) (k : ∀ e w'', R e w'' → (∃ v, e = .returned v ∧ ∀ a', Sl n ((d, v) :: L) a' → KK a' w'') ∨ ∃ c, e = .panicked c ∧ ∀ a', Sl n L a' → Q (.panic c) a' w'') : wpOp P ops Q i KK a w :=
  wpOp_wanted ho (H.wanted (chk_spec hc).2.2.2.2) (wp_callP H d hc hx hC k)
theorem Sl.panic0 (H : Sl n L a) {v : Value} (hc : chk0 ops L o = true) (hx : (execOp (ev L) o).run P w = .halt (.panic v) w') (k : Q (.panic [{ v := v, recovered := false }]) a w') : wpList P ops Q (o :: rest) a w := by
  obtain ⟨hd, hk, hs, hw⟩ := chk0_spec hc
  refine wpList_wanted (H.wanted hw) ?_
  unfold Oper.wp
  rw [H.exec hk hs, hx, Oper.upon_panic]
  exact k
theorem Sl.panic (H : Sl n L a) (d : Nat) {v : Value} (hc : chk ops n L o d = true) (hx : (execOp (ev L) o).run P w = .halt (.panic v) w') (k : Q (.panic [{ v := v, recovered := false }]) a w') : wpList P ops Q (o :: rest) a w := by
  obtain ⟨hd, hn, hk, hs, hw⟩ := chk_spec hc
  refine wpList_wanted (H.wanted hw) ?_
  unfold Oper.wp
  rw [H.exec hk hs, hx, Oper.upon_panic]
  exact k
end
end Go.Proofs.YteeillphhiaopaaGreatDoor
namespace Go.Proofs
set_option maxRecDepth 100000
set_option maxHeartbeats 4000000
open Go.Shelf
def Tryz.lays169_ren : Go.Shelf.Ren := ⟨fun | 169 => 57 | n => n, fun | 70 => 89 | 9 => 9 | 0 => 0 | 72 => 92 | 37 => 90 | 127 => 139 | 3 => 3 | 5 => 5 | n => n, fun | n => n⟩
theorem Tryz.lays169 : Go.Proofs.Lays.n169 Tryz.prog Tryz.lays169_ren := {
  mixed := by kernel_rfl
  f169 := Tryz.func57.trans (congrArg some (by kernel_rfl))
  t0 := Tryz.underlying0
  a0 := Tryz.isAgg0
  z0 := Tryz.sizeOf0
  v0 := Tryz.zeroValue0
  t3 := Tryz.underlying3
  a3 := Tryz.isAgg3
  z3 := Tryz.sizeOf3
  v3 := Tryz.zeroValue3
  t9 := Tryz.underlying9
  a9 := Tryz.isAgg9
  z9 := Tryz.sizeOf9
  v9 := Tryz.zeroValue9
  t37 := Tryz.underlying90
  a37 := Tryz.isAgg90
  z37 := Tryz.sizeOf90
  v37 := Tryz.zeroValue90
  t70 := Tryz.underlying89
  a70 := Tryz.isAgg89
  z70 := Tryz.sizeOf89
  v70 := Tryz.zeroValue89
  t72 := Tryz.underlying92
  a72 := Tryz.isAgg92
  z72 := Tryz.sizeOf92
  v72 := Tryz.zeroValue92
  t127 := Tryz.underlying139
  a127 := Tryz.isAgg139
  z127 := Tryz.sizeOf139
  v127 := Tryz.zeroValue139 }
theorem Tryz.Builder_Extra_169 : Builder.Extra Tryz.prog Tryz.lays169_ren := {
  sizeBuilder := by kernel_rfl
  liesBuilder := by kernel_rfl
  t5 := Tryz.underlying5
  a5 := Tryz.isAgg5
  z5 := Tryz.sizeOf5
  v5 := Tryz.zeroValue5
  infoByte := by kernel_rfl
  cellsByte := by kernel_rfl
  sizeByte := by kernel_rfl
  neB5 := by decide }
end Go.Proofs
namespace Go.Proofs.YteeillphhiaopaaGreatDoor
set_option maxRecDepth 100000
set_option maxHeartbeats 4000000
open Go.ChangeShapes Go.WideShapes Go.ChangeAt Go.RowKit
set_option linter.unusedVariables false
theorem sizeBuilder : (Tryz.prog.info? 92).map (·.size) = some 2 := by kernel_rfl
theorem infoByte : (Tryz.prog.info? 5).map (fun i => (i.zero, i.size, i.bytes)) = some (some (.int .u8 0), 1, 1) := by kernel_rfl
set_option maxHeartbeats 1000000 in
set_option maxRecDepth 100000 in
theorem copyCheck_used (b : Nat) (w : World) (h0 : w.cell? ⟨b, 0, none⟩ = some (.pointer (some ⟨b, 0, none⟩))) :
    Calls Tryz.prog 132 #[.pointer (some ⟨b, 0, none⟩)] w fun e w' => e = .returned (.tuple #[]) ∧ w = w' := by
  obtain ⟨j, hj, _⟩ := Option.map_eq_some_iff.1 sizeBuilder
  go_enter Tryz.func132, Tryz.ntmps132
  go_wp2
  rw [Lib.run_neq_ptr_same w _ Tryz.underlying89 hj]
  go_wp2
  go_end0
  exact ⟨rfl, rfl⟩
set_option linter.unusedSimpArgs false
section
variable {α : Type} {e : TypeId} {size : Nat} {cs : α → Array Value}
theorem own_none0 {w : World} {base bb : Nat} (h : Box w bb e ([] : List Value).toArray) (hb : base ≤ bb) : w.ownsRow base e size (.slice (some ⟨bb, 0, none⟩) 0 0) 0 [] :=
  ⟨by simp, .inr ⟨bb, 0, #[], rfl, hb, h, Nat.le_refl _, Nat.zero_le _, by simp, by simp⟩⟩
theorem Sl.pushAll {P : Program} {ops : Array Oper} {Q : Exit → Act → World → Prop} {a : Act} {w0 w : World} {LH : List HB} {K : List FK} {rest : List Oper} {n : Nat} {L : List (Nat × Value)} {s x : Operand} {t ty : TypeId} {pos : String} {af : Array Edge} {g : Option (Nat × Bool)} (H : Sl n L a) (HP : Hp w0 w LH K) (d ib : Nat) {bb : Nat} {z : Value} {bytes m c : Nat} {A : Option Addr} (l : List α)
    (hc : chk ops n L ⟨some d, .call { callee := .builtin .append, args := #[s, x], argTypes := #[t, t] }, ty, pos, af, g⟩ d = true) (ht : P.underlying t = some (.slice e)) (hinf : infoB P e = some (some z, size, bytes)) (hzs : z.cells.size = size) (hsz : Nat.blt 0 size = true)
    (hs : ev L s = .slice (some ⟨bb, 0, none⟩) 0 0) (hx : ev L x = .slice A m c) (hA : A = none → m = 0 ∧ c = 0) (hb : LH[ib]? = some (bx bb e [] true)) (hl : l.length = m) (hr : Rd w size A m (flat cs l)) (h1 : ∀ u ∈ flat cs l, u.oneCell' = true)
    (h63 : m ≤ maxLen) (hbytes : m * bytes ≤ 140737488355328)
    (k : ∀ B c' w' a', Sl n ((d, .slice B m c') :: L) a' → Hp w0 w' (LH.set ib (rowsR w0.heap.size e size cs (fun _ _ => True) (fun _ _ => False) (.slice B m c') l)) K → wpList P ops Q rest a' w') :
    wpList P ops Q (⟨some d, .call { callee := .builtin .append, args := #[s, x], argTypes := #[t, t] }, ty, pos, af, g⟩ :: rest) a w := by
  obtain ⟨hd, hn, hk, hs', hw⟩ := chk_spec hc
  have k1 := knowsAll_spec hk s (by simp [Op.operands, Call.operands])
  have k2 := knowsAll_spec hk x (by simp [Op.operands, Call.operands])
  obtain ⟨i, hi0, hi1, hi2, hi3⟩ := infoB_spec hinf
  have hbb := HP.fresh _ (List.mem_of_getElem? hb) rfl bb rfl
  have hlt := (HP.at_ ib hb).lt
  refine wpList_wanted (H.wanted hw) (wp_append_rd w s x t rfl w0.heap.size e i z size bytes ht hi0 hi1 hi2 hi3 hzs (by simp [Nat.blt] at hsz; omega) (.slice (some ⟨bb, 0, none⟩) 0 0) 0 [] ((H.eval k1).trans hs) (own_none0 (HP.at_ ib hb) hbb) A m c (flat cs l) ((H.eval k2).trans hx) hA hr h1 (by omega) (by rw [Nat.zero_add]; exact hbytes) HP.size ?_)
  intro B c' w' hown hg hat
  rw [Nat.zero_add, List.nil_append] at hown
  rw [Nat.zero_add] at hat ⊢
  simp only [hd]
  refine k B c' w' _ (H.put _ hn) (HP.mut ib hb _ _ rfl (Agree.of_grown hg fun q e => by cases e; rfl) ⟨by rw [hl]; exact hown, fun a ha => ⟨trivial, fun q hq => hq.elim⟩⟩ (rowsR_ok elOk_flat) (fun q hq => ?_) (fun q hq => ?_) (fun q hq hq' => ?_) rfl)
  · rcases hq with hq | ⟨_, _, hq⟩
    · exact (own_lt hown q hq).1
    · exact hq.elim
  · rcases hq with hq | ⟨_, _, hq⟩
    · rcases hat with hat | hat
      · rw [hat] at hq; cases hq; exact .inl rfl
      · rw [hat] at hq; cases hq; exact .inr (Nat.le_refl _)
    · exact hq.elim
  · cases hq'
    omega
end
abbrev bstr (l : List UInt8) : ByteArray := ByteArray.mk l.toArray
theorem bstr_of (s : ByteArray) : ∃ l, s = bstr l := ⟨s.data.toList, by cases s; simp⟩
theorem bstr_size (l : List UInt8) : (bstr l).size = l.length := rfl
theorem bstr_eq (a b : List UInt8) : ((bstr a).toList == (bstr b).toList) = (a == b) := by rw [ByteArray.toList_mk, ByteArray.toList_mk]
section
variable {P : Program} {ρ : Operand → Value} {w : World} {t e : TypeId} {x y z : Operand} {dst : Option Tmp} {ty : TypeId} {pos : String} {af : Array Edge} {g : Option (Nat × Bool)} {k kk : IntKind}
theorem bstr_get (l : List UInt8) (m : Nat) : ∀ (q : Nat) (hq : q < (bstr l).size), q = m → ((bstr l)[q]'hq).toNat = (l.getD m 0).toNat := by
  rintro q hq rfl
  have hm : q < l.length := hq
  show (l.toArray[q]'(by simpa using hm)).toNat = _
  simp [List.getD, List.getElem?_eq_getElem hm]
theorem ex_sindex {l : List UInt8} {i : Int} {m : Nat} (hx : ρ x = .string (bstr l)) (hy : ρ y = .int k i) (hu : P.underlying t = some .string) (hi : i = (m : Int)) (hm : m < l.length) :
    (execOp ρ ⟨dst, .index t x y, ty, pos, af, g⟩).run P w = .ok (.value (.int .u8 (((l.getD m 0).toNat : Nat) : Int))) w := by
  subst hi
  have h1 : (0 : Int) ≤ (m : Int) ∧ (m : Int) < ((bstr l).size : Int) := ⟨by omega, by rw [bstr_size]; omega⟩
  have h2 := run_index_string (P := P) w t (bstr l) k (m : Int) hu
  rw [dif_pos h1, bstr_get l m _ _ (Int.toNat_natCast m)] at h2
  simp only [execOp, hx, hy, h2, Sem.run_bind, Result.andThen_ok, Sem.run_pure]
theorem extract_bstr (l : List UInt8) (a b : Nat) : (bstr l).extract a b = bstr ((l.drop a).take (b - a)) := ByteArray.extract_mk l a b
theorem ex_sslice {l : List UInt8} {i j : Int} {a b : Nat} (hx : ρ x = .string (bstr l)) (hy : ρ y = .int k i) (hz : ρ z = .int kk j) (hu : P.underlying t = some .string) (hi : i = (a : Int)) (hj : j = (b : Int)) (hab : a ≤ b) (hb : b ≤ l.length) :
    (execOp ρ ⟨dst, .slice t x (some y) (some z) none, ty, pos, af, g⟩).run P w = .ok (.value (.string (bstr ((l.drop a).take (b - a))))) w := by
  subst hi; subst hj
  have h2 := run_slice_string (P := P) w t (bstr l) k kk (a : Int) (b : Int) hu (by omega) (by omega) (by rw [bstr_size]; omega)
  simp only [execOp, hx, hy, hz, Option.map_none, Option.map_some, run_sliceAt_string w t _ _ _ _ hu, h2, Sem.run_bind, Result.andThen_ok, Sem.run_pure, Int.toNat_natCast, extract_bstr]
theorem ex_ssliceH {l : List UInt8} {j : Int} {b : Nat} (hx : ρ x = .string (bstr l)) (hz : ρ z = .int kk j) (hu : P.underlying t = some .string) (hj : j = (b : Int)) (hb : b ≤ l.length) :
    (execOp ρ ⟨dst, .slice t x none (some z) none, ty, pos, af, g⟩).run P w = .ok (.value (.string (bstr (l.take b)))) w := by
  subst hj
  have h2 := run_slice_string_h (P := P) w t (bstr l) hu kk (b : Int) (by omega) (by rw [bstr_size]; omega)
  simp only [execOp, hx, hz, Option.map_none, Option.map_some, run_sliceAt_string w t _ _ _ _ hu, h2, Sem.run_bind, Result.andThen_ok, Sem.run_pure, Int.toNat_natCast, extract_bstr, List.drop_zero, Nat.sub_zero]
end
open Go.Shelf
def bldG (T e : TypeId) (base b : Nat) (v : Value) (bs : List UInt8) : HB :=
  ⟨fun k => k = b ∨ v.ownBlock = some k, fun w => base ≤ b ∧ (∃ p, (p = .pointer none ∨ p = .pointer (some ⟨b, 0, none⟩)) ∧ w.heap[b]? = some (.cells #[p, v] T (0, 0))) ∧ w.ownsRowF base e 1 v bs.length (Lib.byteCells bs) ∧ v.ownBlock ≠ some b, true⟩
abbrev bldW (base b : Nat) (v : Value) (bs : List UInt8) : HB := bldG 94 5 base b v bs
theorem ownF_keep {w1 w2 : World} {base : Nat} {e : TypeId} {size n : Nat} {v : Value} {xs : List Value} (h : w1.ownsRowF base e size v n xs) (hk : ∀ k, v.ownBlock = some k → w2.heap[k]? = w1.heap[k]?) : w2.ownsRowF base e size v n xs := by
  refine ⟨h.1, ?_⟩
  rcases h.2 with h2 | ⟨g, cap, cur, fz, hv, hb, hg, r⟩
  · exact .inl h2
  · exact .inr ⟨g, cap, cur, fz, hv, hb, (hk g (by rw [hv]; rfl)).trans hg, r⟩
theorem bldG_ok (T e : TypeId) (base b : Nat) (v : Value) (bs : List UInt8) : (bldG T e base b v bs).ok := fun w1 w2 h hk _ => by
  obtain ⟨h1, ⟨p, hp, hb⟩, h3, h4⟩ := h
  exact ⟨h1, ⟨p, hp, (hk b (.inl rfl)).trans hb⟩, ownF_keep h3 fun k hv => hk k (.inr hv), h4⟩
theorem bldG_lt {T e : TypeId} {base b : Nat} {v : Value} {bs : List UInt8} {w : World} (h : (bldG T e base b v bs).F w) : ∀ k, (bldG T e base b v bs).fp k → k < w.heap.size := by
  obtain ⟨h1, ⟨p, hp, hb⟩, h3, h4⟩ := h
  intro k hk
  rcases hk with rfl | hk
  · exact (Array.getElem?_eq_some_iff.1 hb).1
  · exact (h3.lt k hk).2
theorem Hp.toBld {w0 w : World} {L : List HB} {K : List FK} (H : Hp w0 w L K) (i : Nat) {b : Nat} {T : TypeId} (e : TypeId) (hi : L[i]? = some (bx b T [.pointer none, .slice none 0 0] true)) (L' : List HB) (hL : L.set i (bldG T e w0.heap.size b (.slice none 0 0) []) = L') : Hp w0 w L' K := by
  have hb := H.at_ i hi
  have hf := H.fresh _ (List.mem_of_getElem? hi) rfl b rfl
  refine H.mut i hi _ L' hL ⟨rfl, rfl, rfl, Nat.le_refl _, fun _ _ _ => rfl⟩ ⟨hf, ⟨_, .inl rfl, hb⟩, World.ownsRowF_nil _ _ _ _, by simp [Value.ownBlock]⟩ (bldG_ok _ _ _ _ _ _) (fun k hk => ?_) (fun k hk => ?_) (fun k hk _ => .inl (by
    rename_i hx; exact hx)) rfl
  · rcases hk with rfl | hk
    · exact hb.lt
    · cases hk
  · rcases hk with rfl | hk
    · exact .inl rfl
    · cases hk
theorem Hp.wrote {w0 w w' : World} {L : List HB} {K : List FK} (H : Hp w0 w L K) (i : Nat) {T e : TypeId} {b : Nat} {v v' : Value} {bs bs' : List UInt8} (hi : L[i]? = some (bldG T e w0.heap.size b v bs)) (L' : List HB) (hL : L.set i (bldG T e w0.heap.size b v' bs') = L') (hF : (bldG T e w0.heap.size b v' bs').F w') (hag : Agree w w' (bldG T e w0.heap.size b v bs).fp) (hv : ∀ k, v'.ownBlock = some k → v.ownBlock = some k ∨ w.heap.size ≤ k) : Hp w0 w' L' K := by
  refine H.mut i hi _ L' hL hag hF (bldG_ok _ _ _ _ _ _) (bldG_lt hF) (fun k hk => ?_) (fun k hk hx => ?_) rfl
  · rcases hk with rfl | hk
    · exact .inl (.inl rfl)
    · rcases hv k hk with h | h
      · exact .inl (.inr h)
      · exact .inr h
  · have := H.fresh _ (List.mem_of_getElem? hi) rfl k hx
    omega
section
variable {P : Program} (w : World)
theorem run_append_strF (base : Nat) (t u ty e : TypeId) (i : TypeInfo) (ht : P.underlying t = some (.slice e)) (hu : P.underlying u = some .string) (hi : P.info? e = some i) (hz : i.zero = some (.int .u8 0))
    (hsize : i.size = 1) (hby : i.bytes = 1)
    (v : Value) (n : Nat) (xs : List Value) (hown : w.ownsRowF base e 1 v n xs) (s : ByteArray)
    (h63 : n + s.size ≤ maxLen) (hbytes : n + s.size ≤ 140737488355328) (hbase : base ≤ w.heap.size) :
    ∃ v' w', (Builtin.append_ #[t, u] ty #[v, .string s]).run P w = .ok v' w' ∧ w'.ownsRowF base e 1 v' (n + s.size) (xs ++ Lib.strCells s) ∧ w.grownBy w' v.ownBlock ∧ ∀ k, v'.ownBlock = some k → v.ownBlock = some k ∨ w.heap.size ≤ k := by
  rcases hown.2 with ⟨rfl, rfl⟩ | ⟨g, cap, cur, fz, rfl, hbg, hg, hfz, hnc, hcm, hcs, htake⟩
  · obtain ⟨v', w', h1, h2, h3, h4⟩ := Lib.run_append_own_stringF (P := P) w w.heap.size t u ty e i ht hu hi hz hsize hby (.slice none 0 0) 0 xs ⟨hown.1, .inl ⟨rfl, rfl⟩⟩ s h63 hbytes (Nat.le_refl _)
    refine ⟨v', w', h1, ⟨h2.1, ?_⟩, h3, fun k hk => .inr (h2.lt k hk).1⟩
    rcases h2.2 with h2 | ⟨g, cap, cur, fz, hv, hb, r⟩
    · exact .inl h2
    · exact .inr ⟨g, cap, cur, fz, hv, Nat.le_trans hbase hb, r⟩
  · have hsmall : n + s.size ≤ 9223372036854775807 := by simp only [maxLen] at h63; omega
    have hxl : xs.length = n := by simpa using hown.1
    have hlen : (xs ++ Lib.strCells s).length = (n + s.size) * 1 := by rw [List.length_append, hxl, Lib.strCells_length, Nat.mul_one]
    by_cases hroom : n + s.size ≤ cap
    · have hcs' : cur.size = cap := by simpa using hcs
      have hr := Lib.run_append_room_stringF (P := P) w t u ty e i ht hu hi hsize g n cap cur fz hg (by simpa using hfz) s hroom (by omega)
      refine ⟨_, _, hr, ⟨hlen, .inr ⟨g, cap, _, fz, rfl, hbg, setRow_heap w g cur _ e _ hg, by omega, hroom, hcm, ?_, ?_⟩⟩, ⟨rfl, rfl, rfl, by simp, fun k _ hk => setRow_other w g k _ (fun e => hk (by simp [Value.ownBlock, e]))⟩, fun k hk => .inl hk⟩
      · simp only [List.size_toArray, List.length_append, List.length_take, List.length_drop, Array.length_toList, Lib.strCells_length]
        omega
      · have ht' : cur.toList.take n = xs := by simpa using htake
        rw [ht', ← hlen]
        exact List.take_left
    · have holds : ∀ j u, xs[j]? = some u → w.cell? ((⟨g, 0, none⟩ : Addr).add j) = some u := hown.cells (g := g) rfl
      have hr := Lib.run_append_grow_string (P := P) w t u ty e i (.int .u8 0) ht hu hi hz ⟨g, 0, none⟩ n cap xs (by rw [hsize]; simpa using hxl) holds s (by omega) (by omega) (by rw [hby]; exact growslice_fits (by omega) (by omega))
      have hge := grownCap_ge w (n + s.size) cap e
      have hcm2 : grownCap w (n + s.size) cap e ≤ maxLen := grownCap_le_maxLen w (n + s.size) cap e h63
      refine ⟨_, _, hr, ⟨hlen, .inr ⟨w.heap.size, _, _, (0, 0), rfl, hbase, heap_alloc_new w.drew _, Nat.zero_le _, hge, hcm2, ?_, ?_⟩⟩, ⟨rfl, rfl, rfl, by simp, fun k hk _ => heap_alloc_old w.drew _ hk⟩, fun k hk => .inr (by cases hk; exact Nat.le_refl _)⟩
      · have hz1 : (Value.int IntKind.u8 0).cells.size = 1 := rfl
        simp only [Array.size_append, List.size_toArray, size_zeroCells, hz1, hxl, Lib.strCells_length]
        omega
      · simp only [Array.toList_append, List.append_assoc]
        rw [← List.append_assoc, ← hlen]
        exact List.take_left
theorem wpList_append_strF {ops : Array Oper} {rest : List Oper} {o : Oper} {a : Act} {Q : Exit → Act → World → Prop} (hgd : o.guard = none) (sl x : Operand) (t u : TypeId)
    (ho : o.op = .call { callee := .builtin .append, args := #[sl, x], argTypes := #[t, u] })
    (base : Nat) (e : TypeId) (i : TypeInfo) (ht : P.underlying t = some (.slice e)) (hu : P.underlying u = some .string) (hi : P.info? e = some i) (hz : i.zero = some (.int .u8 0))
    (hsize : i.size = 1) (hby : i.bytes = 1)
    (v : Value) (n : Nat) (xs : List Value) (hs : a.eval sl = v) (hown : w.ownsRowF base e 1 v n xs) (s : ByteArray) (hx : a.eval x = .string s)
    (h63 : n + s.size ≤ maxLen) (hbytes : n + s.size ≤ 140737488355328) (hbase : base ≤ w.heap.size)
    (h : ∀ v' w', w'.ownsRowF base e 1 v' (n + s.size) (xs ++ Lib.strCells s) → w.grownBy w' v.ownBlock → (∀ k, v'.ownBlock = some k → v.ownBlock = some k ∨ w.heap.size ≤ k) → wpList P ops Q rest (a.put o.dst v') w') : wpList P ops Q (o :: rest) a w := by
  refine wpList_plain hgd fun K hK => ?_
  obtain ⟨v', w', hr, h2, h3, h4⟩ := run_append_strF (P := P) w base t u o.type e i ht hu hi hz hsize hby v n xs hown s h63 hbytes hbase
  unfold Oper.wp execOp
  simp only [ho, resolve, invoke, builtin, Sem.run_bind, Sem.run_pure, Result.andThen_ok, List.map_toArray, List.map_cons, List.map_nil, hs, hx, hr]
  exact hK _ _ (h v' w' h2 h3 h4)
end
theorem byteCells_append (a b : List UInt8) : Lib.byteCells (a ++ b) = Lib.byteCells a ++ Lib.byteCells b := by simp [Lib.byteCells]
theorem strCells_bstr (s : List UInt8) : Lib.strCells (bstr s) = Lib.byteCells s := by
  simp [Lib.strCells, Lib.byteCells]
set_option maxHeartbeats 1000000 in
set_option maxRecDepth 100000 in
theorem copyCheck_freshW (b : Nat) (w : World) (h0 : w.cell? ⟨b, 0, none⟩ = some (.pointer none)) (hsh : w.shape? b = some (94, 2)) (hfz : w.frozen? ⟨b, 0, none⟩ = false) :
    Calls Tryz.prog 132 #[.pointer (some ⟨b, 0, none⟩)] w fun e w' => e = .returned (.tuple #[]) ∧ w.setCell ⟨b, 0, none⟩ (.pointer (some ⟨b, 0, none⟩)) = w' := by
  obtain ⟨j, hj, hjs⟩ := Option.map_eq_some_iff.1 sizeBuilder
  go_enter Tryz.func132, Tryz.ntmps132
  go_wp2
  rw [Lib.run_to_unsafe w ⟨b, 0, none⟩ Tryz.underlying89 Tryz.underlying210 hj (by rw [hjs]; decide) hsh (Nat.zero_lt_succ 1)]
  simp only [Result.andThen]
  rw [Oper.upon_value]
  go_wp2
  rw [run_callFunc_extern Tryz.func136 (by kernel_rfl) (by kernel_rfl) (by kernel_rfl) (e := Extern.AbiNoEscape.same) (by kernel_rfl)]
  rw [Lib.run_noEscape]
  simp only [Result.andThen]
  rw [Oper.upon_value]
  go_wp2
  rw [Lib.run_from_unsafe w ⟨b, 0, none⟩ Tryz.underlying210 Tryz.underlying89 hj hsh (by kernel_rfl)]
  simp only [Result.andThen]
  rw [Oper.upon_value]
  go_wp2
  go_end0
  exact ⟨rfl, rfl⟩
set_option maxHeartbeats 2000000 in
set_option maxRecDepth 100000 in
theorem copyCheckW (b : Nat) (p v : Value) (w : World) (hp : p = .pointer none ∨ p = .pointer (some ⟨b, 0, none⟩)) (hbk : w.heap[b]? = some (.cells #[p, v] 94 (0, 0))) :
    Calls Tryz.prog 132 #[.pointer (some ⟨b, 0, none⟩)] w fun e w' => e = .returned (.tuple #[]) ∧ w'.heap[b]? = some (.cells #[.pointer (some ⟨b, 0, none⟩), v] 94 (0, 0)) ∧ Agree w w' (fun k => k = b) ∧ w'.heap.size = w.heap.size := by
  have hx : Box w b 94 #[p, v] := hbk
  rcases hp with rfl | rfl
  · refine (copyCheck_freshW b w (hx.cell rfl) (by simp [World.shape?, hbk]) (hx.frozen 0)).mono ?_
    rintro e w' ⟨rfl, rfl⟩
    exact ⟨rfl, by have := hx.set (i := 0) (.pointer (some ⟨b, 0, none⟩)); simp at this; exact this, ⟨rfl, rfl, rfl, by simp [World.setCell], fun k _ hk => Below.heap_setCell _ _ _ _ hk⟩, by simp [World.setCell]⟩
  · refine (copyCheck_used b w (hx.cell rfl)).mono ?_
    rintro e w' ⟨rfl, rfl⟩
    exact ⟨rfl, hbk, ⟨rfl, rfl, rfl, Nat.le_refl _, fun _ _ _ => rfl⟩, rfl⟩
set_option maxHeartbeats 2000000 in
set_option maxRecDepth 100000 in
theorem writeW_any (base b : Nat) (v : Value) (bs s : List UInt8) (w : World) (h : (bldW base b v bs).F w) (hlen : bs.length + s.length ≤ 140737488355328) (hbase : base ≤ w.heap.size) :
    Calls Tryz.prog 126 #[.pointer (some ⟨b, 0, none⟩), .string (bstr s)] w fun e w' => e = .returned (.tuple #[.int .i64 s.length, .nilIface]) ∧ ∃ v', (bldW base b v' (bs ++ s)).F w' ∧ Agree w w' (bldW base b v bs).fp ∧ ∀ k, v'.ownBlock = some k → v.ownBlock = some k ∨ w.heap.size ≤ k := by
  obtain ⟨hB, ⟨p, hp, hbk⟩, hown, hne⟩ := h
  obtain ⟨i0, hi, hz0, hz1, hz2⟩ := info_parts infoByte
  have hlt : b < w.heap.size := (Array.getElem?_eq_some_iff.1 hbk).1
  go_enter Tryz.func126, Tryz.ntmps126
  go_wp2_with fail
  refine (copyCheckW b p v _ hp hbk).mono ?_
  rintro e w1 ⟨rfl, hb1, ha1, hs1⟩
  have hown1 : w1.ownsRowF base 5 1 v bs.length (Lib.byteCells bs) := ownF_keep hown fun k hk => ha1.block k (hown.lt k hk).2 (fun e => hne (by rw [hk, e]))
  have c0 : w1.cell? ⟨b, 0, none⟩ = some (.pointer (some ⟨b, 0, none⟩)) := by rw [Lib.cell_of_heap hb1]; rfl
  have c1 : w1.cell? ⟨b, 1, none⟩ = some v := by rw [Lib.cell_of_heap hb1]; rfl
  go_wp2_with (at_builtin; refine wpList_append_strF _ rfl _ _ 90 9 rfl base 5 i0 Tryz.underlying90 Tryz.underlying9 hi hz0 hz1 hz2 _ _ _ rfl hown1 (bstr s) rfl ?c3 ?c4 ?c5 ?_)
  case c3 => rw [bstr_size]; unfold maxLen; omega
  case c4 => rw [bstr_size]; exact hlen
  case c5 => omega
  intro v' w2 hown' hgrow hat
  have hlt1 : b < w1.heap.size := by omega
  have hb2 : w2.heap[b]? = some (.cells #[.pointer (some ⟨b, 0, none⟩), v] 94 (0, 0)) := by
    rw [hgrow.block b hlt1 (fun e => hne e.symm)]
    exact hb1
  have d0 : w2.cell? ⟨b, 0, none⟩ = some (.pointer (some ⟨b, 0, none⟩)) := by rw [Lib.cell_of_heap hb2]; rfl
  have d1 : w2.cell? ⟨b, 1, none⟩ = some v := by rw [Lib.cell_of_heap hb2]; rfl
  have f1 : w2.frozen? ⟨b, 1, none⟩ = false := Lib.frozen_of_heap hb2 1
  have hvb : v'.ownBlock ≠ some b := fun e => by
    rcases hat b e with h | h
    · exact hne h
    · omega
  obtain ⟨ao, n', cap, rfl⟩ : ∃ ao n' cap, v' = .slice ao n' cap := by
    rcases hown'.2 with ⟨hv, _⟩ | ⟨g, cap, cur, fz, hv, _⟩
    · exact ⟨_, _, _, hv⟩
    · exact ⟨_, _, _, hv⟩
  go_wp2
  go_ret2
  have hx2 : Box w2 b 94 #[.pointer (some ⟨b, 0, none⟩), v] := hb2
  refine ⟨rfl, _, ⟨hB, ⟨_, .inr rfl, by have := hx2.set (i := 1) (.slice ao n' cap); simp at this; exact this⟩, ownF_keep (w1 := w2) ?_ fun k hk => Below.heap_setCell _ _ _ _ (fun e => hvb (by rw [hk, e])), hvb⟩, ⟨?_, ?_, ?_, ?_, fun k hk hf => ?_⟩, fun k hk => ?_⟩
  · rw [byteCells_append, List.length_append]
    rw [strCells_bstr] at hown'
    exact hown'
  · exact hgrow.os.trans ha1.os
  · exact hgrow.tape.trans ha1.tape
  · exact hgrow.output.trans ha1.output
  · have := hgrow.size; simp [World.setCell]; omega
  · rw [Below.heap_setCell _ _ _ _ (fun e => hf (.inl e)), hgrow.block k (by omega) (fun e => hf (.inr e.symm)), ha1.block k hk (fun e => hf (.inl e))]
  · rcases hat k hk with h | h
    · exact .inl h
    · exact .inr (by omega)
set_option maxHeartbeats 2000000 in
set_option maxRecDepth 100000 in
theorem strT_any {P : Program} {ρ : Ren} (T : TypeId) (L : Lays.n169 P ρ) (X : Builder.Extra P ρ) (base b : Nat) (v : Value) (l : List UInt8) (w : World) (h : (bldG T (ρ.t 5) base b v l).F w) (h0 : l ≠ []) :
    Calls P (ρ.f 169) #[.pointer (some ⟨b, 0, none⟩)] w fun e w' => e = .returned (.string (bstr l)) ∧ (bldG T (ρ.t 5) base b v l).F w' ∧ Agree w w' (bldG T (ρ.t 5) base b v l).fp := by
  obtain ⟨hB, ⟨p, hp, hbk⟩, hown, hne⟩ := h
  have hl0 : l.length ≠ 0 := by simpa using h0
  obtain ⟨g, cap, cur, fz, rfl, hbg, hg, hfz, hnc, hcm, hcs, htake⟩ : ∃ g cap cur fz, v = .slice (some ⟨g, 0, none⟩) l.length cap ∧ base ≤ g ∧ w.heap[g]? = some (.cells cur (ρ.t 5) fz) ∧ fz.2 ≤ l.length * 1 ∧ l.length ≤ cap ∧ cap ≤ maxLen ∧ cur.size = cap * 1 ∧ cur.toList.take (l.length * 1) = Lib.byteCells l := by
    rcases hown.2 with ⟨_, hz⟩ | ⟨g, cap, cur, fz, hv, r⟩
    · exact absurd hz hl0
    · exact ⟨g, cap, cur, fz, hv, r⟩
  have c1 : w.drew.cell? ⟨b, 1, none⟩ = some (.slice (some ⟨g, 0, none⟩) l.length cap) := by
    have : w.drew.heap[b]? = some (.cells #[p, .slice (some ⟨g, 0, none⟩) l.length cap] T (0, 0)) := hbk
    rw [Lib.cell_of_heap this]; rfl
  have hSD : (Builtin.unsafeSliceData_ #[(ρ.t 37)] (ρ.t 127) #[.slice (some ⟨g, 0, none⟩) l.length cap]).run P w.drew = .ok (.pointer (some ⟨g, 0, none⟩)) w.drew :=
    Lib.run_unsafeSliceData_row _ _ _ _ _ _ (by omega)
  have hUS : (Builtin.unsafeString_ #[(ρ.t 127), (ρ.t 3)] (ρ.t 9) #[.pointer (some ⟨g, 0, none⟩), .int .i64 l.length]).run P w.drew = .ok (.string ⟨l.toArray⟩) (w.drew.freeze ⟨g, 0, none⟩ l.length) := by
    refine Lib.run_unsafeString_row w.drew (ρ.t 127) (ρ.t 3) (ρ.t 9) (ρ.t 5) L.t127 X.cellsByte g cur.size (by have hg' : w.drew.heap[g]? = some (.cells cur (ρ.t 5) fz) := hg; simp [World.shape?, hg']) l h0 (by omega) (by unfold maxLen at hcm; omega) ?_
    intro j x hx
    have := hown.cells (g := g) rfl j (.int .u8 x.toNat) (by simp [Lib.byteCells, hx])
    exact this
  have hA : Lib.BuilderAtF T (ρ.t 5) base b p (Lib.byteCells l) w.drew := ⟨hB, _, hbk, by rw [Lib.byteCells_length]; exact hown, hne⟩
  have hF := hA.froze (g := g) (cap := cap) (by rw [Lib.byteCells_length]; exact c1)
  rw [Lib.byteCells_length] at hF
  have hgb : b ≠ g := fun e => hne (by rw [e]; rfl)
  have hother : ∀ k, k ≠ g → (w.drew.freeze ⟨g, 0, none⟩ l.length).heap[k]? = w.heap[k]? := by
    intro k hk
    unfold World.freeze
    rw [if_neg hl0]
    simp only [Array.getElem?_modify]
    rw [if_neg (fun e => hk e.symm)]
    rfl
  have hkeep : (bldG T (ρ.t 5) base b (.slice (some ⟨g, 0, none⟩) l.length cap) l).F (w.drew.freeze ⟨g, 0, none⟩ l.length) := by
    obtain ⟨_, v2, hb2, hown2, hne2⟩ := hF
    have e : v2 = .slice (some ⟨g, 0, none⟩) l.length cap := by
      rw [hother b hgb, hbk] at hb2
      simp at hb2
      exact hb2.symm
    subst e
    rw [Lib.byteCells_length] at hown2
    exact ⟨hB, ⟨p, hp, hb2⟩, hown2, hne2⟩
  have hag : Agree w (w.drew.freeze ⟨g, 0, none⟩ l.length) (bldG T (ρ.t 5) base b (.slice (some ⟨g, 0, none⟩) l.length cap) l).fp := by
    have hb := Lib.below_freeze (Below.drew (Below.refl 0 w)) (p := ⟨g, 0, none⟩) (Nat.zero_le _) l.length
    exact ⟨hb.os, hb.tape, hb.output, hb.size, fun k hk hf => hother k fun e => hf (.inr (by rw [e]; rfl))⟩
  have mixed := L.mixed
  have t72 := L.t72; have a72 := L.a72; have z72 := L.z72; have v72 := L.v72; have u72 := run_underlying L.t72
  have t70 := L.t70; have a70 := L.a70; have z70 := L.z70; have v70 := L.v70; have u70 := run_underlying L.t70
  have t37 := L.t37; have a37 := L.a37; have z37 := L.z37; have v37 := L.v37; have u37 := run_underlying L.t37
  have t127 := L.t127; have a127 := L.a127; have z127 := L.z127; have v127 := L.v127; have u127 := run_underlying L.t127
  have t3 := L.t3; have a3 := L.a3; have z3 := L.z3; have v3 := L.v3; have u3 := run_underlying L.t3
  have t9 := L.t9; have a9 := L.a9; have z9 := L.z9; have v9 := L.v9; have u9 := run_underlying L.t9
  have t5 := X.t5; have a5 := X.a5; have z5 := X.z5; have v5 := X.v5; have u5 := run_underlying X.t5
  go_enter L.f169, Body.n169_ntmps ρ
  go_wp2
  go_region_o
  all_goals (go_wp2; go_ret; exact ⟨rfl, hkeep, hag⟩)
theorem strW_any (base b : Nat) (v : Value) (l : List UInt8) (w : World) (h : (bldW base b v l).F w) (h0 : l ≠ []) :
    Calls Tryz.prog 57 #[.pointer (some ⟨b, 0, none⟩)] w fun e w' => e = .returned (.string (bstr l)) ∧ (bldW base b v l).F w' ∧ Agree w w' (bldW base b v l).fp :=
  strT_any 94 Tryz.lays169 Tryz.Builder_Extra_169 base b v l w h h0
theorem and_false2 {p q : Prop} [Decidable p] [Decidable q] (h : ¬ (p ∧ q)) : (decide p && decide q) = false := by
 by_cases hp : p
 ·have hq : ¬ q := fun hq => h ⟨hp, hq⟩
  simp [hq]
 ·simp [hp]
theorem within_any (n lo hi : Int) (w : World) : Calls Tryz.prog 67 #[.int .i64 n, .int .i64 lo, .int .i64 hi] w fun e w' => e = .returned (.bool (inR n lo hi)) ∧ Below w.heap.size w w' := by
 have HP := Hp.start w
 refine w_enter 15 [(0, (ii n)), (1, (ii lo)), (2, (ii hi))] Tryz.func67 rfl Tryz.ntmps67 (by kernel_rfl) (by kernel_rfl) fun a H => ?_
 refine sq (rg ?_)
 refine H.v 6 (.bool false) fun a H => ?_
 refine nl (tn (sq (rg ?_)))
 refine H.v 7 (ii lo) fun a H => H.v 8 (ii n) fun a H => H.v 9 (.bool (decide (lo ≤ n))) fun a H => H.v 10 (.bool (decide (lo ≤ n))) fun a H => ?_
 refine H.split 10 rfl (fun g10 H => ?_) (fun g10 H => ?_)
 ·have g10p := of_decide_eq_true g10
  refine H.v 11 (ii n) fun a H => H.v 12 (ii hi) fun a H => H.v 13 (.bool (decide (n ≤ hi))) fun a H => H.v 14 (.bool (decide (n ≤ hi))) fun a H => H.v 6 (.bool (decide (n ≤ hi))) fun a H => ?_
  refine nl (tn (rt ?_))
  refine H.r1 (.bool (decide (n ≤ hi))) Tryz.results67 ?_
  exact ⟨by rw [show inR n lo hi = decide (n ≤ hi) from by simp only [inR]; simp [g10]], HP.bl⟩
 have g10p := of_decide_eq_false g10
 iterate 3 refine H.sx rfl fun a H => ?_
 refine H.v 14 (.bool false) fun a H => H.v 6 (.bool false) fun a H => ?_
 refine nl (tn (rt ?_))
 refine H.r1 (.bool false) Tryz.results67 ?_
 exact ⟨by rw [show inR n lo hi = false from by simp only [inR]; simp [g10]], HP.bl⟩
theorem itemID_any (x : Itm) (w : World) : Calls Tryz.prog 49 #[(itV x)] w fun e w' => e = .returned (ii x.id) ∧ Below w.heap.size w w' := by
 have HP := Hp.start w
 refine w_enter 5 [(0, (itV x))] Tryz.func49 rfl Tryz.ntmps49 (by kernel_rfl) (by kernel_rfl) fun a H => ?_
 refine sq (rg ?_)
 refine H.al HP 1 38 (itL x) fun b_1 w_2 a H HP => H.v 2 (ii 0) fun a H => ?_
 refine nl (tn (sq (rg ?_)))
 refine H.v 3 (pt b_1 0) fun a H => H.u 4 (ii x.id) (ex_l1 (HP.cell 0 rfl 0 rfl)) fun a H => H.v 2 (ii x.id) fun a H => ?_
 refine nl (tn (rt ?_))
 refine H.r1 (ii x.id) Tryz.results49 ?_
 exact ⟨rfl, HP.bl⟩
theorem entryID_any (x : Ent) (w : World) : Calls Tryz.prog 51 #[(enV x)] w fun e w' => e = .returned (ii x.id) ∧ Below w.heap.size w w' := by
 have HP := Hp.start w
 refine w_enter 5 [(0, (enV x))] Tryz.func51 rfl Tryz.ntmps51 (by kernel_rfl) (by kernel_rfl) fun a H => ?_
 refine sq (rg ?_)
 refine H.al HP 1 43 (enL x) fun b_1 w_2 a H HP => H.v 2 (ii 0) fun a H => ?_
 refine nl (tn (sq (rg ?_)))
 refine H.v 3 (pt b_1 0) fun a H => H.u 4 (ii x.id) (ex_l1 (HP.cell 0 rfl 0 rfl)) fun a H => H.v 2 (ii x.id) fun a H => ?_
 refine nl (tn (rt ?_))
 refine H.r1 (ii x.id) Tryz.results51 ?_
 exact ⟨rfl, HP.bl⟩
theorem bookingID_any (x : Bkg) (w : World) : Calls Tryz.prog 54 #[(bkV x)] w fun e w' => e = .returned (ii x.id) ∧ Below w.heap.size w w' := by
 have HP := Hp.start w
 refine w_enter 5 [(0, (bkV x))] Tryz.func54 rfl Tryz.ntmps54 (by kernel_rfl) (by kernel_rfl) fun a H => ?_
 refine sq (rg ?_)
 refine H.al HP 1 47 (bkL x) fun b_1 w_2 a H HP => H.v 2 (ii 0) fun a H => ?_
 refine nl (tn (sq (rg ?_)))
 refine H.v 3 (pt b_1 0) fun a H => H.u 4 (ii x.id) (ex_l1 (HP.cell 0 rfl 0 rfl)) fun a H => H.v 2 (ii x.id) fun a H => ?_
 refine nl (tn (rt ?_))
 refine H.r1 (ii x.id) Tryz.results54 ?_
 exact ⟨rfl, HP.bl⟩
theorem altRegion_any (x : Int × Int) (w : World) : Calls Tryz.prog 116 #[(alV x)] w fun e w' => e = .returned (ii x.1) ∧ Below w.heap.size w w' := by
 have HP := Hp.start w
 refine w_enter 5 [(0, (alV x))] Tryz.func116 rfl Tryz.ntmps116 (by kernel_rfl) (by kernel_rfl) fun a H => ?_
 refine sq (rg ?_)
 refine H.al HP 1 62 (alL x) fun b_1 w_2 a H HP => H.v 2 (ii 0) fun a H => ?_
 refine nl (tn (sq (rg ?_)))
 refine H.v 3 (pt b_1 0) fun a H => H.u 4 (ii x.1) (ex_l1 (HP.cell 0 rfl 0 rfl)) fun a H => H.v 2 (ii x.1) fun a H => ?_
 refine nl (tn (rt ?_))
 refine H.r1 (ii x.1) Tryz.results116 ?_
 exact ⟨rfl, HP.bl⟩
theorem ascI_any (A : Option Addr) (c : Nat) (l : List (Itm)) (lo hi : Int) (w : World) (hr : IsRow 5 itC w A l) (hl : l.length ≤ maxLen) (hlo : -1000000 ≤ lo ∧ lo ≤ 1000000) :
  Calls Tryz.prog 70 #[.slice A l.length c, .int .i64 lo, .int .i64 hi, .func (.func 49) #[] #[]] w fun e w' => e = .returned (.bool (asc (lo - 1) hi (l.map (fun x : Itm => x.id)))) ∧ Below w.heap.size w w' := by
 unfold maxLen at hl
 have HP := Hp.start w
 refine w_enter 46 [(0, (.slice A l.length c)), (1, (ii lo)), (2, (ii hi)), (3, (.func (.func 49) #[] #[]))] Tryz.func70 rfl Tryz.ntmps70 (by kernel_rfl) (by kernel_rfl) fun a H => ?_
 refine sq (rg ?_)
 refine H.v 8 (.bool false) fun a H => ?_
 refine nl (tn (sq (sq (rg ?_))))
 refine H.v 12 (.slice A l.length c) fun a H => H.v 13 (ii l.length) fun a H => H.v 14 (ii 0) fun a H => ?_
 refine nl (tn (bk ?_))
 refine w_loop (fun mm a wv => ∃ (i : Nat), ∃ (last : Int), l.length - i = mm ∧ Sl 46 [(14, (ii i)), (13, (ii l.length)), (12, (.slice A l.length c)), (0, (.slice A l.length c)), (1, (ii lo)), (2, (ii hi)), (3, (.func (.func 49) #[] #[]))] a ∧ Hp w wv [] [] ∧ (i ≤ l.length) ∧ ((i = 0 ∧ last = lo - 1) ∨ (∃ y, i ≠ 0 ∧ l[i - 1]? = some y ∧ last = y.id)) ∧ (lo - 1 ≤ last) ∧ (asc (lo - 1) hi (l.map (fun x : Itm => x.id)) = asc last hi ((l.drop i).map (fun x : Itm => x.id)))) (l.length - 0) ?_ ?_
 ·exact ⟨0, lo - 1, (by omega), H.keep (by kernel_rfl), HP, (Nat.zero_le _), (.inl ⟨rfl, rfl⟩), (Int.le_refl _), rfl⟩
 rintro mm a w_1 ⟨i, last, hmeas, H, HP, hib, hlast, hge, hrel⟩
 refine sq (rg ?_)
 refine H.v 15 (.bool (decide ((i : Int) < (l.length : Int)))) fun a H => ?_
 refine nl (tn (sq ?_))
 refine w_if H rfl (fun g15 => ?_) (fun g15 => ?_)
 ·have g15p := of_decide_eq_true g15
  refine sk (tn (sq (bk (sq ?_))))
  obtain ⟨bu_3, ou_4, x_2, hA_5, _, hd_7, hx_6, hm_8, _⟩ := IsRow.get itC_size (hr.below HP.bl) (i := i) (by omega)
  have hst : asc last hi ((l.drop i).map (fun x : Itm => x.id)) = (decide (last < x_2.id) && decide (x_2.id ≤ hi) && asc x_2.id hi ((l.drop (i + 1)).map (fun x : Itm => x.id))) := by rw [hd_7]; rfl
  refine rg ?_
  refine H.v 16 (ii i) fun a H => H.u 17 (.pointer (some ⟨bu_3, ou_4 + i * 5, none⟩)) (ex_indexA (b := bu_3) (off := ou_4) (len := l.length) (cap := c) (e := 38) (k := 5) (ik := .i64) (i := (i : Int)) (m := i) hA_5 (by kernel_rfl) (by kernel_rfl) (by omega) (by omega) (by kernel_rfl) (by kernel_rfl)) fun a H => H.u 18 (itV x_2) (ex_lN (itL x_2) (IsRow.cells itC_size (hr.below HP.bl) hA_5 hx_6)) fun a H => H.al HP 10 38 [(ii 0), (ii 0), (ii 0), (ii 0), (ii 0)] fun b_9 w_10 a H HP => H.v 9 (ii i) fun a H => H.st HP 0 b_9 0 5 38 true (itV x_2) [bx b_9 38 (itL x_2) true] rfl fun w_11 a H HP => ?_
  refine nl (tn (sq (rg ?_)))
  refine H.v 19 (.func (.func 49) #[] #[]) fun a H => H.u 20 (itV x_2) (ex_lN (itL x_2) (HP.cells 0 rfl 0 5 (by kernel_rfl))) fun a H => H.cb HP 21 (Tryz.call49 _ _) (itemID_any x_2 w_11) fun w_12 hb a H HP => H.v 11 (ii x_2.id) fun a H => ?_
  refine nl (tn (sq (rg ?_)))
  refine H.v 22 (ii x_2.id) fun a H => H.v 23 (ii lo) fun a H => H.v 24 (.bool (decide (x_2.id < lo))) fun a H => H.v 25 (.bool (decide (x_2.id < lo))) fun a H => ?_
  refine H.split 25 rfl (fun g25 H => ?_) (fun g25 H => ?_)
  ·have g25p := of_decide_eq_true g25
   iterate 3 refine H.sx rfl fun a H => ?_
   iterate 2 refine H.vx rfl (.bool true) fun a H => ?_
   iterate 13 refine H.sx rfl fun a H => ?_
   refine H.vx rfl (.bool true) fun a H => ?_
   refine nl (tn ?_)
   refine w_ift H rfl ?_
   refine sq (rg ?_)
   refine H.v 8 (.bool false) fun a H => ?_
   refine nl (tn (rt (ibr (tr (tr (ibr (tr ?_)))))))
   refine H.r1 (.bool false) Tryz.results70 ?_
   have hbad : ¬ (last < x_2.id ∧ x_2.id ≤ hi) := by omega
   exact ⟨by rw [hrel, hst, and_false2 hbad]; rfl, HP.bl⟩
  have g25p := of_decide_eq_false g25
  refine H.v 26 (ii x_2.id) fun a H => H.v 27 (ii hi) fun a H => H.v 28 (.bool (decide (x_2.id > hi))) fun a H => H.v 29 (.bool (decide (x_2.id > hi))) fun a H => H.v 30 (.bool (decide (x_2.id > hi))) fun a H => ?_
  refine H.split 30 rfl (fun g30 H => ?_) (fun g30 H => ?_)
  ·have g30p := of_decide_eq_true g30
   iterate 13 refine H.sx rfl fun a H => ?_
   refine H.vx rfl (.bool true) fun a H => ?_
   refine nl (tn ?_)
   refine w_ift H rfl ?_
   refine sq (rg ?_)
   refine H.v 8 (.bool false) fun a H => ?_
   refine nl (tn (rt (ibr (tr (tr (ibr (tr ?_)))))))
   refine H.r1 (.bool false) Tryz.results70 ?_
   have hbad : ¬ (last < x_2.id ∧ x_2.id ≤ hi) := by omega
   exact ⟨by rw [hrel, hst, and_false2 hbad]; rfl, HP.bl⟩
  have g30p := of_decide_eq_false g30
  refine H.v 31 (ii i) fun a H => H.v 32 (.bool (decide ((i : Int) > 0))) fun a H => H.v 33 (.bool (decide ((i : Int) > 0))) fun a H => ?_
  refine H.split 33 rfl (fun g33 H => ?_) (fun g33 H => ?_)
  ·have g33p := of_decide_eq_true g33
   refine H.v 34 (ii x_2.id) fun a H => H.v 35 (.func (.func 49) #[] #[]) fun a H => H.v 36 (.slice A l.length c) fun a H => H.v 37 (ii i) fun a H => ?_
   obtain ⟨bu_14, ou_15, x_13, hA_16, _, hd_18, hx_17, hm_19, _⟩ := IsRow.get itC_size (hr.below HP.bl) (i := i - 1) (by omega)
   have hly : last = x_13.id := by rcases hlast with ⟨h1, _⟩ | ⟨z, h1, h2, h3⟩; (exfalso; omega); (rw [hx_17] at h2; cases h2; exact h3)
   refine H.valE 38 (ii (IntKind.i64.wrap ((i : Int) - 1))) (ii ((i - 1 : Nat) : Int)) (by kernel_rfl) (by kernel_rfl) ((by rw [wrap_ini64 _ (by omega)]; congr 1; omega)) fun a H => H.u 39 (.pointer (some ⟨bu_14, ou_15 + (i - 1) * 5, none⟩)) (ex_indexA (b := bu_14) (off := ou_15) (len := l.length) (cap := c) (e := 38) (k := 5) (ik := .i64) (i := ((i - 1 : Nat) : Int)) (m := (i - 1)) hA_16 (by kernel_rfl) (by kernel_rfl) (by omega) (by omega) (by kernel_rfl) (by kernel_rfl)) fun a H => H.u 40 (itV x_13) (ex_loadN (b := bu_14) (off := ou_15 + (i - 1) * 5) (vs := (itL x_13)) (by kernel_rfl) (by kernel_rfl) (by kernel_rfl) rfl (IsRow.cells itC_size (hr.below HP.bl) hA_16 hx_17)) fun a H => H.cb HP 41 (Tryz.call49 _ _) (itemID_any x_13 w_12) fun w_20 hb a H HP => H.v 42 (.bool (decide (x_2.id ≤ x_13.id))) fun a H => H.v 43 (.bool (decide (x_2.id ≤ x_13.id))) fun a H => H.v 44 (.bool (decide (x_2.id ≤ x_13.id))) fun a H => ?_
   refine nl (tn ?_)
   refine w_if H rfl (fun g44 => ?_) (fun g44 => ?_)
   ·have g44p := of_decide_eq_true g44
    refine sq (rg ?_)
    refine H.v 8 (.bool false) fun a H => ?_
    refine nl (tn (rt (ibr (tr (tr (ibr (tr ?_)))))))
    refine H.r1 (.bool false) Tryz.results70 ?_
    have hbad : ¬ (last < x_2.id ∧ x_2.id ≤ hi) := by omega
    exact ⟨by rw [hrel, hst, and_false2 hbad]; rfl, HP.bl⟩
   have g44p := of_decide_eq_false g44
   refine sk (ibn (tn (rg ?_)))
   refine H.valE 45 (ii (IntKind.i64.wrap ((i : Int) + 1))) (ii ((i : Int) + 1)) (by kernel_rfl) (by kernel_rfl) ((by rw [wrap_ini64 _ (by omega)])) fun a H => H.v 14 (ii ((i : Int) + 1)) fun a H => ?_
   refine nl (tn ?_)
   have hlt : last < x_2.id := by rcases hlast with ⟨h1, h2⟩ | ⟨z, h1, h2, h3⟩ <;> omega
   have hle : x_2.id ≤ hi := by omega
   have H := H.as 14 (ii ((i + 1 : Nat) : Int)) rfl rfl
   refine ⟨_, ?_, i + 1, x_2.id, rfl, H.keep (by kernel_rfl), (HP.tail rfl), (by omega), (.inr ⟨x_2, by omega, by simpa using hx_6, rfl⟩), (by omega), (by rw [hrel, hst, decide_eq_true hlt, decide_eq_true hle]; rfl)⟩
   omega
  have g33p := of_decide_eq_false g33
  iterate 9 refine H.sx rfl fun a H => ?_
  refine H.v 43 (.bool false) fun a H => H.v 44 (.bool false) fun a H => ?_
  refine nl (tn ?_)
  refine w_iff H rfl ?_
  refine sk (ibn (tn (rg ?_)))
  refine H.valE 45 (ii (IntKind.i64.wrap ((i : Int) + 1))) (ii ((i : Int) + 1)) (by kernel_rfl) (by kernel_rfl) ((by rw [wrap_ini64 _ (by omega)])) fun a H => H.v 14 (ii ((i : Int) + 1)) fun a H => ?_
  refine nl (tn ?_)
  have hlt : last < x_2.id := by rcases hlast with ⟨h1, h2⟩ | ⟨z, h1, h2, h3⟩ <;> omega
  have hle : x_2.id ≤ hi := by omega
  have H := H.as 14 (ii ((i + 1 : Nat) : Int)) rfl rfl
  refine ⟨_, ?_, i + 1, x_2.id, rfl, H.keep (by kernel_rfl), (HP.tail rfl), (by omega), (.inr ⟨x_2, by omega, by simpa using hx_6, rfl⟩), (by omega), (by rw [hrel, hst, decide_eq_true hlt, decide_eq_true hle]; rfl)⟩
  omega
 have g15p := of_decide_eq_false g15
 refine wp_exit (then_exit (then_exit ?_))
 refine w_exit_here ?_
 refine tn (sq (rg ?_))
 refine H.v 8 (.bool true) fun a H => ?_
 refine nl (tn (rt ?_))
 refine H.r1 (.bool true) Tryz.results70 ?_
 exact ⟨by rw [hrel, List.drop_eq_nil_of_le (by omega)]; rfl, HP.bl⟩
theorem ascB_any (A : Option Addr) (c : Nat) (l : List (Bkg)) (lo hi : Int) (w : World) (hr : IsRow 7 bkC w A l) (hl : l.length ≤ maxLen) (hlo : -1000000 ≤ lo ∧ lo ≤ 1000000) :
  Calls Tryz.prog 71 #[.slice A l.length c, .int .i64 lo, .int .i64 hi, .func (.func 54) #[] #[]] w fun e w' => e = .returned (.bool (asc (lo - 1) hi (l.map (fun x : Bkg => x.id)))) ∧ Below w.heap.size w w' := by
 unfold maxLen at hl
 have HP := Hp.start w
 refine w_enter 46 [(0, (.slice A l.length c)), (1, (ii lo)), (2, (ii hi)), (3, (.func (.func 54) #[] #[]))] Tryz.func71 rfl Tryz.ntmps71 (by kernel_rfl) (by kernel_rfl) fun a H => ?_
 refine sq (rg ?_)
 refine H.v 8 (.bool false) fun a H => ?_
 refine nl (tn (sq (sq (rg ?_))))
 refine H.v 12 (.slice A l.length c) fun a H => H.v 13 (ii l.length) fun a H => H.v 14 (ii 0) fun a H => ?_
 refine nl (tn (bk ?_))
 refine w_loop (fun mm a wv => ∃ (i : Nat), ∃ (last : Int), l.length - i = mm ∧ Sl 46 [(14, (ii i)), (13, (ii l.length)), (12, (.slice A l.length c)), (0, (.slice A l.length c)), (1, (ii lo)), (2, (ii hi)), (3, (.func (.func 54) #[] #[]))] a ∧ Hp w wv [] [] ∧ (i ≤ l.length) ∧ ((i = 0 ∧ last = lo - 1) ∨ (∃ y, i ≠ 0 ∧ l[i - 1]? = some y ∧ last = y.id)) ∧ (lo - 1 ≤ last) ∧ (asc (lo - 1) hi (l.map (fun x : Bkg => x.id)) = asc last hi ((l.drop i).map (fun x : Bkg => x.id)))) (l.length - 0) ?_ ?_
 ·exact ⟨0, lo - 1, (by omega), H.keep (by kernel_rfl), HP, (Nat.zero_le _), (.inl ⟨rfl, rfl⟩), (Int.le_refl _), rfl⟩
 rintro mm a w_1 ⟨i, last, hmeas, H, HP, hib, hlast, hge, hrel⟩
 refine sq (rg ?_)
 refine H.v 15 (.bool (decide ((i : Int) < (l.length : Int)))) fun a H => ?_
 refine nl (tn (sq ?_))
 refine w_if H rfl (fun g15 => ?_) (fun g15 => ?_)
 ·have g15p := of_decide_eq_true g15
  refine sk (tn (sq (bk (sq ?_))))
  obtain ⟨bu_3, ou_4, x_2, hA_5, _, hd_7, hx_6, hm_8, _⟩ := IsRow.get bkC_size (hr.below HP.bl) (i := i) (by omega)
  have hst : asc last hi ((l.drop i).map (fun x : Bkg => x.id)) = (decide (last < x_2.id) && decide (x_2.id ≤ hi) && asc x_2.id hi ((l.drop (i + 1)).map (fun x : Bkg => x.id))) := by rw [hd_7]; rfl
  refine rg ?_
  refine H.v 16 (ii i) fun a H => H.u 17 (.pointer (some ⟨bu_3, ou_4 + i * 7, none⟩)) (ex_indexA (b := bu_3) (off := ou_4) (len := l.length) (cap := c) (e := 47) (k := 7) (ik := .i64) (i := (i : Int)) (m := i) hA_5 (by kernel_rfl) (by kernel_rfl) (by omega) (by omega) (by kernel_rfl) (by kernel_rfl)) fun a H => H.u 18 (bkV x_2) (ex_lN (bkL x_2) (IsRow.cells bkC_size (hr.below HP.bl) hA_5 hx_6)) fun a H => H.al HP 10 47 [(ii 0), (ii 0), (ii 0), (ii 0), (ii 0), (ii 0), (ii 0)] fun b_9 w_10 a H HP => H.v 9 (ii i) fun a H => H.st HP 0 b_9 0 7 47 true (bkV x_2) [bx b_9 47 (bkL x_2) true] rfl fun w_11 a H HP => ?_
  refine nl (tn (sq (rg ?_)))
  refine H.v 19 (.func (.func 54) #[] #[]) fun a H => H.u 20 (bkV x_2) (ex_lN (bkL x_2) (HP.cells 0 rfl 0 7 (by kernel_rfl))) fun a H => H.cb HP 21 (Tryz.call54 _ _) (bookingID_any x_2 w_11) fun w_12 hb a H HP => H.v 11 (ii x_2.id) fun a H => ?_
  refine nl (tn (sq (rg ?_)))
  refine H.v 22 (ii x_2.id) fun a H => H.v 23 (ii lo) fun a H => H.v 24 (.bool (decide (x_2.id < lo))) fun a H => H.v 25 (.bool (decide (x_2.id < lo))) fun a H => ?_
  refine H.split 25 rfl (fun g25 H => ?_) (fun g25 H => ?_)
  ·have g25p := of_decide_eq_true g25
   iterate 3 refine H.sx rfl fun a H => ?_
   iterate 2 refine H.vx rfl (.bool true) fun a H => ?_
   iterate 13 refine H.sx rfl fun a H => ?_
   refine H.vx rfl (.bool true) fun a H => ?_
   refine nl (tn ?_)
   refine w_ift H rfl ?_
   refine sq (rg ?_)
   refine H.v 8 (.bool false) fun a H => ?_
   refine nl (tn (rt (ibr (tr (tr (ibr (tr ?_)))))))
   refine H.r1 (.bool false) Tryz.results71 ?_
   have hbad : ¬ (last < x_2.id ∧ x_2.id ≤ hi) := by omega
   exact ⟨by rw [hrel, hst, and_false2 hbad]; rfl, HP.bl⟩
  have g25p := of_decide_eq_false g25
  refine H.v 26 (ii x_2.id) fun a H => H.v 27 (ii hi) fun a H => H.v 28 (.bool (decide (x_2.id > hi))) fun a H => H.v 29 (.bool (decide (x_2.id > hi))) fun a H => H.v 30 (.bool (decide (x_2.id > hi))) fun a H => ?_
  refine H.split 30 rfl (fun g30 H => ?_) (fun g30 H => ?_)
  ·have g30p := of_decide_eq_true g30
   iterate 13 refine H.sx rfl fun a H => ?_
   refine H.vx rfl (.bool true) fun a H => ?_
   refine nl (tn ?_)
   refine w_ift H rfl ?_
   refine sq (rg ?_)
   refine H.v 8 (.bool false) fun a H => ?_
   refine nl (tn (rt (ibr (tr (tr (ibr (tr ?_)))))))
   refine H.r1 (.bool false) Tryz.results71 ?_
   have hbad : ¬ (last < x_2.id ∧ x_2.id ≤ hi) := by omega
   exact ⟨by rw [hrel, hst, and_false2 hbad]; rfl, HP.bl⟩
  have g30p := of_decide_eq_false g30
  refine H.v 31 (ii i) fun a H => H.v 32 (.bool (decide ((i : Int) > 0))) fun a H => H.v 33 (.bool (decide ((i : Int) > 0))) fun a H => ?_
  refine H.split 33 rfl (fun g33 H => ?_) (fun g33 H => ?_)
  ·have g33p := of_decide_eq_true g33
   refine H.v 34 (ii x_2.id) fun a H => H.v 35 (.func (.func 54) #[] #[]) fun a H => H.v 36 (.slice A l.length c) fun a H => H.v 37 (ii i) fun a H => ?_
   obtain ⟨bu_14, ou_15, x_13, hA_16, _, hd_18, hx_17, hm_19, _⟩ := IsRow.get bkC_size (hr.below HP.bl) (i := i - 1) (by omega)
   have hly : last = x_13.id := by rcases hlast with ⟨h1, _⟩ | ⟨z, h1, h2, h3⟩; (exfalso; omega); (rw [hx_17] at h2; cases h2; exact h3)
   refine H.valE 38 (ii (IntKind.i64.wrap ((i : Int) - 1))) (ii ((i - 1 : Nat) : Int)) (by kernel_rfl) (by kernel_rfl) ((by rw [wrap_ini64 _ (by omega)]; congr 1; omega)) fun a H => H.u 39 (.pointer (some ⟨bu_14, ou_15 + (i - 1) * 7, none⟩)) (ex_indexA (b := bu_14) (off := ou_15) (len := l.length) (cap := c) (e := 47) (k := 7) (ik := .i64) (i := ((i - 1 : Nat) : Int)) (m := (i - 1)) hA_16 (by kernel_rfl) (by kernel_rfl) (by omega) (by omega) (by kernel_rfl) (by kernel_rfl)) fun a H => H.u 40 (bkV x_13) (ex_loadN (b := bu_14) (off := ou_15 + (i - 1) * 7) (vs := (bkL x_13)) (by kernel_rfl) (by kernel_rfl) (by kernel_rfl) rfl (IsRow.cells bkC_size (hr.below HP.bl) hA_16 hx_17)) fun a H => H.cb HP 41 (Tryz.call54 _ _) (bookingID_any x_13 w_12) fun w_20 hb a H HP => H.v 42 (.bool (decide (x_2.id ≤ x_13.id))) fun a H => H.v 43 (.bool (decide (x_2.id ≤ x_13.id))) fun a H => H.v 44 (.bool (decide (x_2.id ≤ x_13.id))) fun a H => ?_
   refine nl (tn ?_)
   refine w_if H rfl (fun g44 => ?_) (fun g44 => ?_)
   ·have g44p := of_decide_eq_true g44
    refine sq (rg ?_)
    refine H.v 8 (.bool false) fun a H => ?_
    refine nl (tn (rt (ibr (tr (tr (ibr (tr ?_)))))))
    refine H.r1 (.bool false) Tryz.results71 ?_
    have hbad : ¬ (last < x_2.id ∧ x_2.id ≤ hi) := by omega
    exact ⟨by rw [hrel, hst, and_false2 hbad]; rfl, HP.bl⟩
   have g44p := of_decide_eq_false g44
   refine sk (ibn (tn (rg ?_)))
   refine H.valE 45 (ii (IntKind.i64.wrap ((i : Int) + 1))) (ii ((i : Int) + 1)) (by kernel_rfl) (by kernel_rfl) ((by rw [wrap_ini64 _ (by omega)])) fun a H => H.v 14 (ii ((i : Int) + 1)) fun a H => ?_
   refine nl (tn ?_)
   have hlt : last < x_2.id := by rcases hlast with ⟨h1, h2⟩ | ⟨z, h1, h2, h3⟩ <;> omega
   have hle : x_2.id ≤ hi := by omega
   have H := H.as 14 (ii ((i + 1 : Nat) : Int)) rfl rfl
   refine ⟨_, ?_, i + 1, x_2.id, rfl, H.keep (by kernel_rfl), (HP.tail rfl), (by omega), (.inr ⟨x_2, by omega, by simpa using hx_6, rfl⟩), (by omega), (by rw [hrel, hst, decide_eq_true hlt, decide_eq_true hle]; rfl)⟩
   omega
  have g33p := of_decide_eq_false g33
  iterate 9 refine H.sx rfl fun a H => ?_
  refine H.v 43 (.bool false) fun a H => H.v 44 (.bool false) fun a H => ?_
  refine nl (tn ?_)
  refine w_iff H rfl ?_
  refine sk (ibn (tn (rg ?_)))
  refine H.valE 45 (ii (IntKind.i64.wrap ((i : Int) + 1))) (ii ((i : Int) + 1)) (by kernel_rfl) (by kernel_rfl) ((by rw [wrap_ini64 _ (by omega)])) fun a H => H.v 14 (ii ((i : Int) + 1)) fun a H => ?_
  refine nl (tn ?_)
  have hlt : last < x_2.id := by rcases hlast with ⟨h1, h2⟩ | ⟨z, h1, h2, h3⟩ <;> omega
  have hle : x_2.id ≤ hi := by omega
  have H := H.as 14 (ii ((i + 1 : Nat) : Int)) rfl rfl
  refine ⟨_, ?_, i + 1, x_2.id, rfl, H.keep (by kernel_rfl), (HP.tail rfl), (by omega), (.inr ⟨x_2, by omega, by simpa using hx_6, rfl⟩), (by omega), (by rw [hrel, hst, decide_eq_true hlt, decide_eq_true hle]; rfl)⟩
  omega
 have g15p := of_decide_eq_false g15
 refine wp_exit (then_exit (then_exit ?_))
 refine w_exit_here ?_
 refine tn (sq (rg ?_))
 refine H.v 8 (.bool true) fun a H => ?_
 refine nl (tn (rt ?_))
 refine H.r1 (.bool true) Tryz.results71 ?_
 exact ⟨by rw [hrel, List.drop_eq_nil_of_le (by omega)]; rfl, HP.bl⟩
theorem ascA_any (A : Option Addr) (c : Nat) (l : List (Int × Int)) (lo hi : Int) (w : World) (hr : IsRow 2 altC w A l) (hl : l.length ≤ maxLen) (hlo : -1000000 ≤ lo ∧ lo ≤ 1000000) :
  Calls Tryz.prog 115 #[.slice A l.length c, .int .i64 lo, .int .i64 hi, .func (.func 116) #[] #[]] w fun e w' => e = .returned (.bool (asc (lo - 1) hi (l.map (fun x : Int × Int => x.1)))) ∧ Below w.heap.size w w' := by
 unfold maxLen at hl
 have HP := Hp.start w
 refine w_enter 46 [(0, (.slice A l.length c)), (1, (ii lo)), (2, (ii hi)), (3, (.func (.func 116) #[] #[]))] Tryz.func115 rfl Tryz.ntmps115 (by kernel_rfl) (by kernel_rfl) fun a H => ?_
 refine sq (rg ?_)
 refine H.v 8 (.bool false) fun a H => ?_
 refine nl (tn (sq (sq (rg ?_))))
 refine H.v 12 (.slice A l.length c) fun a H => H.v 13 (ii l.length) fun a H => H.v 14 (ii 0) fun a H => ?_
 refine nl (tn (bk ?_))
 refine w_loop (fun mm a wv => ∃ (i : Nat), ∃ (last : Int), l.length - i = mm ∧ Sl 46 [(14, (ii i)), (13, (ii l.length)), (12, (.slice A l.length c)), (0, (.slice A l.length c)), (1, (ii lo)), (2, (ii hi)), (3, (.func (.func 116) #[] #[]))] a ∧ Hp w wv [] [] ∧ (i ≤ l.length) ∧ ((i = 0 ∧ last = lo - 1) ∨ (∃ y, i ≠ 0 ∧ l[i - 1]? = some y ∧ last = y.1)) ∧ (lo - 1 ≤ last) ∧ (asc (lo - 1) hi (l.map (fun x : Int × Int => x.1)) = asc last hi ((l.drop i).map (fun x : Int × Int => x.1)))) (l.length - 0) ?_ ?_
 ·exact ⟨0, lo - 1, (by omega), H.keep (by kernel_rfl), HP, (Nat.zero_le _), (.inl ⟨rfl, rfl⟩), (Int.le_refl _), rfl⟩
 rintro mm a w_1 ⟨i, last, hmeas, H, HP, hib, hlast, hge, hrel⟩
 refine sq (rg ?_)
 refine H.v 15 (.bool (decide ((i : Int) < (l.length : Int)))) fun a H => ?_
 refine nl (tn (sq ?_))
 refine w_if H rfl (fun g15 => ?_) (fun g15 => ?_)
 ·have g15p := of_decide_eq_true g15
  refine sk (tn (sq (bk (sq ?_))))
  obtain ⟨bu_3, ou_4, x_2, hA_5, _, hd_7, hx_6, hm_8, _⟩ := IsRow.get altC_size (hr.below HP.bl) (i := i) (by omega)
  have hst : asc last hi ((l.drop i).map (fun x : Int × Int => x.1)) = (decide (last < x_2.1) && decide (x_2.1 ≤ hi) && asc x_2.1 hi ((l.drop (i + 1)).map (fun x : Int × Int => x.1))) := by rw [hd_7]; rfl
  refine rg ?_
  refine H.v 16 (ii i) fun a H => H.u 17 (.pointer (some ⟨bu_3, ou_4 + i * 2, none⟩)) (ex_indexA (b := bu_3) (off := ou_4) (len := l.length) (cap := c) (e := 62) (k := 2) (ik := .i64) (i := (i : Int)) (m := i) hA_5 (by kernel_rfl) (by kernel_rfl) (by omega) (by omega) (by kernel_rfl) (by kernel_rfl)) fun a H => H.u 18 (alV x_2) (ex_lN (alL x_2) (IsRow.cells altC_size (hr.below HP.bl) hA_5 hx_6)) fun a H => H.al HP 10 62 [(ii 0), (ii 0)] fun b_9 w_10 a H HP => H.v 9 (ii i) fun a H => H.st HP 0 b_9 0 2 62 true (alV x_2) [bx b_9 62 (alL x_2) true] rfl fun w_11 a H HP => ?_
  refine nl (tn (sq (rg ?_)))
  refine H.v 19 (.func (.func 116) #[] #[]) fun a H => H.u 20 (alV x_2) (ex_lN (alL x_2) (HP.cells 0 rfl 0 2 (by kernel_rfl))) fun a H => H.cb HP 21 (Tryz.call116 _ _) (altRegion_any x_2 w_11) fun w_12 hb a H HP => H.v 11 (ii x_2.1) fun a H => ?_
  refine nl (tn (sq (rg ?_)))
  refine H.v 22 (ii x_2.1) fun a H => H.v 23 (ii lo) fun a H => H.v 24 (.bool (decide (x_2.1 < lo))) fun a H => H.v 25 (.bool (decide (x_2.1 < lo))) fun a H => ?_
  refine H.split 25 rfl (fun g25 H => ?_) (fun g25 H => ?_)
  ·have g25p := of_decide_eq_true g25
   iterate 3 refine H.sx rfl fun a H => ?_
   iterate 2 refine H.vx rfl (.bool true) fun a H => ?_
   iterate 13 refine H.sx rfl fun a H => ?_
   refine H.vx rfl (.bool true) fun a H => ?_
   refine nl (tn ?_)
   refine w_ift H rfl ?_
   refine sq (rg ?_)
   refine H.v 8 (.bool false) fun a H => ?_
   refine nl (tn (rt (ibr (tr (tr (ibr (tr ?_)))))))
   refine H.r1 (.bool false) Tryz.results115 ?_
   have hbad : ¬ (last < x_2.1 ∧ x_2.1 ≤ hi) := by omega
   exact ⟨by rw [hrel, hst, and_false2 hbad]; rfl, HP.bl⟩
  have g25p := of_decide_eq_false g25
  refine H.v 26 (ii x_2.1) fun a H => H.v 27 (ii hi) fun a H => H.v 28 (.bool (decide (x_2.1 > hi))) fun a H => H.v 29 (.bool (decide (x_2.1 > hi))) fun a H => H.v 30 (.bool (decide (x_2.1 > hi))) fun a H => ?_
  refine H.split 30 rfl (fun g30 H => ?_) (fun g30 H => ?_)
  ·have g30p := of_decide_eq_true g30
   iterate 13 refine H.sx rfl fun a H => ?_
   refine H.vx rfl (.bool true) fun a H => ?_
   refine nl (tn ?_)
   refine w_ift H rfl ?_
   refine sq (rg ?_)
   refine H.v 8 (.bool false) fun a H => ?_
   refine nl (tn (rt (ibr (tr (tr (ibr (tr ?_)))))))
   refine H.r1 (.bool false) Tryz.results115 ?_
   have hbad : ¬ (last < x_2.1 ∧ x_2.1 ≤ hi) := by omega
   exact ⟨by rw [hrel, hst, and_false2 hbad]; rfl, HP.bl⟩
  have g30p := of_decide_eq_false g30
  refine H.v 31 (ii i) fun a H => H.v 32 (.bool (decide ((i : Int) > 0))) fun a H => H.v 33 (.bool (decide ((i : Int) > 0))) fun a H => ?_
  refine H.split 33 rfl (fun g33 H => ?_) (fun g33 H => ?_)
  ·have g33p := of_decide_eq_true g33
   refine H.v 34 (ii x_2.1) fun a H => H.v 35 (.func (.func 116) #[] #[]) fun a H => H.v 36 (.slice A l.length c) fun a H => H.v 37 (ii i) fun a H => ?_
   obtain ⟨bu_14, ou_15, x_13, hA_16, _, hd_18, hx_17, hm_19, _⟩ := IsRow.get altC_size (hr.below HP.bl) (i := i - 1) (by omega)
   have hly : last = x_13.1 := by rcases hlast with ⟨h1, _⟩ | ⟨z, h1, h2, h3⟩; (exfalso; omega); (rw [hx_17] at h2; cases h2; exact h3)
   refine H.valE 38 (ii (IntKind.i64.wrap ((i : Int) - 1))) (ii ((i - 1 : Nat) : Int)) (by kernel_rfl) (by kernel_rfl) ((by rw [wrap_ini64 _ (by omega)]; congr 1; omega)) fun a H => H.u 39 (.pointer (some ⟨bu_14, ou_15 + (i - 1) * 2, none⟩)) (ex_indexA (b := bu_14) (off := ou_15) (len := l.length) (cap := c) (e := 62) (k := 2) (ik := .i64) (i := ((i - 1 : Nat) : Int)) (m := (i - 1)) hA_16 (by kernel_rfl) (by kernel_rfl) (by omega) (by omega) (by kernel_rfl) (by kernel_rfl)) fun a H => H.u 40 (alV x_13) (ex_loadN (b := bu_14) (off := ou_15 + (i - 1) * 2) (vs := (alL x_13)) (by kernel_rfl) (by kernel_rfl) (by kernel_rfl) rfl (IsRow.cells altC_size (hr.below HP.bl) hA_16 hx_17)) fun a H => H.cb HP 41 (Tryz.call116 _ _) (altRegion_any x_13 w_12) fun w_20 hb a H HP => H.v 42 (.bool (decide (x_2.1 ≤ x_13.1))) fun a H => H.v 43 (.bool (decide (x_2.1 ≤ x_13.1))) fun a H => H.v 44 (.bool (decide (x_2.1 ≤ x_13.1))) fun a H => ?_
   refine nl (tn ?_)
   refine w_if H rfl (fun g44 => ?_) (fun g44 => ?_)
   ·have g44p := of_decide_eq_true g44
    refine sq (rg ?_)
    refine H.v 8 (.bool false) fun a H => ?_
    refine nl (tn (rt (ibr (tr (tr (ibr (tr ?_)))))))
    refine H.r1 (.bool false) Tryz.results115 ?_
    have hbad : ¬ (last < x_2.1 ∧ x_2.1 ≤ hi) := by omega
    exact ⟨by rw [hrel, hst, and_false2 hbad]; rfl, HP.bl⟩
   have g44p := of_decide_eq_false g44
   refine sk (ibn (tn (rg ?_)))
   refine H.valE 45 (ii (IntKind.i64.wrap ((i : Int) + 1))) (ii ((i : Int) + 1)) (by kernel_rfl) (by kernel_rfl) ((by rw [wrap_ini64 _ (by omega)])) fun a H => H.v 14 (ii ((i : Int) + 1)) fun a H => ?_
   refine nl (tn ?_)
   have hlt : last < x_2.1 := by rcases hlast with ⟨h1, h2⟩ | ⟨z, h1, h2, h3⟩ <;> omega
   have hle : x_2.1 ≤ hi := by omega
   have H := H.as 14 (ii ((i + 1 : Nat) : Int)) rfl rfl
   refine ⟨_, ?_, i + 1, x_2.1, rfl, H.keep (by kernel_rfl), (HP.tail rfl), (by omega), (.inr ⟨x_2, by omega, by simpa using hx_6, rfl⟩), (by omega), (by rw [hrel, hst, decide_eq_true hlt, decide_eq_true hle]; rfl)⟩
   omega
  have g33p := of_decide_eq_false g33
  iterate 9 refine H.sx rfl fun a H => ?_
  refine H.v 43 (.bool false) fun a H => H.v 44 (.bool false) fun a H => ?_
  refine nl (tn ?_)
  refine w_iff H rfl ?_
  refine sk (ibn (tn (rg ?_)))
  refine H.valE 45 (ii (IntKind.i64.wrap ((i : Int) + 1))) (ii ((i : Int) + 1)) (by kernel_rfl) (by kernel_rfl) ((by rw [wrap_ini64 _ (by omega)])) fun a H => H.v 14 (ii ((i : Int) + 1)) fun a H => ?_
  refine nl (tn ?_)
  have hlt : last < x_2.1 := by rcases hlast with ⟨h1, h2⟩ | ⟨z, h1, h2, h3⟩ <;> omega
  have hle : x_2.1 ≤ hi := by omega
  have H := H.as 14 (ii ((i + 1 : Nat) : Int)) rfl rfl
  refine ⟨_, ?_, i + 1, x_2.1, rfl, H.keep (by kernel_rfl), (HP.tail rfl), (by omega), (.inr ⟨x_2, by omega, by simpa using hx_6, rfl⟩), (by omega), (by rw [hrel, hst, decide_eq_true hlt, decide_eq_true hle]; rfl)⟩
  omega
 have g15p := of_decide_eq_false g15
 refine wp_exit (then_exit (then_exit ?_))
 refine w_exit_here ?_
 refine tn (sq (rg ?_))
 refine H.v 8 (.bool true) fun a H => ?_
 refine nl (tn (rt ?_))
 refine H.r1 (.bool true) Tryz.results115 ?_
 exact ⟨by rw [hrel, List.drop_eq_nil_of_le (by omega)]; rfl, HP.bl⟩
def rateCells : List Int := [24000, 1001, 24, 0, 24, 1, 24, 0, 25, 1, 25, 0, 30000, 1001, 30, 2, 30, 1, 30, 0, 50, 1, 50, 0, 60000, 1001, 60, 4, 60, 1, 60, 0]
def LaidR (w : World) : Prop := ∀ i, i < 32 → w.cell? ⟨2, i, none⟩ = some (.int .i64 (rateCells.getD i 0))
theorem LaidR.below {w w' : World} (h : LaidR w) (hb : Below w.heap.size w w') : LaidR w' :=
 fun i hi => (hb.cell (p := ⟨2, i, none⟩) (World.block_lt_of_cell? w _ (h i hi))).trans (h i hi)
theorem ex_eq2 {ρ : Operand → Value} {w : World} {x y : Operand} {dst : Option Tmp} {ty : TypeId} {pos : String} {af : Array Edge} {g : Option (Nat × Bool)} {a0 a1 b0 b1 : Int}
  (hx : ρ x = .agg #[.int .i64 a0, .int .i64 a1]) (hy : ρ y = .agg #[.int .i64 b0, .int .i64 b1]) : (execOp ρ ⟨dst, .binOp .eql 23 x y 23, ty, pos, af, g⟩).run Tryz.prog w = .ok (.value (.bool ((a0 == b0) && (a1 == b1)))) w := by
 by_cases h0 : a0 = b0 <;> by_cases h1 : a1 = b1 <;> simp [execOp, hx, hy, go_sem, h0, h1]
def rateTab : List (Int × Int) := [(24000, 1001), (24, 1), (25, 1), (30000, 1001), (30, 1), (50, 1), (60000, 1001), (60, 1)]
def rateBase : List (Int × Int) := [(24, 0), (24, 0), (25, 0), (30, 2), (30, 0), (50, 0), (60, 4), (60, 0)]
def rateOk (n d : Int) : Bool := rateTab.any fun p => p.1 == n && p.2 == d
theorem rateOk_bd {n d : Int} (h : rateOk n d = true) : 24 ≤ n ∧ n ≤ 60000 ∧ 1 ≤ d ∧ d ≤ 1001 := by
 simp [rateOk, rateTab] at h
 omega
theorem take_tab : ∀ j, j < 8 → rateTab.take (j + 1) = rateTab.take j ++ [rateTab.getD j (0, 0)] := by decide
theorem any_snoc {n d : Int} {j : Nat} (hj : j < 8) (h : (rateTab.take j).any (fun p => p.1 == n && p.2 == d) = false) (hx : (((rateTab.getD j (0, 0)).1 == n) && ((rateTab.getD j (0, 0)).2 == d)) = false) : (rateTab.take (j + 1)).any (fun p => p.1 == n && p.2 == d) = false := by
 rw [take_tab j hj, List.any_append, h]
 simpa using hx
theorem rateOk_hit {n d : Int} {j : Nat} (hj : j < 8) (hx : (((rateTab.getD j (0, 0)).1 == n) && ((rateTab.getD j (0, 0)).2 == d)) = true) : rateOk n d = true := by
 unfold rateOk
 rw [List.any_eq_true]
 have : ∀ j, j < 8 → rateTab.getD j (0, 0) ∈ rateTab := by decide
 exact ⟨_, this j hj, hx⟩
theorem rateOk_no {n d : Int} {j : Nat} (hj : 8 ≤ j) (h : (rateTab.take j).any (fun p => p.1 == n && p.2 == d) = false) : rateOk n d = false := by
 rw [List.take_of_length_le (show rateTab.length ≤ j from hj)] at h
 exact h
theorem laid_rates {w : World} (h : LaidR w) : cellsAt w 2 0 [(.int .i64 24000), (.int .i64 1001), (.int .i64 24), (.int .i64 0), (.int .i64 24), (.int .i64 1), (.int .i64 24), (.int .i64 0), (.int .i64 25), (.int .i64 1), (.int .i64 25), (.int .i64 0), (.int .i64 30000), (.int .i64 1001), (.int .i64 30), (.int .i64 2), (.int .i64 30), (.int .i64 1), (.int .i64 30), (.int .i64 0), (.int .i64 50), (.int .i64 1), (.int .i64 50), (.int .i64 0), (.int .i64 60000), (.int .i64 1001), (.int .i64 60), (.int .i64 4), (.int .i64 60), (.int .i64 1), (.int .i64 60), (.int .i64 0)] := fun i x hx => by
 match i, hx with
 | 0, hx => cases hx; exact h 0 (by omega)
 | 1, hx => cases hx; exact h 1 (by omega)
 | 2, hx => cases hx; exact h 2 (by omega)
 | 3, hx => cases hx; exact h 3 (by omega)
 | 4, hx => cases hx; exact h 4 (by omega)
 | 5, hx => cases hx; exact h 5 (by omega)
 | 6, hx => cases hx; exact h 6 (by omega)
 | 7, hx => cases hx; exact h 7 (by omega)
 | 8, hx => cases hx; exact h 8 (by omega)
 | 9, hx => cases hx; exact h 9 (by omega)
 | 10, hx => cases hx; exact h 10 (by omega)
 | 11, hx => cases hx; exact h 11 (by omega)
 | 12, hx => cases hx; exact h 12 (by omega)
 | 13, hx => cases hx; exact h 13 (by omega)
 | 14, hx => cases hx; exact h 14 (by omega)
 | 15, hx => cases hx; exact h 15 (by omega)
 | 16, hx => cases hx; exact h 16 (by omega)
 | 17, hx => cases hx; exact h 17 (by omega)
 | 18, hx => cases hx; exact h 18 (by omega)
 | 19, hx => cases hx; exact h 19 (by omega)
 | 20, hx => cases hx; exact h 20 (by omega)
 | 21, hx => cases hx; exact h 21 (by omega)
 | 22, hx => cases hx; exact h 22 (by omega)
 | 23, hx => cases hx; exact h 23 (by omega)
 | 24, hx => cases hx; exact h 24 (by omega)
 | 25, hx => cases hx; exact h 25 (by omega)
 | 26, hx => cases hx; exact h 26 (by omega)
 | 27, hx => cases hx; exact h 27 (by omega)
 | 28, hx => cases hx; exact h 28 (by omega)
 | 29, hx => cases hx; exact h 29 (by omega)
 | 30, hx => cases hx; exact h 30 (by omega)
 | 31, hx => cases hx; exact h 31 (by omega)
 | i + 32, hx => simp at hx
theorem rate_cells4 {w : World} {b t j : Nat} (h : Box w b t [(.int .i64 24000), (.int .i64 1001), (.int .i64 24), (.int .i64 0), (.int .i64 24), (.int .i64 1), (.int .i64 24), (.int .i64 0), (.int .i64 25), (.int .i64 1), (.int .i64 25), (.int .i64 0), (.int .i64 30000), (.int .i64 1001), (.int .i64 30), (.int .i64 2), (.int .i64 30), (.int .i64 1), (.int .i64 30), (.int .i64 0), (.int .i64 50), (.int .i64 1), (.int .i64 50), (.int .i64 0), (.int .i64 60000), (.int .i64 1001), (.int .i64 60), (.int .i64 4), (.int .i64 60), (.int .i64 1), (.int .i64 60), (.int .i64 0)].toArray) (hj : j = 0 ∨ j = 1 ∨ j = 2 ∨ j = 3 ∨ j = 4 ∨ j = 5 ∨ j = 6 ∨ j = 7) : cellsAt w b (0 + j * 4) [(.int .i64 ((rateTab.getD j (0, 0)).1)), (.int .i64 ((rateTab.getD j (0, 0)).2)), (.int .i64 ((rateBase.getD j (0, 0)).1)), (.int .i64 ((rateBase.getD j (0, 0)).2))] := by
 intro i v hv
 have hi : i = 0 ∨ i = 1 ∨ i = 2 ∨ i = 3 := by have := (List.getElem?_eq_some_iff.1 hv).1; simp at this; omega
 rcases hj with rfl | rfl | rfl | rfl | rfl | rfl | rfl | rfl <;> rcases hi with rfl | rfl | rfl | rfl <;> cases hv <;> exact h.cell rfl
theorem find_any (n d : Int) (w : World) (hL : LaidR w) :
  Calls Tryz.prog 113 #[.agg #[.int .i64 n, .int .i64 d]] w fun e w' => ∃ i0 i1 i2 i3, e = .returned (.tuple #[.agg #[.int .i64 i0, .int .i64 i1, .int .i64 i2, .int .i64 i3], .bool (rateOk n d)]) ∧ Below w.heap.size w w' := by
 have HP := Hp.start w
 refine w_enter 17 [(0, (.agg #[(ii n), (ii d)]))] Tryz.func113 rfl Tryz.ntmps113 (by kernel_rfl) (by kernel_rfl) fun a H => ?_
 refine sq (rg ?_)
 refine H.al HP 1 23 [(ii n), (ii d)] fun b_1 w_2 a H HP => H.al HP 2 172 [(ii 0), (ii 0), (ii 0), (ii 0)] fun b_3 w_4 a H HP => H.v 3 (.bool false) fun a H => ?_
 refine nl (tn (sq (sq (rg ?_))))
 refine H.u 6 (.agg #[(ii 24000), (ii 1001), (ii 24), (ii 0), (ii 24), (ii 1), (ii 24), (ii 0), (ii 25), (ii 1), (ii 25), (ii 0), (ii 30000), (ii 1001), (ii 30), (ii 2), (ii 30), (ii 1), (ii 30), (ii 0), (ii 50), (ii 1), (ii 50), (ii 0), (ii 60000), (ii 1001), (ii 60), (ii 4), (ii 60), (ii 1), (ii 60), (ii 0)]) (ex_lN [(ii 24000), (ii 1001), (ii 24), (ii 0), (ii 24), (ii 1), (ii 24), (ii 0), (ii 25), (ii 1), (ii 25), (ii 0), (ii 30000), (ii 1001), (ii 30), (ii 2), (ii 30), (ii 1), (ii 30), (ii 0), (ii 50), (ii 1), (ii 50), (ii 0), (ii 60000), (ii 1001), (ii 60), (ii 4), (ii 60), (ii 1), (ii 60), (ii 0)] (laid_rates (hL.below HP.bl))) fun a H => H.v 7 (ii 0) fun a H => ?_
 refine nl (tn (bk ?_))
 refine w_loop (fun mm a wv => ∃ (j : Nat), 8 - j = mm ∧ Sl 17 [(7, (ii j)), (6, (.agg #[(ii 24000), (ii 1001), (ii 24), (ii 0), (ii 24), (ii 1), (ii 24), (ii 0), (ii 25), (ii 1), (ii 25), (ii 0), (ii 30000), (ii 1001), (ii 30), (ii 2), (ii 30), (ii 1), (ii 30), (ii 0), (ii 50), (ii 1), (ii 50), (ii 0), (ii 60000), (ii 1001), (ii 60), (ii 4), (ii 60), (ii 1), (ii 60), (ii 0)])), (1, (pt b_1 0)), (2, (pt b_3 0)), (3, (.bool false))] a ∧ Hp w wv [bx b_3 172 [(ii 0), (ii 0), (ii 0), (ii 0)] true, bx b_1 23 [(ii n), (ii d)] true] [] ∧ (j ≤ 8) ∧ ((rateTab.take j).any (fun p => p.1 == n && p.2 == d) = false)) (8 - 0) ?_ ?_
 ·exact ⟨0, (by omega), H.keep (by kernel_rfl), HP, by omega, rfl⟩
 rintro mm a w_5 ⟨j, hmeas, H, HP, hj, hno⟩
 refine sq (rg ?_)
 refine H.v 8 (.bool (decide ((j : Int) < 8))) fun a H => ?_
 refine nl (tn (sq ?_))
 refine w_if H rfl (fun g8 => ?_) (fun g8 => ?_)
 ·have g8p := of_decide_eq_true g8
  refine sk (tn (sq (bk (sq ?_))))
  have hj8 : j = 0 ∨ j = 1 ∨ j = 2 ∨ j = 3 ∨ j = 4 ∨ j = 5 ∨ j = 6 ∨ j = 7 := by omega
  refine rg ?_
  refine H.u 9 (.agg #[(ii ((rateTab.getD j (0, 0)).1)), (ii ((rateTab.getD j (0, 0)).2)), (ii ((rateBase.getD j (0, 0)).1)), (ii ((rateBase.getD j (0, 0)).2))]) ((by rcases hj8 with rfl | rfl | rfl | rfl | rfl | rfl | rfl | rfl <;> kernel_rfl)) fun a H => H.al HP 5 172 [(ii 0), (ii 0), (ii 0), (ii 0)] fun b_6 w_7 a H HP => H.st HP 0 b_6 0 4 172 true (.agg #[(ii ((rateTab.getD j (0, 0)).1)), (ii ((rateTab.getD j (0, 0)).2)), (ii ((rateBase.getD j (0, 0)).1)), (ii ((rateBase.getD j (0, 0)).2))]) [bx b_6 172 [(ii ((rateTab.getD j (0, 0)).1)), (ii ((rateTab.getD j (0, 0)).2)), (ii ((rateBase.getD j (0, 0)).1)), (ii ((rateBase.getD j (0, 0)).2))] true, bx b_3 172 [(ii 0), (ii 0), (ii 0), (ii 0)] true, bx b_1 23 [(ii n), (ii d)] true] rfl fun w_8 a H HP => ?_
  refine nl (tn (sq (rg ?_)))
  refine H.v 10 (pt b_6 0) fun a H => H.u 11 (alV (rateTab.getD j (0, 0))) (ex_loadN (vs := (alL (rateTab.getD j (0, 0)))) (by kernel_rfl) (by kernel_rfl) (by kernel_rfl) rfl (HP.cells 0 rfl 0 2 (by kernel_rfl))) fun a H => H.u 12 (.agg #[(ii n), (ii d)]) (ex_lN [(ii n), (ii d)] (HP.cells 2 rfl 0 2 (by kernel_rfl))) fun a H => H.u 13 (.bool ((((rateTab.getD j (0, 0)).1) == n) && (((rateTab.getD j (0, 0)).2) == d))) (ex_eq2 (a0 := ((rateTab.getD j (0, 0)).1)) (a1 := ((rateTab.getD j (0, 0)).2)) (b0 := n) (b1 := d) (by kernel_rfl) (by kernel_rfl)) fun a H => ?_
  refine nl (tn ?_)
  refine w_if H rfl (fun g13 => ?_) (fun g13 => ?_)
  ·have g13p := g13
   refine sq (rg ?_)
   refine H.u 14 (.agg #[(ii ((rateTab.getD j (0, 0)).1)), (ii ((rateTab.getD j (0, 0)).2)), (ii ((rateBase.getD j (0, 0)).1)), (ii ((rateBase.getD j (0, 0)).2))]) (ex_lN [(ii ((rateTab.getD j (0, 0)).1)), (ii ((rateTab.getD j (0, 0)).2)), (ii ((rateBase.getD j (0, 0)).1)), (ii ((rateBase.getD j (0, 0)).2))] (HP.cells 0 rfl 0 4 (by kernel_rfl))) fun a H => H.st HP 1 b_3 0 4 172 true (.agg #[(ii ((rateTab.getD j (0, 0)).1)), (ii ((rateTab.getD j (0, 0)).2)), (ii ((rateBase.getD j (0, 0)).1)), (ii ((rateBase.getD j (0, 0)).2))]) [bx b_6 172 [(ii ((rateTab.getD j (0, 0)).1)), (ii ((rateTab.getD j (0, 0)).2)), (ii ((rateBase.getD j (0, 0)).1)), (ii ((rateBase.getD j (0, 0)).2))] true, bx b_3 172 [(ii ((rateTab.getD j (0, 0)).1)), (ii ((rateTab.getD j (0, 0)).2)), (ii ((rateBase.getD j (0, 0)).1)), (ii ((rateBase.getD j (0, 0)).2))] true, bx b_1 23 [(ii n), (ii d)] true] rfl fun w_9 a H HP => H.v 3 (.bool true) fun a H => ?_
   refine nl (tn (rt (ibr (tr (tr (ibr (tr ?_)))))))
   refine H.ret2 (fn := Tryz.f113) Tryz.results113 (RV.cellN (vs := [(ii ((rateTab.getD j (0, 0)).1)), (ii ((rateTab.getD j (0, 0)).2)), (ii ((rateBase.getD j (0, 0)).1)), (ii ((rateBase.getD j (0, 0)).2))]) (b := b_3) (off := 0) (k := 4) (by kernel_rfl) (by kernel_rfl) (by kernel_rfl) rfl (HP.cells 1 rfl 0 4 (by kernel_rfl))) (RV.tmp_ (v := (.bool true)) (by kernel_rfl)) ?_
   exact ⟨_, _, _, _, by rw [rateOk_hit (j := j) (by omega) g13], HP.bl⟩
  have g13p := g13
  refine sk (ibn (tn (rg ?_)))
  refine H.valE 15 (ii (IntKind.i64.wrap ((j : Int) + 1))) (ii ((j : Int) + 1)) (by kernel_rfl) (by kernel_rfl) ((by rw [wrap_ini64 _ (by omega)])) fun a H => H.v 7 (ii ((j : Int) + 1)) fun a H => ?_
  refine nl (tn ?_)
  have H := H.as 7 (ii ((j + 1 : Nat) : Int)) rfl rfl
  refine ⟨_, ?_, j + 1, rfl, H.keep (by kernel_rfl), (HP.tail rfl), by omega, any_snoc (by omega) hno g13⟩
  omega
 have g8p := of_decide_eq_false g8
 refine wp_exit (then_exit (then_exit ?_))
 refine w_exit_here ?_
 refine tn (sq (rg ?_))
 refine H.v 16 (.agg #[(ii 0), (ii 0), (ii 0), (ii 0)]) fun a H => H.st HP 0 b_3 0 4 172 true (.agg #[(ii 0), (ii 0), (ii 0), (ii 0)]) [bx b_3 172 [(ii 0), (ii 0), (ii 0), (ii 0)] true, bx b_1 23 [(ii n), (ii d)] true] rfl fun w_10 a H HP => H.v 3 (.bool false) fun a H => ?_
 refine nl (tn (rt ?_))
 refine H.ret2 (fn := Tryz.f113) Tryz.results113 (RV.cellN (vs := [(ii 0), (ii 0), (ii 0), (ii 0)]) (b := b_3) (off := 0) (k := 4) (by kernel_rfl) (by kernel_rfl) (by kernel_rfl) rfl (HP.cells 0 rfl 0 4 (by kernel_rfl))) (RV.tmp_ (v := (.bool false)) (by kernel_rfl)) ?_
 exact ⟨_, _, _, _, by rw [rateOk_no (j := j) (by omega) hno], HP.bl⟩
theorem tvalid_any (n d : Int) (w : World) (hL : LaidR w) :
  Calls Tryz.prog 68 #[.agg #[.int .i64 n, .int .i64 d]] w fun e w' => e = .returned (.bool (rateOk n d)) ∧ Below w.heap.size w w' := by
 have HP := Hp.start w
 refine w_enter 11 [(0, (.agg #[(ii n), (ii d)]))] Tryz.func68 rfl Tryz.ntmps68 (by kernel_rfl) (by kernel_rfl) fun a H => ?_
 refine sq (rg ?_)
 refine H.al HP 1 23 [(ii n), (ii d)] fun b_1 w_2 a H HP => H.v 2 (.bool false) fun a H => ?_
 refine nl (tn (sq (rg ?_)))
 refine H.u 6 (.agg #[(ii n), (ii d)]) (ex_lN [(ii n), (ii d)] (HP.cells 0 rfl 0 2 (by kernel_rfl))) fun a H => ?_
 refine H.cl 7 (Tryz.call113 _ _) (find_any n d w_2 (hL.below HP.bl)) ?_
 rintro e w_3 ⟨i0, i1, i2, i3, rfl, hb⟩
 refine ⟨_, rfl, ?_⟩
 intro a H
 have HP := HP.next hb
 refine H.v 5 (.tuple #[(.agg #[(ii i0), (ii i1), (ii i2), (ii i3)]), (.bool (rateOk n d))]) fun a H => H.v 8 (.agg #[(ii i0), (ii i1), (ii i2), (ii i3)]) fun a H => H.v 9 (.bool (rateOk n d)) fun a H => H.al HP 3 172 [(ii 0), (ii 0), (ii 0), (ii 0)] fun b_4 w_5 a H HP => H.st HP 0 b_4 0 4 172 true (.agg #[(ii i0), (ii i1), (ii i2), (ii i3)]) [bx b_4 172 [(ii i0), (ii i1), (ii i2), (ii i3)] true, bx b_1 23 [(ii n), (ii d)] true] rfl fun w_6 a H HP => H.v 4 (.bool (rateOk n d)) fun a H => ?_
 refine nl (tn (sq (rg ?_)))
 refine H.v 10 (.bool (rateOk n d)) fun a H => H.v 2 (.bool (rateOk n d)) fun a H => ?_
 refine nl (tn (rt ?_))
 refine H.r1 (.bool (rateOk n d)) Tryz.results68 ?_
 exact ⟨rfl, HP.bl⟩
theorem table_any (w : World) :
  Calls Tryz.prog 124 #[] w fun e w' => ∃ b, e = .returned (.slice (some ⟨b, 0, none⟩) 8 8) ∧ w.heap.size ≤ b ∧ Box w' b 120 [(ii 24000), (ii 1001), (ii 24), (ii 0), (ii 24), (ii 1), (ii 24), (ii 0), (ii 25), (ii 1), (ii 25), (ii 0), (ii 30000), (ii 1001), (ii 30), (ii 2), (ii 30), (ii 1), (ii 30), (ii 0), (ii 50), (ii 1), (ii 50), (ii 0), (ii 60000), (ii 1001), (ii 60), (ii 4), (ii 60), (ii 1), (ii 60), (ii 0)].toArray ∧ Below w.heap.size w w' := by
 have HP := Hp.start w
 refine w_enter 18 [] Tryz.func124 rfl Tryz.ntmps124 (by kernel_rfl) (by kernel_rfl) fun a H => ?_
 refine sq (rg ?_)
 refine H.v 0 (.slice none 0 0) fun a H => ?_
 refine nl (tn (sq (rg ?_)))
 refine H.v 1 (.agg #[(ii 24000), (ii 1001)]) fun a H => H.v 2 (.agg #[(ii 24000), (ii 1001), (ii 24), (ii 0)]) fun a H => H.v 3 (.agg #[(ii 24), (ii 1)]) fun a H => H.v 4 (.agg #[(ii 24), (ii 1), (ii 24), (ii 0)]) fun a H => H.v 5 (.agg #[(ii 25), (ii 1)]) fun a H => H.v 6 (.agg #[(ii 25), (ii 1), (ii 25), (ii 0)]) fun a H => H.v 7 (.agg #[(ii 30000), (ii 1001)]) fun a H => H.v 8 (.agg #[(ii 30000), (ii 1001), (ii 30), (ii 2)]) fun a H => H.v 9 (.agg #[(ii 30), (ii 1)]) fun a H => H.v 10 (.agg #[(ii 30), (ii 1), (ii 30), (ii 0)]) fun a H => H.v 11 (.agg #[(ii 50), (ii 1)]) fun a H => H.v 12 (.agg #[(ii 50), (ii 1), (ii 50), (ii 0)]) fun a H => H.v 13 (.agg #[(ii 60000), (ii 1001)]) fun a H => H.v 14 (.agg #[(ii 60000), (ii 1001), (ii 60), (ii 4)]) fun a H => H.v 15 (.agg #[(ii 60), (ii 1)]) fun a H => H.v 16 (.agg #[(ii 60), (ii 1), (ii 60), (ii 0)]) fun a H => ?_
 refine H.alloc HP 17 (fun b => (.slice (some ⟨b, 0, none⟩) 8 8)) 120 [(ii 24000), (ii 1001), (ii 24), (ii 0), (ii 24), (ii 1), (ii 24), (ii 0), (ii 25), (ii 1), (ii 25), (ii 0), (ii 30000), (ii 1001), (ii 30), (ii 2), (ii 30), (ii 1), (ii 30), (ii 0), (ii 50), (ii 1), (ii 50), (ii 0), (ii 60000), (ii 1001), (ii 60), (ii 4), (ii 60), (ii 1), (ii 60), (ii 0)] (by kernel_rfl) (fun w => by kernel_rfl) fun b_1 w_2 a H HP => H.v 0 (.slice (some ⟨b_1, 0, none⟩) 8 8) fun a H => ?_
 refine nl (tn (rt ?_))
 refine H.r1 (.slice (some ⟨b_1, 0, none⟩) 8 8) Tryz.results124 ?_
 exact ⟨b_1, rfl, HP.fresh _ (List.mem_of_getElem? (i := 0) rfl) rfl _ rfl, HP.at_ 0 rfl, HP.bl⟩
theorem rfind_any (n d : Int) (w : World) :
  Calls Tryz.prog 76 #[.agg #[.int .i64 n, .int .i64 d]] w fun e w' => ∃ i0 i1 i2 i3, e = .returned (.tuple #[.agg #[.int .i64 i0, .int .i64 i1, .int .i64 i2, .int .i64 i3], .bool (rateOk n d)]) ∧ Below w.heap.size w w' := by
 have HP := Hp.start w
 refine w_enter 38 [(0, (.agg #[(ii n), (ii d)]))] Tryz.func76 rfl Tryz.ntmps76 (by kernel_rfl) (by kernel_rfl) fun a H => ?_
 refine sq (rg ?_)
 refine H.al HP 1 23 [(ii n), (ii d)] fun b_1 w_2 a H HP => H.al HP 2 120 [(ii 0), (ii 0), (ii 0), (ii 0)] fun b_3 w_4 a H HP => H.v 3 (.bool false) fun a H => ?_
 refine nl (tn (sq (rg ?_)))
 refine H.cl 6 (Tryz.call124 _ _) (table_any w_4) ?_
 rintro e w_5 ⟨bt, rfl, hbt, hbx, hb⟩
 refine ⟨_, rfl, ?_⟩
 intro a H
 have HP := HP.gain hb (bx bt 120 [(ii 24000), (ii 1001), (ii 24), (ii 0), (ii 24), (ii 1), (ii 24), (ii 0), (ii 25), (ii 1), (ii 25), (ii 0), (ii 30000), (ii 1001), (ii 30), (ii 2), (ii 30), (ii 1), (ii 30), (ii 0), (ii 50), (ii 1), (ii 50), (ii 0), (ii 60000), (ii 1001), (ii 60), (ii 4), (ii 60), (ii 1), (ii 60), (ii 0)] true) hbx (bx_ok _ _ _ _) (fun k hk => by cases hk; exact hbx.lt) (fun k hk => by cases hk; exact hbt)
 refine H.v 4 (.slice (some ⟨bt, 0, none⟩) 8 8) fun a H => ?_
 refine nl (tn (sq (sq (rg ?_))))
 refine H.v 5 (ii 0) fun a H => ?_
 refine nl (tn (bk ?_))
 refine w_loop (fun mm a wv => ∃ (j : Nat), 8 - j = mm ∧ Sl 38 [(5, (ii j)), (4, (.slice (some ⟨bt, 0, none⟩) 8 8)), (1, (pt b_1 0)), (2, (pt b_3 0)), (3, (.bool false))] a ∧ Hp w wv [bx bt 120 [(ii 24000), (ii 1001), (ii 24), (ii 0), (ii 24), (ii 1), (ii 24), (ii 0), (ii 25), (ii 1), (ii 25), (ii 0), (ii 30000), (ii 1001), (ii 30), (ii 2), (ii 30), (ii 1), (ii 30), (ii 0), (ii 50), (ii 1), (ii 50), (ii 0), (ii 60000), (ii 1001), (ii 60), (ii 4), (ii 60), (ii 1), (ii 60), (ii 0)] true, bx b_3 120 [(ii 0), (ii 0), (ii 0), (ii 0)] true, bx b_1 23 [(ii n), (ii d)] true] [] ∧ (j ≤ 8) ∧ ((rateTab.take j).any (fun p => p.1 == n && p.2 == d) = false)) (8 - 0) ?_ ?_
 ·exact ⟨0, (by omega), H.keep (by kernel_rfl), HP, by omega, rfl⟩
 rintro mm a w_6 ⟨j, hmeas, H, HP, hj, hno⟩
 refine sq (sq (rg ?_))
 refine H.v 7 (ii j) fun a H => H.v 8 (.slice (some ⟨bt, 0, none⟩) 8 8) fun a H => H.v 9 (ii 8) fun a H => H.v 10 (.bool (decide ((j : Int) < 8))) fun a H => ?_
 refine nl (tn ?_)
 refine w_if H rfl (fun g10 => ?_) (fun g10 => ?_)
 ·have g10p := of_decide_eq_true g10
  refine sk (tn (sq (bk (sq ?_))))
  have hj8 : j = 0 ∨ j = 1 ∨ j = 2 ∨ j = 3 ∨ j = 4 ∨ j = 5 ∨ j = 6 ∨ j = 7 := by omega
  refine An.start (fun v => Hp w v [bx bt 120 [(ii 24000), (ii 1001), (ii 24), (ii 0), (ii 24), (ii 1), (ii 24), (ii 0), (ii 25), (ii 1), (ii 25), (ii 0), (ii 30000), (ii 1001), (ii 30), (ii 2), (ii 30), (ii 1), (ii 30), (ii 0), (ii 50), (ii 1), (ii 50), (ii 0), (ii 60000), (ii 1001), (ii 60), (ii 4), (ii 60), (ii 1), (ii 60), (ii 0)] true, bx b_3 120 [(ii 0), (ii 0), (ii 0), (ii 0)] true, bx b_1 23 [(ii n), (ii d)] true] []) 20 20 HP wide_follows rfl fun w_7 HP => ?_
  refine An.p H (.inr HP) 0 13 (.slice (some ⟨bt, 0, none⟩) 8 8) fun a H => ?_
  refine An.p H (.inr HP) 1 14 (ii j) fun a H => ?_
  refine An.q H (.inr (HP)) 2 15 (.pointer (some ⟨bt, 0 + j * 4, none⟩)) (fun _ => ex_index (b := bt) (off := 0) (len := 8) (cap := 8) (e := 120) (k := 4) (ik := .i64) (i := (j : Int)) (m := j) (by kernel_rfl) (by kernel_rfl) (by omega) (by omega) (by kernel_rfl) (by kernel_rfl)) fun a H => ?_
  refine An.p H (.inr HP) 3 16 (.pointer (some ⟨bt, 0 + j * 4, none⟩)) fun a H => ?_
  refine An.p H (.inr HP) 4 17 (.pointer (some ⟨bt, 0 + j * 4, none⟩)) fun a H => ?_
  refine An.vw H (HP) 5 18 (ii ((rateTab.getD j (0, 0)).1)) (fun _ hS => ex_load1 (p := ⟨bt, 0 + j * 4 + 0, none⟩) (by kernel_rfl) (by kernel_rfl) (rate_cells4 (hS.at_ 0 rfl) hj8 0 _ rfl)) fun a H => ?_
  refine An.p H (.inr HP) 6 19 (pt b_1 0) fun a H => ?_
  refine An.vw H (HP) 7 20 (ii n) (fun _ hS => ex_l1 (hS.cell 2 rfl 0 rfl)) fun a H => ?_
  refine An.p H (.inr HP) 8 21 (.bool (((rateTab.getD j (0, 0)).1) == n)) fun a H => ?_
  refine An.p H (.inr HP) 9 22 (.bool (((rateTab.getD j (0, 0)).1) == n)) fun a H => ?_
  refine H.split 22 rfl (fun g22 H => ?_) (fun g22 H => ?_)
  ·have g22p := eq_of_beq g22
   refine An.p H (.inr HP) 10 23 (.slice (some ⟨bt, 0, none⟩) 8 8) fun a H => ?_
   refine An.p H (.inr HP) 11 24 (ii j) fun a H => ?_
   refine An.q H (.inr (HP)) 12 25 (.pointer (some ⟨bt, 0 + j * 4, none⟩)) (fun _ => ex_index (b := bt) (off := 0) (len := 8) (cap := 8) (e := 120) (k := 4) (ik := .i64) (i := (j : Int)) (m := j) (by kernel_rfl) (by kernel_rfl) (by omega) (by omega) (by kernel_rfl) (by kernel_rfl)) fun a H => ?_
   refine An.p H (.inr HP) 13 26 (.pointer (some ⟨bt, 0 + j * 4, none⟩)) fun a H => ?_
   refine An.p H (.inr HP) 14 27 (.pointer (some ⟨bt, 0 + j * 4 + 1, none⟩)) fun a H => ?_
   refine An.vw H (HP) 15 28 (ii ((rateTab.getD j (0, 0)).2)) (fun _ hS => ex_load1 (p := ⟨bt, 0 + j * 4 + 1, none⟩) (by kernel_rfl) (by kernel_rfl) (rate_cells4 (hS.at_ 0 rfl) hj8 1 _ rfl)) fun a H => ?_
   refine An.p H (.inr HP) 16 29 (pt b_1 1) fun a H => ?_
   refine An.vw H (HP) 17 30 (ii d) (fun _ hS => ex_l1 (hS.cell 2 rfl 1 rfl)) fun a H => ?_
   refine An.p H (.inr HP) 18 31 (.bool (((rateTab.getD j (0, 0)).2) == d)) fun a H => ?_
   refine An.p H (.inr HP) 19 32 (.bool (((rateTab.getD j (0, 0)).2) == d)) fun a H => ?_
   refine An.done (by kernel_rfl) ?_
   refine tn ?_
   refine w_if H rfl (fun g32 => ?_) (fun g32 => ?_)
   ·have g32p := eq_of_beq g32
    refine sq (rg ?_)
    refine H.v 33 (.slice (some ⟨bt, 0, none⟩) 8 8) fun a H => H.v 34 (ii j) fun a H => H.u 35 (.pointer (some ⟨bt, 0 + j * 4, none⟩)) (ex_index (b := bt) (off := 0) (len := 8) (cap := 8) (e := 120) (k := 4) (ik := .i64) (i := (j : Int)) (m := j) (by kernel_rfl) (by kernel_rfl) (by omega) (by omega) (by kernel_rfl) (by kernel_rfl)) fun a H => H.u 36 (.agg #[(ii ((rateTab.getD j (0, 0)).1)), (ii ((rateTab.getD j (0, 0)).2)), (ii ((rateBase.getD j (0, 0)).1)), (ii ((rateBase.getD j (0, 0)).2))]) (ex_lN [(ii ((rateTab.getD j (0, 0)).1)), (ii ((rateTab.getD j (0, 0)).2)), (ii ((rateBase.getD j (0, 0)).1)), (ii ((rateBase.getD j (0, 0)).2))] (rate_cells4 (HP.at_ 0 rfl) hj8)) fun a H => H.st HP 1 b_3 0 4 120 true (.agg #[(ii ((rateTab.getD j (0, 0)).1)), (ii ((rateTab.getD j (0, 0)).2)), (ii ((rateBase.getD j (0, 0)).1)), (ii ((rateBase.getD j (0, 0)).2))]) [bx bt 120 [(ii 24000), (ii 1001), (ii 24), (ii 0), (ii 24), (ii 1), (ii 24), (ii 0), (ii 25), (ii 1), (ii 25), (ii 0), (ii 30000), (ii 1001), (ii 30), (ii 2), (ii 30), (ii 1), (ii 30), (ii 0), (ii 50), (ii 1), (ii 50), (ii 0), (ii 60000), (ii 1001), (ii 60), (ii 4), (ii 60), (ii 1), (ii 60), (ii 0)] true, bx b_3 120 [(ii ((rateTab.getD j (0, 0)).1)), (ii ((rateTab.getD j (0, 0)).2)), (ii ((rateBase.getD j (0, 0)).1)), (ii ((rateBase.getD j (0, 0)).2))] true, bx b_1 23 [(ii n), (ii d)] true] rfl fun w_8 a H HP => H.v 3 (.bool true) fun a H => ?_
    refine nl (tn (rt (ibr (tr (tr (ibr (tr ?_)))))))
    refine H.ret2 (fn := Tryz.f76) Tryz.results76 (RV.cellN (vs := [(ii ((rateTab.getD j (0, 0)).1)), (ii ((rateTab.getD j (0, 0)).2)), (ii ((rateBase.getD j (0, 0)).1)), (ii ((rateBase.getD j (0, 0)).2))]) (b := b_3) (off := 0) (k := 4) (by kernel_rfl) (by kernel_rfl) (by kernel_rfl) rfl (HP.cells 1 rfl 0 4 (by kernel_rfl))) (RV.tmp_ (v := (.bool true)) (by kernel_rfl)) ?_
    exact ⟨_, _, _, _, by rw [rateOk_hit (j := j) (by omega) (by rw [g22, g32]; rfl)], HP.bl⟩
   have g32p := ne_of_beq_false g32
   refine sk (ibn (tn (rg ?_)))
   refine H.v 11 (ii j) fun a H => H.valE 12 (ii (IntKind.i64.wrap ((j : Int) + 1))) (ii ((j : Int) + 1)) (by kernel_rfl) (by kernel_rfl) ((by rw [wrap_ini64 _ (by omega)])) fun a H => H.v 5 (ii ((j : Int) + 1)) fun a H => ?_
   refine nl (tn ?_)
   have H := H.as 5 (ii ((j + 1 : Nat) : Int)) rfl rfl
   refine ⟨_, ?_, j + 1, rfl, H.keep (by kernel_rfl), HP, by omega, any_snoc (by omega) hno (by rw [g22, g32]; rfl)⟩
   omega
  have g22p := ne_of_beq_false g22
  refine An.s H (.inr HP) 10 23 fun a H => ?_
  refine An.s H (.inr HP) 11 24 fun a H => ?_
  refine An.s H (.inr HP) 12 25 fun a H => ?_
  refine An.s H (.inr HP) 13 26 fun a H => ?_
  refine An.s H (.inr HP) 14 27 fun a H => ?_
  refine An.s H (.inr HP) 15 28 fun a H => ?_
  refine An.s H (.inr HP) 16 29 fun a H => ?_
  refine An.s H (.inr HP) 17 30 fun a H => ?_
  refine An.s H (.inr HP) 18 31 fun a H => ?_
  refine An.p H (.inr HP) 19 32 (.bool false) fun a H => ?_
  refine An.done (by kernel_rfl) ?_
  refine tn ?_
  refine w_iff H rfl ?_
  refine sk (ibn (tn (rg ?_)))
  refine H.v 11 (ii j) fun a H => H.valE 12 (ii (IntKind.i64.wrap ((j : Int) + 1))) (ii ((j : Int) + 1)) (by kernel_rfl) (by kernel_rfl) ((by rw [wrap_ini64 _ (by omega)])) fun a H => H.v 5 (ii ((j : Int) + 1)) fun a H => ?_
  refine nl (tn ?_)
  have H := H.as 5 (ii ((j + 1 : Nat) : Int)) rfl rfl
  refine ⟨_, ?_, j + 1, rfl, H.keep (by kernel_rfl), HP, by omega, any_snoc (by omega) hno (by rw [g22]; rfl)⟩
  omega
 have g10p := of_decide_eq_false g10
 refine wp_exit (then_exit (then_exit ?_))
 refine w_exit_here ?_
 refine tn (sq (rg ?_))
 refine H.v 37 (.agg #[(ii 0), (ii 0), (ii 0), (ii 0)]) fun a H => H.st HP 1 b_3 0 4 120 true (.agg #[(ii 0), (ii 0), (ii 0), (ii 0)]) [bx bt 120 [(ii 24000), (ii 1001), (ii 24), (ii 0), (ii 24), (ii 1), (ii 24), (ii 0), (ii 25), (ii 1), (ii 25), (ii 0), (ii 30000), (ii 1001), (ii 30), (ii 2), (ii 30), (ii 1), (ii 30), (ii 0), (ii 50), (ii 1), (ii 50), (ii 0), (ii 60000), (ii 1001), (ii 60), (ii 4), (ii 60), (ii 1), (ii 60), (ii 0)] true, bx b_3 120 [(ii 0), (ii 0), (ii 0), (ii 0)] true, bx b_1 23 [(ii n), (ii d)] true] rfl fun w_9 a H HP => H.v 3 (.bool false) fun a H => ?_
 refine nl (tn (rt ?_))
 refine H.ret2 (fn := Tryz.f76) Tryz.results76 (RV.cellN (vs := [(ii 0), (ii 0), (ii 0), (ii 0)]) (b := b_3) (off := 0) (k := 4) (by kernel_rfl) (by kernel_rfl) (by kernel_rfl) rfl (HP.cells 1 rfl 0 4 (by kernel_rfl))) (RV.tmp_ (v := (.bool false)) (by kernel_rfl)) ?_
 exact ⟨_, _, _, _, by rw [rateOk_no (j := j) (by omega) hno], HP.bl⟩
theorem rvalid3_any (n d : Int) (w : World) :
  Calls Tryz.prog 36 #[.agg #[.int .i64 n, .int .i64 d]] w fun e w' => e = .returned (.bool (rateOk n d)) ∧ Below w.heap.size w w' := by
 have HP := Hp.start w
 refine w_enter 11 [(0, (.agg #[(ii n), (ii d)]))] Tryz.func36 rfl Tryz.ntmps36 (by kernel_rfl) (by kernel_rfl) fun a H => ?_
 refine sq (rg ?_)
 refine H.al HP 1 23 [(ii n), (ii d)] fun b_1 w_2 a H HP => H.v 2 (.bool false) fun a H => ?_
 refine nl (tn (sq (rg ?_)))
 refine H.u 6 (.agg #[(ii n), (ii d)]) (ex_lN [(ii n), (ii d)] (HP.cells 0 rfl 0 2 (by kernel_rfl))) fun a H => ?_
 refine H.cl 7 (Tryz.call76 _ _) (rfind_any n d w_2) ?_
 rintro e w_3 ⟨i0, i1, i2, i3, rfl, hb⟩
 refine ⟨_, rfl, ?_⟩
 intro a H
 have HP := HP.next hb
 refine H.v 5 (.tuple #[(.agg #[(ii i0), (ii i1), (ii i2), (ii i3)]), (.bool (rateOk n d))]) fun a H => H.v 8 (.agg #[(ii i0), (ii i1), (ii i2), (ii i3)]) fun a H => H.v 9 (.bool (rateOk n d)) fun a H => H.al HP 3 120 [(ii 0), (ii 0), (ii 0), (ii 0)] fun b_4 w_5 a H HP => H.st HP 0 b_4 0 4 120 true (.agg #[(ii i0), (ii i1), (ii i2), (ii i3)]) [bx b_4 120 [(ii i0), (ii i1), (ii i2), (ii i3)] true, bx b_1 23 [(ii n), (ii d)] true] rfl fun w_6 a H HP => H.v 4 (.bool (rateOk n d)) fun a H => ?_
 refine nl (tn (sq (rg ?_)))
 refine H.v 10 (.bool (rateOk n d)) fun a H => H.v 2 (.bool (rateOk n d)) fun a H => ?_
 refine nl (tn (rt ?_))
 refine H.r1 (.bool (rateOk n d)) Tryz.results36 ?_
 exact ⟨rfl, HP.bl⟩
abbrev vi (zs : List Int) : List Value := zs.map fun z => .int .i64 z
def isI64 (P : Program) (t : TypeId) : Bool := match P.underlying t with
  | some (.int .i64) => true
  | _ => false
def intF (P : Program) : List Field → Nat → Bool
  | [], _ => true
  | f :: fs, i => f.name != "_" && (Nat.beq f.offset i && (isI64 P f.type && intF P fs (i + 1)))
def eqLB (P : Program) (t : TypeId) (n : Nat) : Bool :=
  (match P.underlying t with
  | some (.struct fs) => intF P fs.toList 0 && Nat.beq fs.toList.length n
  | _ => false) && (!P.stoodInHeld t && !P.eqGuardType P.depth t)
section
variable {P : Program} {w : World}
theorem run_part1 {t : TypeId} {xs : Array Value} {i : Nat} {v : Value} (ht : P.underlying t = some (.int .i64)) (hv : xs[i]? = some v) : (part t xs i).run P w = .ok v w := by
  simp [part, isAgg, run_underlying ht, Sem.run_bind, Result.andThen, hv]
theorem isI64_spec {t : TypeId} (h : isI64 P t = true) : P.underlying t = some (.int .i64) := by
  unfold isI64 at h
  split at h
  · assumption
  · cases h
theorem run_eqF (d : Nat) : ∀ (fs : List Field) (i : Nat) (a b : List Int), intF P fs i = true → (a.drop i).length = fs.length → (b.drop i).length = fs.length →
    (Op.eqFields (d + 1) (vi a).toArray (vi b).toArray fs).run P w = .ok (a.drop i == b.drop i) w
  | [], i, a, b, _, ha, hb => by
    rw [List.eq_nil_of_length_eq_zero ha, List.eq_nil_of_length_eq_zero hb]
    simp [Op.eqFields]
  | f :: fs, i, a, b, h, ha, hb => by
    simp only [intF, Bool.and_eq_true, bne_iff_ne, ne_eq] at h
    obtain ⟨h1, h2', h3, h4⟩ := h
    have h2 := Nat.eq_of_beq_eq_true h2'
    have ht := isI64_spec h3
    have hla : i < a.length := by simp at ha; omega
    have hlb : i < b.length := by simp at hb; omega
    have ea : a.drop i = a[i] :: a.drop (i + 1) := (List.getElem_cons_drop hla).symm
    have eb : b.drop i = b[i] :: b.drop (i + 1) := (List.getElem_cons_drop hlb).symm
    have pa := run_part1 (w := w) (xs := (vi a).toArray) (i := i) (v := .int .i64 a[i]) ht (by simp [hla])
    have pb := run_part1 (w := w) (xs := (vi b).toArray) (i := i) (v := .int .i64 b[i]) ht (by simp [hlb])
    have ih := run_eqF d fs (i + 1) a b h4 (by simp at ha ⊢; omega) (by simp at hb ⊢; omega)
    simp only [Op.eqFields, ne_eq, h1, not_false_eq_true, if_true, Sem.run_bind, h2, pa, pb, Result.andThen_ok, run_equalIn_int w d f.type .i64 .i64 a[i] b[i] ht]
    rw [ea, eb, List.cons_beq_cons]
    cases h' : (a[i] == b[i]) with
    | true =>
      simp only [Bool.not_true, Bool.false_eq_true, if_false, ih, Bool.true_and]
    | false =>
      simp only [Bool.not_false, if_true, Sem.run_pure, Bool.false_and]
variable {ρ : Operand → Value} {x y : Operand} {dst : Option Tmp} {ty t t' : TypeId} {pos : String} {af : Array Edge} {g : Option (Nat × Bool)}
theorem run_eqL {a b : List Int} (ht : eqLB P t a.length = true) (hl : b.length = a.length) : (Op.equalIn 10000 t (.agg (vi a).toArray) (.agg (vi b).toArray)).run P w = .ok (a == b) w := by
  unfold eqLB at ht
  simp only [Bool.and_eq_true, Bool.not_eq_true'] at ht
  obtain ⟨h1, h2, h3⟩ := ht
  split at h1
  · rename_i fs hu
    simp only [Bool.and_eq_true] at h1
    have hn := Nat.eq_of_beq_eq_true h1.2
    have hf : P.fieldsOf t = fs := by unfold Program.fieldsOf; rw [hu]
    rw [run_equalIn_struct w 9999 t _ _ (by rw [hf]; exact hu) h2, hf]
    exact run_eqF 9998 fs.toList 0 a b h1.1 (by simp [← hn]) (by simp [← hn, hl])
  · cases h1
theorem ex_eqL {a b : List Int} (hx : ρ x = .agg (vi a).toArray) (hy : ρ y = .agg (vi b).toArray) (ht : eqLB P t a.length = true) (hl : b.length = a.length) :
    (execOp ρ ⟨dst, .binOp .eql t x y t', ty, pos, af, g⟩).run P w = .ok (.value (.bool (a == b))) w := by
  have hg : P.eqGuardType P.depth t = false := by simp only [eqLB, Bool.and_eq_true, Bool.not_eq_true'] at ht; exact ht.2.2
  simp only [execOp, hx, hy, Sem.run_bind, run_eqGuard_agg w _ t x y _ _ hg, Result.andThen_ok, run_eql_struct, run_eqL ht hl, Sem.run_pure]
theorem ex_neL {a b : List Int} (hx : ρ x = .agg (vi a).toArray) (hy : ρ y = .agg (vi b).toArray) (ht : eqLB P t a.length = true) (hl : b.length = a.length) :
    (execOp ρ ⟨dst, .binOp .neq t x y t', ty, pos, af, g⟩).run P w = .ok (.value (.bool (!(a == b)))) w := by
  have hg : P.eqGuardType P.depth t = false := by simp only [eqLB, Bool.and_eq_true, Bool.not_eq_true'] at ht; exact ht.2.2
  simp only [execOp, hx, hy, Sem.run_bind, run_eqGuard_agg w _ t x y _ _ hg, Result.andThen_ok, run_neq_struct, run_eqL ht hl, Sem.run_pure]
end
end Go.Proofs.YteeillphhiaopaaGreatDoor
