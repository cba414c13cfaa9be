/- Words and laws that the contracts use: slices that read as lists, append, the chain of worlds. Nothing here is about one function. -/
import Derived.Test.YtgdjpaeclicdfaaDoorRows
import Derived.WalkKit
import Derived.ProofKit
import Derived.OpenShut
import Derived.Outline
import Derived.LoopTactic
import Derived.WalkMore
import Derived.WalkSpells
import Derived.Lib.Hide
import Derived.IntWalk
import Derived.Deep.DeepCutAuto
import Derived.Deep.AppendLies
import Derived.Deep.RegionLaw
import Derived.Laws.AppendOwnNone
import Derived.Maps.AppendAt
import Derived.RangeFuncBox
namespace Go.Proofs.YtgdjpaeclicdfaaDoor
open Go.ChangeShapes Go.WideShapes Go.ChangeAt Go.RowKit
set_option linter.unusedVariables false

theorem ret_int {k : IntKind} {a b : Int} (h : a = b) : Ending.returned (.int k a) = .returned (.int k b) := by rw [h]
theorem wf_bd {n : Int} (h : (Lit.int .i64 n).wf = true) : -9223372036854775808 ≤ n ∧ n ≤ 9223372036854775807 := bounds_i64 h

/-! ### The chain of worlds -/
theorem bnext {w v v' : World} (h : Below w.heap.size w v) (hb : Below v.heap.size v v') : Below w.heap.size w v' := h.trans (hb.mono h.size)
theorem bnew {w v v' : World} {o : Obj} (h : Below w.heap.size w v) (hb : Below (v.alloc o).heap.size (v.alloc o) v') : Below w.heap.size w v' :=
  bnext (h.alloc h.size o) hb
theorem balloc (w : World) (o : Obj) : Below w.heap.size w (w.alloc o) := (Below.refl _ _).alloc (Nat.le_refl _) _

/-! ### Slices that read as lists of cells -/
/-- A slice value's address, length: the cells that its elements take, in order. -/
def Rd (w : World) (size : Nat) (A : Option Addr) (n : Nat) (xs : List Value) : Prop :=
  xs.length = n * size ∧ (n = 0 ∨ ∃ b off, A = some ⟨b, off, none⟩ ∧ b < w.heap.size ∧ ∀ i, i < n * size → w.cell? ⟨b, off + i, none⟩ = xs[i]?)

theorem Rd.below {w w' : World} {size : Nat} {A : Option Addr} {n : Nat} {xs : List Value} (h : Rd w size A n xs) (hb : Below w.heap.size w w') : Rd w' size A n xs := by
  obtain ⟨h1, h2⟩ := h
  refine ⟨h1, ?_⟩
  rcases h2 with h2 | ⟨b, off, rfl, hlt, hc⟩
  · exact .inl h2
  · exact .inr ⟨b, off, rfl, Nat.lt_of_lt_of_le hlt hb.size, fun i hi => (hb.cell (p := ⟨b, off + i, none⟩) hlt).trans (hc i hi)⟩
theorem Rd.of_own {w : World} {base size : Nat} {e : TypeId} {A : Option Addr} {n c : Nat} {xs : List Value} (h : w.ownsRow base e size (.slice A n c) n xs) : Rd w size A n xs := by
  refine ⟨h.1, ?_⟩
  by_cases hn : n = 0
  · exact .inl hn
  · obtain ⟨g, cap, hv, _, hlt⟩ := h.form (by omega)
    have hA : A = some ⟨g, 0, none⟩ := by injection hv
    subst hA
    refine .inr ⟨g, 0, rfl, hlt, fun i hi => ?_⟩
    have hi' : i < xs.length := by rw [h.1]; exact hi
    have := h.cells (g := g) rfl i _ (List.getElem?_eq_getElem hi')
    rw [List.getElem?_eq_getElem hi', ← this]
    unfold Addr.add
    split
    · subst i; rfl
    · simp
theorem Rd.cut {w : World} {size : Nat} {A : Option Addr} {n : Nat} {xs : List Value} (h : Rd w size A n xs) {k cap : Nat} (hk : k ≤ n) (hc : n ≤ cap) :
    Rd w size (if cap = k then A else A.map (·.add (k * size))) (n - k) (xs.drop (k * size)) := by
  obtain ⟨h1, h2⟩ := h
  refine ⟨by rw [List.length_drop, h1, Nat.sub_mul], ?_⟩
  by_cases hn : n = k
  · exact .inl (by omega)
  · rcases h2 with h2 | ⟨b, off, rfl, hlt, hcell⟩
    · omega
    · rw [if_neg (by omega)]
      refine .inr ⟨b, off + k * size, ?_, hlt, fun i hi => ?_⟩
      · simp only [Option.map_some, Addr.add]
        split
        · next h0 => rw [h0, Nat.add_zero]
        · rfl
      · have hm : k * size + (n - k) * size = n * size := by rw [← Nat.add_mul, Nat.add_sub_cancel' hk]
        rw [List.getElem?_drop, ← hcell (k * size + i) (by omega), Nat.add_assoc]
theorem Rd.take {w : World} {size : Nat} {A : Option Addr} {n : Nat} {xs : List Value} (h : Rd w size A n xs) {k : Nat} (hk : k ≤ n) :
    Rd w size A k (xs.take (k * size)) := by
  obtain ⟨h1, h2⟩ := h
  have hm : k * size ≤ n * size := Nat.mul_le_mul_right _ hk
  refine ⟨by rw [List.length_take, h1]; omega, ?_⟩
  rcases h2 with h2 | ⟨b, off, rfl, hlt, hcell⟩
  · exact .inl (by omega)
  · exact .inr ⟨b, off, rfl, hlt, fun i hi => by rw [hcell i (by omega), List.getElem?_take, if_pos hi]⟩
theorem Rd.nil (w : World) (size : Nat) (A : Option Addr) : Rd w size A 0 [] := ⟨by simp, .inl rfl⟩
theorem Rd.cell {w : World} {A : Option Addr} {n : Nat} {xs : List Value} (h : Rd w 1 A n xs) {i : Nat} (hi : i < n) :
    ∃ b off v, A = some ⟨b, off, none⟩ ∧ b < w.heap.size ∧ xs[i]? = some v ∧ w.cell? ⟨b, off + i, none⟩ = some v := by
  obtain ⟨h1, h2⟩ := h
  obtain ⟨b, off, rfl, hb, hc⟩ := h2.resolve_left (by omega)
  have hl : i < xs.length := by omega
  exact ⟨b, off, xs[i], rfl, hb, List.getElem?_eq_getElem hl, (hc i (by omega)).trans (List.getElem?_eq_getElem hl)⟩

/-! ### append -/
section
variable {P : Program} (w : World)
/-- append onto a row of the call's own (nil too); the source nil, empty or not. -/
theorem wp_append_rd {o : Oper} {a : Act} {K : Act → World → Prop} {Q : Exit → Act → World → Prop} (s x : Operand) (t : TypeId)
    (ho : o.op = .call { callee := .builtin .append, args := #[s, x], argTypes := #[t, t] })
    (base : Nat) (e : TypeId) (i : TypeInfo) (z : Value) (size bytes : Nat) (ht : P.underlying t = some (.slice e)) (hi : P.info? e = some i) (hz : i.zero = some z)
    (hsize : i.size = size) (hby : i.bytes = bytes) (hzs : z.cells.size = size) (hsz : 0 < size)
    (v : Value) (n : Nat) (xs : List Value) (hs : a.eval s = v) (hown : w.ownsRow base e size v n xs)
    (A : Option Addr) (m c : Nat) (news : List Value) (hx : a.eval x = .slice A m c) (hA : A = none → m = 0 ∧ c = 0) (hr : Rd w size A m news) (h1 : ∀ u ∈ news, u.oneCell' = true)
    (h63 : n + m ≤ maxLen) (hbytes : (n + m) * bytes ≤ 140737488355328) (hbase : base ≤ w.heap.size)
    (h : ∀ B c' w', w'.ownsRow base e size (.slice B (n + m) c') (n + m) (xs ++ news) → w.grownBy w' v.ownBlock → ((Value.slice B (n + m) c').ownBlock = v.ownBlock ∨ (Value.slice B (n + m) c').ownBlock = some w.heap.size) → K (a.put o.dst (.slice B (n + m) c')) w') : o.wp P a w K Q := by
  have form : ∀ (v' : Value) (w' : World) (k : Nat) (ys : List Value), w'.ownsRow base e size v' k ys → ∃ B c', v' = .slice B k c' := by
    intro v' w' k ys hw
    rcases hw.2 with ⟨rfl, rfl⟩ | ⟨g, cap, cur, rfl, _⟩
    · exact ⟨_, _, rfl⟩
    · exact ⟨_, _, rfl⟩
  cases A with
  | none =>
    obtain ⟨rfl, rfl⟩ := hA rfl
    have hn : news = [] := List.eq_nil_of_length_eq_zero (by simpa using hr.1)
    subst hn
    have hrun := run_append_owned_none (P := P) (w := w) base t o.type e i size ht hi v n xs hown
    unfold Oper.wp
    simp [execOp, ho, resolve, invoke, builtin, hs, hx, hrun, Result.andThen]
    obtain ⟨B, c', rfl⟩ := form v w n xs hown
    exact h B c' w (by simpa using hown) ⟨rfl, rfl, rfl, Nat.le_refl _, fun _ _ _ => rfl⟩ (.inl rfl)
  | some ad =>
    have hnews : ∀ j u, news[j]? = some u → w.cell? (ad.add j) = some u := by
      intro j u hu
      have hj : j < m * size := by rw [← hr.1]; exact (List.getElem?_eq_some_iff.1 hu).1
      rcases hr.2 with h0 | ⟨b, off, he, hlt, hcell⟩
      · subst h0; omega
      · cases he
        rw [← hu, ← hcell j hj]
        unfold Addr.add
        split
        · subst j; rfl
        · rfl
    obtain ⟨v', w', hrun, h2, h3, _, h5⟩ := run_append_own_at (P := P) w base t o.type e i z size bytes ht hi hz hsize hby hzs hsz v n xs hown ad m c news hr.1 hnews h1 h63 hbytes hbase
    obtain ⟨B, c', rfl⟩ := form v' w' _ _ h2
    unfold Oper.wp
    simp [execOp, ho, resolve, invoke, builtin, hs, hx, hrun, Result.andThen]
    exact h B c' w' h2 h3 h5
theorem wpList_append_rd {ops : Array Oper} {rest : List Oper} {o : Oper} {a : Act} {Q : Exit → Act → World → Prop} (hgd : o.guard = none) (s x : Operand) (t : TypeId)
    (ho : o.op = .call { callee := .builtin .append, args := #[s, x], argTypes := #[t, t] })
    (base : Nat) (e : TypeId) (i : TypeInfo) (z : Value) (size bytes : Nat) (ht : P.underlying t = some (.slice e)) (hi : P.info? e = some i) (hz : i.zero = some z)
    (hsize : i.size = size) (hby : i.bytes = bytes) (hzs : z.cells.size = size) (hsz : 0 < size)
    (v : Value) (n : Nat) (xs : List Value) (hs : a.eval s = v) (hown : w.ownsRow base e size v n xs)
    (A : Option Addr) (m c : Nat) (news : List Value) (hx : a.eval x = .slice A m c) (hA : A = none → m = 0 ∧ c = 0) (hr : Rd w size A m news) (h1 : ∀ u ∈ news, u.oneCell' = true)
    (h63 : n + m ≤ maxLen) (hbytes : (n + m) * bytes ≤ 140737488355328) (hbase : base ≤ w.heap.size)
    (h : ∀ B c' w', w'.ownsRow base e size (.slice B (n + m) c') (n + m) (xs ++ news) → w.grownBy w' v.ownBlock → ((Value.slice B (n + m) c').ownBlock = v.ownBlock ∨ (Value.slice B (n + m) c').ownBlock = some w.heap.size) → wpList P ops Q rest (a.put o.dst (.slice B (n + m) c')) w') : wpList P ops Q (o :: rest) a w :=
  wpList_plain hgd fun _ hK => wp_append_rd w s x t ho base e i z size bytes ht hi hz hsize hby hzs hsz v n xs hs hown A m c news hx hA hr h1 h63 hbytes hbase fun B c' w' h2 h3 h4 => hK _ _ (h B c' w' h2 h3 h4)
theorem step_append_rd {ops : Array Oper} {o : Oper} {a : Act} {K : Act → World → Prop} {Q : Exit → Act → World → Prop} {E : Prop} (hgd : o.guard = none) (s x : Operand) (t : TypeId)
    (ho : o.op = .call { callee := .builtin .append, args := #[s, x], argTypes := #[t, t] })
    (base : Nat) (e : TypeId) (i : TypeInfo) (z : Value) (size bytes : Nat) (ht : P.underlying t = some (.slice e)) (hi : P.info? e = some i) (hz : i.zero = some z)
    (hsize : i.size = size) (hby : i.bytes = bytes) (hzs : z.cells.size = size) (hsz : 0 < size)
    (v : Value) (n : Nat) (xs : List Value) (hs : a.eval s = v) (hown : w.ownsRow base e size v n xs)
    (A : Option Addr) (m c : Nat) (news : List Value) (hx : a.eval x = .slice A m c) (hA : A = none → m = 0 ∧ c = 0) (hr : Rd w size A m news) (h1 : ∀ u ∈ news, u.oneCell' = true)
    (h63 : n + m ≤ maxLen) (hbytes : (n + m) * bytes ≤ 140737488355328) (hbase : base ≤ w.heap.size)
    (h : ∀ B c' w', w'.ownsRow base e size (.slice B (n + m) c') (n + m) (xs ++ news) → w.grownBy w' v.ownBlock → ((Value.slice B (n + m) c').ownBlock = v.ownBlock ∨ (Value.slice B (n + m) c').ownBlock = some w.heap.size) → K (a.put o.dst (.slice B (n + m) c')) w') :
    if Region.wanted o (yielded ops a.tmps) = true then Oper.wp P o a w K Q else E := by
  have hw : Region.wanted o (yielded ops a.tmps) = true := by simp [Region.wanted, hgd]
  rw [if_pos hw]
  exact wp_append_rd w s x t ho base e i z size bytes ht hi hz hsize hby hzs hsz v n xs hs hown A m c news hx hA hr h1 h63 hbytes hbase h
end
theorem own_ge {w : World} {base size : Nat} {e : TypeId} {v : Value} {n : Nat} {xs : List Value} (h : w.ownsRow base e size v n xs) : ∀ k, v.ownBlock = some k → base ≤ k := by
  intro k hk
  rcases h.2 with ⟨rfl, _⟩ | ⟨g, cap, cur, rfl, hb, _⟩
  · simp [Value.ownBlock] at hk
  · have : g = k := by simpa [Value.ownBlock] using hk
    omega
/-- A block that a slice literal has just made is a row of the call's own. -/
theorem own_new (w : World) (t : TypeId) (vs : List Value) (hl : vs.length ≤ maxLen) : (w.alloc (.cells vs.toArray t)).ownsRow w.heap.size t 1 (.slice (some ⟨w.heap.size, 0, none⟩) vs.length vs.length) vs.length vs :=
  ⟨by simp, .inr ⟨w.heap.size, vs.length, vs.toArray, rfl, Nat.le_refl _, heap_alloc_new w _, Nat.le_refl _, hl, by simp, by simp⟩⟩

/-! ### Slices of integers -/
def IsInts (w : World) (a : Option Addr) (len : Nat) (zs : List Int) : Prop :=
  zs.length = len ∧ (len = 0 ∨ ∃ b off, a = some ⟨b, off, none⟩ ∧ b < w.heap.size ∧ ∀ i, i < len → w.cell? ⟨b, off + i, none⟩ = some (.int .i64 (zs.getD i 0)))
theorem IsInts.below {w w' : World} {a : Option Addr} {len : Nat} {zs : List Int} (h : IsInts w a len zs) (hb : Below w.heap.size w w') : IsInts w' a len zs := by
  obtain ⟨h1, h2⟩ := h
  refine ⟨h1, ?_⟩
  rcases h2 with h2 | ⟨b, off, rfl, hlt, hc⟩
  · exact .inl h2
  · exact .inr ⟨b, off, rfl, Nat.lt_of_lt_of_le hlt hb.size, fun i hi => by rw [hb.cell (p := ⟨b, off + i, none⟩) hlt]; exact hc i hi⟩
theorem IsInts.nil (w : World) (a : Option Addr) : IsInts w a 0 [] := ⟨rfl, .inl rfl⟩
abbrev ints (zs : List Int) : List Value := zs.map (Value.int .i64)
theorem ints_ones (zs : List Int) : ∀ u ∈ ints zs, u.oneCell' = true := by
  intro u hu
  simp only [List.mem_map] at hu
  obtain ⟨z, _, rfl⟩ := hu
  rfl
theorem ofInts {w : World} {A : Option Addr} {n : Nat} {zs : List Int} (h : IsInts w A n zs) : Rd w 1 A n (ints zs) := by
  obtain ⟨h1, h2⟩ := h
  refine ⟨by simp [h1], ?_⟩
  rcases h2 with h2 | ⟨b, off, rfl, hb, hc⟩
  · exact .inl h2
  · refine .inr ⟨b, off, rfl, hb, fun i hi => ?_⟩
    rw [hc i (by omega)]
    simp only [List.getElem?_map, List.getD]
    rw [List.getElem?_eq_getElem (by omega)]
    rfl
theorem toInts {w : World} {A : Option Addr} {n : Nat} {zs : List Int} (h : Rd w 1 A n (ints zs)) : IsInts w A n zs := by
  obtain ⟨h1, h2⟩ := h
  have hz : zs.length = n := by simpa using h1
  refine ⟨hz, ?_⟩
  rcases h2 with h2 | ⟨b, off, rfl, hb, hc⟩
  · exact .inl h2
  · refine .inr ⟨b, off, rfl, hb, fun i hi => ?_⟩
    rw [hc i (by omega)]
    simp only [List.getElem?_map, List.getD]
    rw [List.getElem?_eq_getElem (by omega)]
    rfl
theorem cut1 {w : World} {A : Option Addr} {n : Nat} {zs : List Int} (h : Rd w 1 A n (ints zs)) {k cap : Nat} (hk : k ≤ n) (hc : n ≤ cap) :
    Rd w 1 (if cap = k then A else Option.map (fun x => x.add k) A) (n - k) (ints (zs.drop k)) := by
  have := h.cut hk hc
  simpa [Nat.mul_one, List.map_drop] using this
theorem take1 {w : World} {A : Option Addr} {n : Nat} {zs : List Int} (h : Rd w 1 A n (ints zs)) {k : Nat} (hk : k ≤ n) : Rd w 1 A k (ints (zs.take k)) := by
  have := h.take hk
  simpa [Nat.mul_one, List.map_take] using this
theorem nil1 {A : Option Addr} {n k cap : Nat} (h : A = none → cap = 0) (hk : k ≤ n) (hc : n ≤ cap) : (if cap = k then A else Option.map (fun x => x.add k) A) = none → n - k = 0 ∧ cap - k = 0 := by
  intro e
  split at e
  · omega
  · have : A = none := by cases A <;> simp_all
    have := h this
    omega
theorem isInts_of_row {w : World} {x : Addr} {l c : Nat} {zs : List Int} (hl : l ≤ c) (hz : zs.length = c) (hcell : ∀ i, i < zs.length → w.cell? (x.add i) = some (.int .i64 (zs.getD i 0))) : IsInts w (some x) l (zs.take l) := by
  refine ⟨by rw [List.length_take]; omega, ?_⟩
  by_cases h0 : l = 0
  · exact .inl h0
  · have h1 := hcell 0 (by omega)
    have h2 : x.spot = none := by
      simp only [Addr.add, if_true] at h1
      unfold World.cell? at h1
      split at h1
      · by_cases hs : x.spot.isSome = true
        · simp [hs] at h1
        · simpa using hs
      · simp at h1
    obtain ⟨b, off, sp⟩ := x
    simp only at h2
    subst h2
    refine .inr ⟨b, off, rfl, ?_, fun i hi => ?_⟩
    · simp only [Addr.add, if_true] at h1
      exact World.block_lt_of_cell? w _ h1
    · have := hcell i (by omega)
      unfold Addr.add at this
      rw [show (zs.take l).getD i 0 = zs.getD i 0 by simp only [List.getD, List.getElem?_take]; rw [if_pos hi]]
      split at this
      · subst i; simpa using this
      · exact this
/-- A literal slice of integers, just made. -/
theorem isInts_new (w : World) (t : TypeId) (zs : List Int) (hl : zs.length ≤ maxLen) : IsInts (w.alloc (.cells (ints zs).toArray t)) (some ⟨w.heap.size, 0, none⟩) zs.length zs := by
  have := own_new w t (ints zs) (by simpa using hl)
  rw [List.length_map] at this
  exact toInts (Rd.of_own this)
/-- A call that returns a new slice of integers, and changes nothing that was there. -/
def RetInts (l : List Int) (w : World) (e : Ending) (w' : World) : Prop :=
  ∃ B c, e = .returned (.slice B l.length c) ∧ IsInts w' B l.length l ∧ l.length ≤ c ∧ c ≤ maxLen ∧ (B = none → c = 0) ∧ Below w.heap.size w w'
theorem own_facts {w : World} {base : Nat} {e : TypeId} {size n c : Nat} {B : Option Addr} {xs : List Value} (h : w.ownsRow base e size (.slice B n c) n xs) : n ≤ c ∧ c ≤ maxLen ∧ (B = none → c = 0) := by
  rcases h.2 with ⟨hv, rfl⟩ | ⟨g, cap, cur, hv, _, _, h1, h2, _⟩
  · cases hv; exact ⟨Nat.le_refl _, Nat.zero_le _, fun _ => rfl⟩
  · cases hv; exact ⟨h1, h2, fun e => by cases e⟩
/-- A cell of another block than the row. -/
theorem grown_cell {w w' : World} {row : Option Nat} (hg : w.grownBy w' row) {b o : Nat} {v : Value} (h : w.cell? ⟨b, o, none⟩ = some v) (hne : row ≠ some b) : w'.cell? ⟨b, o, none⟩ = some v :=
  (World.cell?_of_block (w := w) (hg.block b (World.block_lt_of_cell? w _ h) (fun e => hne e.symm))).trans h
theorem grown_frozen {w w' : World} {row : Option Nat} (hg : w.grownBy w' row) {b o : Nat} {v : Value} (h : w.cell? ⟨b, o, none⟩ = some v) (hne : row ≠ some b) : w'.frozen? ⟨b, o, none⟩ = w.frozen? ⟨b, o, none⟩ :=
  World.frozen?_of_block (w := w) (hg.block b (World.block_lt_of_cell? w _ h) (fun e => hne e.symm))
theorem take_getD {zs : List Int} {k : Nat} (hk : k < zs.length) : zs.take (k + 1) = zs.take k ++ [zs.getD k 0] := by
  rw [List.take_succ_eq_append_getElem hk]
  simp [List.getD, List.getElem?_eq_getElem hk]
theorem drop_getD {zs : List Int} {k : Nat} (hk : k < zs.length) : zs.drop k = zs.getD k 0 :: zs.drop (k + 1) := by
  rw [List.drop_eq_getElem_cons hk]
  simp [List.getD, List.getElem?_eq_getElem hk]
end Go.Proofs.YtgdjpaeclicdfaaDoor
