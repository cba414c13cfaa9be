/- The walk by explicit steps: rows that grow by append. -/
import Derived.Test.YtgdjpaeclicdfaaDoorSymD
namespace Go.Proofs.YtgdjpaeclicdfaaDoor
open Go.ChangeShapes Go.WideShapes Go.ChangeAt Go.RowKit
set_option linter.unusedVariables false

/-- In another order. -/
theorem Hp.perm {w0 w : World} {L L' : List HB} {K : List FK} (H : Hp w0 w L K) (h : L.Perm L') : Hp w0 w L' K :=
  ⟨H.os, H.tape, H.output, H.size, fun k hk hn => H.old k hk fun x hx => hn x (h.subset hx), fun x hx => H.res x (h.symm.subset hx), h.pairwise H.apart (fun {x y} hxy k hk hk' => hxy k hk' hk), fun x hx => H.fresh x (h.symm.subset hx), fun p hp => let ⟨h1, h2, h3⟩ := H.kept p hp; ⟨h1, h2, fun k hk => ⟨(h3 k hk).1, fun x hx => (h3 k hk).2 x (h.symm.subset hx)⟩⟩⟩
theorem Hp.untop {w0 w : World} {L : List HB} {p : FK} {K : List FK} (H : Hp w0 w L (p :: K)) : Hp w0 w L K := H.keeps (List.subset_cons_self _ _)
theorem perm_front {α : Type} : ∀ {L : List α} {i : Nat} {x : α}, L[i]? = some x → L.Perm (x :: L.eraseIdx i)
  | [], _, _, h => by cases h
  | a :: L, 0, x, h => by simp only [List.getElem?_cons_zero, Option.some.injEq] at h; subst h; exact .refl _
  | a :: L, i + 1, x, h => by
    simp only [List.getElem?_cons_succ] at h
    simp only [List.eraseIdx_cons_succ]
    exact ((perm_front h).cons a).trans (.swap _ _ _)
/-- One is brought to the front. -/
theorem Hp.front {w0 w : World} {L : List HB} {K : List FK} (H : Hp w0 w L K) (i : Nat) {x : HB} (hi : L[i]? = some x) (L' : List HB) (hL : x :: L.eraseIdx i = L') : Hp w0 w L' K := by
  subst hL; exact H.perm (perm_front hi)
/-- Others are brought into the order that is wanted: the list of their places. -/
def placed (L : List HB) : List Nat → List HB
  | [] => []
  | i :: is => match L[i]? with
    | some x => x :: placed L is
    | none => placed L is
theorem Rd.of_boxN {w : World} {b t size : Nat} {vs : List Value} (h : Box w b t vs.toArray) (hl : vs.length = 1 * size) : Rd w size (some ⟨b, 0, none⟩) 1 vs :=
  ⟨hl, .inr ⟨b, 0, rfl, h.lt, fun i hi => by
    have hi' : i < vs.length := by omega
    rw [Nat.zero_add, List.getElem?_eq_getElem hi']
    exact h.cell (by simp [List.getElem?_eq_getElem hi'])⟩⟩
theorem oneCells_spec : ∀ {vs : List Value}, oneCells vs = true → ∀ u ∈ vs, u.oneCell' = true
  | [], _, u, h => by cases h
  | v :: vs, h, u, hu => by
    simp only [oneCells, Bool.and_eq_true] at h
    rcases List.mem_cons.1 hu with rfl | hu
    · have h1 := h.1
      cases u <;> first | rfl | cases h1
    · exact oneCells_spec h.2 u hu
def infoB (P : Program) (e : TypeId) : Option (Option Value × Nat × Nat) := (P.info? e).map fun i => (i.zero, i.size, i.bytes)
theorem infoB_spec {P : Program} {e : TypeId} {z : Value} {size bytes : Nat} (h : infoB P e = some (some z, size, bytes)) : ∃ i, P.info? e = some i ∧ i.zero = some z ∧ i.size = size ∧ i.bytes = bytes := by
  unfold infoB at h
  cases hi : P.info? e with
  | none => rw [hi] at h; cases h
  | some i =>
    rw [hi] at h
    simp only [Option.map_some, Option.some.injEq, Prod.mk.injEq] at h
    exact ⟨i, rfl, h⟩
section
variable {α : Type}
/-- What an element says hangs on its own blocks alone. -/
def ElOk (ok : α → World → Prop) (fe : α → Nat → Prop) : Prop := ∀ a w1 w2, ok a w1 → (∀ k, fe a k → w2.heap[k]? = w1.heap[k]?) → w1.heap.size ≤ w2.heap.size → ok a w2
theorem elOk_flat : ElOk (α := α) (fun _ _ => True) (fun _ _ => False) := fun _ _ _ _ _ _ => trivial
abbrev flat (cs : α → Array Value) (l : List α) : List Value := l.flatMap fun a => (cs a).toList
/-- A row of the call's own, with what its elements own. -/
def rowsR (base : Nat) (e : TypeId) (size : Nat) (cs : α → Array Value) (ok : α → World → Prop) (fe : α → Nat → Prop) (v : Value) (l : List α) : HB :=
  ⟨fun k => v.ownBlock = some k ∨ ∃ a ∈ l, fe a k, fun w => w.ownsRow base e size v l.length (flat cs l) ∧ ∀ a ∈ l, ok a w ∧ ∀ k, fe a k → k < w.heap.size ∧ v.ownBlock ≠ some k, true⟩
/-- The same, and an element that is to be appended. -/
def rowsP (base : Nat) (e : TypeId) (size : Nat) (cs : α → Array Value) (ok : α → World → Prop) (fe : α → Nat → Prop) (v : Value) (l : List α) (p : α) : HB :=
  ⟨fun k => (v.ownBlock = some k ∨ ∃ a ∈ l, fe a k) ∨ fe p k, fun w => (w.ownsRow base e size v l.length (flat cs l) ∧ ∀ a ∈ l, ok a w ∧ ∀ k, fe a k → k < w.heap.size ∧ v.ownBlock ≠ some k) ∧ ok p w ∧ ∀ k, fe p k → k < w.heap.size ∧ v.ownBlock ≠ some k, true⟩
variable {base : Nat} {e : TypeId} {size : Nat} {cs : α → Array Value} {ok : α → World → Prop} {fe : α → Nat → Prop} {v : Value} {l : List α} {p : α}
theorem own_keep {w1 w2 : World} {n : Nat} {xs : List Value} (h : w1.ownsRow base e size v n xs) (hk : ∀ k, v.ownBlock = some k → w2.heap[k]? = w1.heap[k]?) : w2.ownsRow base e size v n xs := by
  obtain ⟨h1, h2⟩ := h
  refine ⟨h1, ?_⟩
  rcases h2 with h2 | ⟨g, cap, cur, hv, hg, hh, r⟩
  · exact .inl h2
  · exact .inr ⟨g, cap, cur, hv, hg, (hk g (by rw [hv]; rfl)).trans hh, r⟩
theorem own_lt {w : World} {n : Nat} {xs : List Value} (h : w.ownsRow base e size v n xs) : ∀ k, v.ownBlock = some k → k < w.heap.size ∧ base ≤ k := by
  intro k hk
  rcases h.2 with ⟨rfl, _⟩ | ⟨g, cap, cur, rfl, hb, hh, _⟩
  · cases hk
  · cases hk; exact ⟨(Array.getElem?_eq_some_iff.1 hh).1, hb⟩
theorem rowsR_ok (hel : ElOk ok fe) : (rowsR base e size cs ok fe v l).ok := fun w1 w2 h hk hs =>
  ⟨own_keep h.1 fun k hv => hk k (.inl hv), fun a ha => ⟨hel a w1 w2 (h.2 a ha).1 (fun k hf => hk k (.inr ⟨a, ha, hf⟩)) hs, fun k hf => ⟨Nat.lt_of_lt_of_le ((h.2 a ha).2 k hf).1 hs, ((h.2 a ha).2 k hf).2⟩⟩⟩
theorem rowsP_ok (hel : ElOk ok fe) : (rowsP base e size cs ok fe v l p).ok := fun w1 w2 h hk hs =>
  ⟨⟨own_keep h.1.1 fun k hv => hk k (.inl (.inl hv)), fun a ha => ⟨hel a w1 w2 (h.1.2 a ha).1 (fun k hf => hk k (.inl (.inr ⟨a, ha, hf⟩))) hs, fun k hf => ⟨Nat.lt_of_lt_of_le ((h.1.2 a ha).2 k hf).1 hs, ((h.1.2 a ha).2 k hf).2⟩⟩⟩,
    hel p w1 w2 h.2.1 (fun k hf => hk k (.inr hf)) hs, fun k hf => ⟨Nat.lt_of_lt_of_le (h.2.2 k hf).1 hs, (h.2.2 k hf).2⟩⟩
/-- A new row: nil. -/
theorem Hp.nilRow {w0 w : World} {L : List HB} {K : List FK} (H : Hp w0 w L K) (base : Nat) (e : TypeId) (size : Nat) (cs : α → Array Value) (ok : α → World → Prop) (fe : α → Nat → Prop) (hel : ElOk ok fe) : Hp w0 w (rowsR base e size cs ok fe (.slice none 0 0) [] :: L) K :=
  have hno : ∀ k, ¬ (rowsR base e size cs ok fe (.slice none 0 0) []).fp k := fun k hk => by
    rcases hk with h | ⟨a, ha, _⟩
    · cases h
    · cases ha
  H.add _ ⟨World.ownsRow_nil _ _ _ _, fun a ha => by cases ha⟩ (rowsR_ok hel) (fun k hk => (hno k hk).elim) (fun k hk => (hno k hk).elim) (fun _ k hk => (hno k hk).elim)
/-- An element with new memory is made ready. -/
theorem Hp.pend {w0 w w' : World} {L : List HB} {K : List FK} (H : Hp w0 w L K) (i : Nat) (hi : L[i]? = some (rowsR base e size cs ok fe v l)) (hel : ElOk ok fe) (p : α) (L' : List HB) (hL : L.set i (rowsP base e size cs ok fe v l p) = L') (hb : Below w.heap.size w w') (hp : ok p w') (hn : ∀ k, fe p k → w.heap.size ≤ k ∧ k < w'.heap.size) : Hp w0 w' L' K := by
  have hx := H.held i hi
  have hr := (H.res _ (List.mem_of_getElem? hi)).2.2
  have hx' := rowsR_ok (base := base) (e := e) (size := size) (cs := cs) (v := v) (l := l) hel w w' hx (fun k hk => hb.block k (hr k hk)) hb.size
  refine H.mut i hi (rowsP base e size cs ok fe v l p) L' hL (Agree.of_below hb) ⟨hx', hp, fun k hk => ⟨(hn k hk).2, fun e => ?_⟩⟩ (rowsP_ok hel) (fun k hk => ?_) (fun k hk => ?_) (fun k _ hk => .inl hk) rfl
  · have := hr k (.inl e); have := (hn k hk).1; omega
  · rcases hk with hk | hk
    · exact Nat.lt_of_lt_of_le (hr k hk) hb.size
    · exact (hn k hk).2
  · rcases hk with hk | hk
    · exact .inl hk
    · exact .inr (hn k hk).1
/-- An element that owns nothing new. -/
theorem Hp.pend0 {w0 w : World} {L : List HB} {K : List FK} (H : Hp w0 w L K) (i : Nat) (hi : L[i]? = some (rowsR base e size cs ok fe v l)) (hel : ElOk ok fe) (p : α) (L' : List HB) (hL : L.set i (rowsP base e size cs ok fe v l p) = L') (hp : ok p w) (hn : ∀ k, ¬ fe p k) : Hp w0 w L' K :=
  H.pend i hi hel p L' hL (Below.refl _ _) hp fun k hk => (hn k hk).elim
theorem flat_snoc (cs : α → Array Value) (l : List α) (p : α) : flat cs (l ++ [p]) = flat cs l ++ (cs p).toList := by simp [flat]
theorem wp_push {P : Program} {w0 w : World} {LH : List HB} {K : List FK} {o : Oper} {a : Act} {KK : Act → World → Prop} {Q : Exit → Act → World → Prop} (HP : Hp w0 w LH K) (ir ib : Nat) {bb tb : Nat} {fb : Bool} (s x : Operand) (t : TypeId)
    (ho : o.op = .call { callee := .builtin .append, args := #[s, x], argTypes := #[t, t] }) (hel : ElOk ok fe) {z : Value} {bytes : Nat} (ht : P.underlying t = some (.slice e)) (hinf : infoB P e = some (some z, size, bytes)) (hzs : z.cells.size = size) (hsz : 0 < size)
    (hs : a.eval s = v) (hx : a.eval x = .slice (some ⟨bb, 0, none⟩) 1 1) (hi : LH[ir]? = some (rowsP w0.heap.size e size cs ok fe v l p)) (hb : LH[ib]? = some (bx bb tb (cs p).toList fb)) (hl : (cs p).toList.length = size) (h1 : oneCells (cs p).toList = true)
    (h63 : l.length + 1 ≤ maxLen) (hbytes : (l.length + 1) * bytes ≤ 140737488355328)
    (h : ∀ B c' w', Hp w0 w' (LH.set ir (rowsR w0.heap.size e size cs ok fe (.slice B (l.length + 1) c') (l ++ [p]))) K → KK (a.put o.dst (.slice B (l.length + 1) c')) w') : o.wp P a w KK Q := by
  obtain ⟨i, hi0, hi1, hi2, hi3⟩ := infoB_spec hinf
  have hF := HP.held ir hi
  have hres := (HP.res _ (List.mem_of_getElem? hi)).2.2
  refine wp_append_rd w s x t ho w0.heap.size e i z size bytes ht hi0 hi1 hi2 hi3 hzs hsz v l.length (flat cs l) hs hF.1.1 (some ⟨bb, 0, none⟩) 1 1 (cs p).toList hx (fun e => by cases e) (Rd.of_boxN (HP.at_ ib hb) (by omega)) (oneCells_spec h1) h63 hbytes HP.size ?_
  intro B c' w' hown hg hat
  refine h B c' w' ?_
  have hkeep : ∀ a, (∀ k, fe a k → k < w.heap.size ∧ v.ownBlock ≠ some k) → ∀ k, fe a k → w'.heap[k]? = w.heap[k]? := fun a hf k hk => hg.block k (hf k hk).1 fun e => (hf k hk).2 e.symm
  have hsep : ∀ a, (∀ k, fe a k → k < w.heap.size ∧ v.ownBlock ≠ some k) → ∀ k, fe a k → k < w'.heap.size ∧ (Value.slice B (l.length + 1) c').ownBlock ≠ some k := fun a hf k hk => ⟨Nat.lt_of_lt_of_le (hf k hk).1 hg.size, fun e => by
    rcases hat with h' | h'
    · exact (hf k hk).2 (h' ▸ e)
    · rw [h'] at e
      have := (hf k hk).1
      have e' := Option.some.inj e
      omega⟩
  refine HP.mut ir hi _ _ rfl (Agree.of_grown hg fun k hk => .inl (.inl hk)) ⟨?_, ?_⟩ (rowsR_ok hel) (fun k hk => ?_) (fun k hk => ?_) (fun k hk hk' => ?_) rfl
  · rw [flat_snoc, List.length_append]
    exact hown
  · intro a ha
    rcases List.mem_append.1 ha with ha | ha
    · exact ⟨hel a w w' (hF.1.2 a ha).1 (hkeep a (hF.1.2 a ha).2) hg.size, hsep a (hF.1.2 a ha).2⟩
    · rcases List.mem_singleton.1 ha with rfl
      exact ⟨hel a w w' hF.2.1 (hkeep a hF.2.2) hg.size, hsep a hF.2.2⟩
  · rcases hk with hk | ⟨a, ha, hk⟩
    · exact (own_lt hown k hk).1
    · rcases List.mem_append.1 ha with ha | ha
      · exact (hsep a (hF.1.2 a ha).2 k hk).1
      · rcases List.mem_singleton.1 ha with rfl
        exact (hsep a hF.2.2 k hk).1
  · rcases hk with hk | ⟨a, ha, hk⟩
    · rcases hat with h' | h'
      · exact .inl (.inl (.inl (h' ▸ hk)))
      · rw [h'] at hk
        have := Option.some.inj hk
        exact .inr (by omega)
    · rcases List.mem_append.1 ha with ha | ha
      · exact .inl (.inl (.inr ⟨a, ha, hk⟩))
      · rcases List.mem_singleton.1 ha with rfl
        exact .inl (.inr hk)
  · have := HP.fresh _ (List.mem_of_getElem? hi) rfl k hk'
    omega
theorem Sl.push {P : Program} {ops : Array Oper} {Q : Exit → Act → World → Prop} {a : Act} {w0 w : World} {LH : List HB} {K : List FK} {rest : List Oper} {n : Nat} {L : List (Nat × Value)} {s x : Operand} {t ty : TypeId} {pos : String} {af : Array Edge} {g : Option (Nat × Bool)} (H : Sl n L a) (HP : Hp w0 w LH K) (d ir ib : Nat) {bb tb : Nat} {fb : Bool} {z : Value} {bytes : Nat}
    (hc : chk ops n L ⟨some d, .call { callee := .builtin .append, args := #[s, x], argTypes := #[t, t] }, ty, pos, af, g⟩ d = true) (hel : ElOk ok fe) (ht : P.underlying t = some (.slice e)) (hinf : infoB P e = some (some z, size, bytes)) (hzs : z.cells.size = size) (hsz : Nat.blt 0 size = true)
    (hs : ev L s = v) (hx : ev L x = .slice (some ⟨bb, 0, none⟩) 1 1) (hi : LH[ir]? = some (rowsP w0.heap.size e size cs ok fe v l p)) (hb : LH[ib]? = some (bx bb tb (cs p).toList fb)) (hl : (cs p).toList.length = size) (h1 : oneCells (cs p).toList = true)
    (h63 : l.length + 1 ≤ maxLen) (hbytes : (l.length + 1) * bytes ≤ 140737488355328)
    (k : ∀ B c' w' a', Sl n ((d, .slice B (l.length + 1) c') :: L) a' → Hp w0 w' (LH.set ir (rowsR w0.heap.size e size cs ok fe (.slice B (l.length + 1) c') (l ++ [p]))) K → wpList P ops Q rest a' w') :
    wpList P ops Q (⟨some d, .call { callee := .builtin .append, args := #[s, x], argTypes := #[t, t] }, ty, pos, af, g⟩ :: rest) a w := by
  obtain ⟨hd, hn, hk, hs', hw⟩ := chk_spec hc
  have k1 := knowsAll_spec hk s (by simp [Op.operands, Call.operands])
  have k2 := knowsAll_spec hk x (by simp [Op.operands, Call.operands])
  exact wpList_wanted (H.wanted hw) (wp_push HP ir ib s x t rfl hel ht hinf hzs (by simp [Nat.blt] at hsz; omega) ((H.eval k1).trans hs) ((H.eval k2).trans hx) hi hb hl h1 h63 hbytes fun B c' w' h' => k B c' w' _ (H.put _ hn) h')
theorem Op.push {P : Program} {ops : Array Oper} {Q : Exit → Act → World → Prop} {a : Act} {w0 w : World} {LH : List HB} {K : List FK} {KK : Act → World → Prop} {i n : Nat} {L : List (Nat × Value)} {s x : Operand} {t ty : TypeId} {pos : String} {af : Array Edge} {g : Option (Nat × Bool)} (H : Sl n L a) (HP : Hp w0 w LH K) (d ir ib : Nat) {bb tb : Nat} {fb : Bool} {z : Value} {bytes : Nat}
    (hop : ops[i]? = some ⟨some d, .call { callee := .builtin .append, args := #[s, x], argTypes := #[t, t] }, ty, pos, af, g⟩)
    (hc : chk ops n L ⟨some d, .call { callee := .builtin .append, args := #[s, x], argTypes := #[t, t] }, ty, pos, af, g⟩ d = true) (hel : ElOk ok fe) (ht : P.underlying t = some (.slice e)) (hinf : infoB P e = some (some z, size, bytes)) (hzs : z.cells.size = size) (hsz : Nat.blt 0 size = true)
    (hs : ev L s = v) (hx : ev L x = .slice (some ⟨bb, 0, none⟩) 1 1) (hi : LH[ir]? = some (rowsP w0.heap.size e size cs ok fe v l p)) (hb : LH[ib]? = some (bx bb tb (cs p).toList fb)) (hl : (cs p).toList.length = size) (h1 : oneCells (cs p).toList = true)
    (h63 : l.length + 1 ≤ maxLen) (hbytes : (l.length + 1) * bytes ≤ 140737488355328)
    (k : ∀ B c' w' a', Sl n ((d, .slice B (l.length + 1) c') :: L) a' → Hp w0 w' (LH.set ir (rowsR w0.heap.size e size cs ok fe (.slice B (l.length + 1) c') (l ++ [p]))) K → KK a' w') : wpOp P ops Q i KK a w := by
  obtain ⟨hd, hn, hk, hs', hw⟩ := chk_spec hc
  have k1 := knowsAll_spec hk s (by simp [Op.operands, Call.operands])
  have k2 := knowsAll_spec hk x (by simp [Op.operands, Call.operands])
  exact wpOp_wanted hop (H.wanted hw) (wp_push HP ir ib s x t rfl hel ht hinf hzs (by simp [Nat.blt] at hsz; omega) ((H.eval k1).trans hs) ((H.eval k2).trans hx) hi hb hl h1 h63 hbytes fun B c' w' h' => k B c' w' _ (H.put _ hn) h')
end
end Go.Proofs.YtgdjpaeclicdfaaDoor
