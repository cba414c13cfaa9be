/- Rows of the call's own: a store into an element, and an append of a whole row. Nothing here is about one function. -/
import Derived.Test.YtgdjpaeclicdfaaDoorSymB
namespace Go.Proofs.YtgdjpaeclicdfaaDoor
open Go.ChangeShapes Go.WideShapes Go.ChangeAt Go.RowKit
set_option linter.unusedVariables false
set_option linter.unusedSimpArgs false

theorem own_set {w : World} {base : Nat} {e : TypeId} {size n g cap i : Nat} {xs : List Value} (h : w.ownsRow base e size (.slice (some ⟨g, 0, none⟩) n cap) n xs) (hi : i < n * size) (u : Value) :
    w.cell? ⟨g, i, none⟩ = xs[i]? ∧ w.frozen? ⟨g, i, none⟩ = false ∧ (w.setCell ⟨g, i, none⟩ u).ownsRow base e size (.slice (some ⟨g, 0, none⟩) n cap) n (xs.set i u) := by
  obtain ⟨h1, h2⟩ := h
  rcases h2 with ⟨h2, _⟩ | ⟨g', cap', cur, hv, hb, hg, hn, hc, hsz, ht⟩
  · cases h2
  · cases hv
    have hx : Box w g e cur := hg
    have hlen : i < cur.size := by rw [hsz]; exact Nat.lt_of_lt_of_le hi (Nat.mul_le_mul_right _ hn)
    have hci : cur[i]? = xs[i]? := by
      rw [← ht, List.getElem?_take, if_pos hi]
      simp
    refine ⟨?_, hx.frozen i, by rw [List.length_set]; exact h1, .inr ⟨g, cap, cur.setIfInBounds i u, rfl, hb, hx.set u, hn, hc, by simp [hsz], ?_⟩⟩
    · rw [← hci, Array.getElem?_eq_getElem hlen]
      exact hx.cell (by rw [Array.getElem?_eq_getElem hlen])
    · rw [← ht, Array.toList_setIfInBounds, List.take_set]
section
variable {α : Type} {base : Nat} {e : TypeId} {size : Nat} {cs : α → Array Value} {ok : α → World → Prop} {fe : α → Nat → Prop}
/-- Elements that hold no more than those that were there. -/
def lessOk (ok : α → World → Prop) (fe : α → Nat → Prop) (l l' : List α) : Prop := ∀ a ∈ l', ∃ b ∈ l, (∀ w, ok b w → ok a w) ∧ ∀ k, fe a k → fe b k
theorem Hp.rowSet {w0 w : World} {L : List HB} {K : List FK} (HP : Hp w0 w L K) (ir : Nat) {g cap i n : Nat} {l l' : List α} (hi : L[ir]? = some (rowsR base e size cs ok fe (.slice (some ⟨g, 0, none⟩) n cap) l)) (hn : l.length = n) (hlt : i < n * size) (hlen : l'.length = n) (u : Value) (hflat : flat cs l' = (flat cs l).set i u) (hless : lessOk ok fe l l') (hel : ElOk ok fe)
    (L' : List HB) (hL : L.set ir (rowsR base e size cs ok fe (.slice (some ⟨g, 0, none⟩) n cap) l') = L') : Hp w0 (w.setCell ⟨g, i, none⟩ u) L' K := by
  subst hn
  have hF := HP.held ir hi
  have ho := own_set hF.1 hlt u
  have hg : g < w.heap.size := (own_lt hF.1 g rfl).1
  have hblk : ∀ k, k ≠ g → (w.setCell ⟨g, i, none⟩ u).heap[k]? = w.heap[k]? := fun k hk => Below.heap_setCell _ _ _ _ hk
  have hsz : (w.setCell ⟨g, i, none⟩ u).heap.size = w.heap.size := by simp [World.setCell]
  refine HP.mut ir hi _ L' hL ⟨rfl, rfl, rfl, by rw [hsz]; exact Nat.le_refl _, fun k _ hk => hblk k fun e => hk (by subst e; exact .inl rfl)⟩ ⟨?_, fun a ha => ?_⟩ (rowsR_ok hel) (fun k hk => ?_) (fun k hk => ?_) (fun k hk hk' => ?_) rfl
  · rw [hlen, hflat]; exact ho.2.2
  · obtain ⟨b, hb, hba, hfe⟩ := hless a ha
    obtain ⟨hob, hfb⟩ := hF.2 b hb
    refine ⟨hba _ (hel b w _ hob (fun k hk => hblk k fun e => (hfb k hk).2 (by subst e; rfl)) (by rw [hsz]; exact Nat.le_refl _)), fun k hk => ?_⟩
    rw [hsz]
    exact hfb k (hfe k hk)
  · rw [hsz]
    rcases hk with hk | ⟨a, ha, hk⟩
    · cases hk; exact hg
    · obtain ⟨b, hb, _, hfe⟩ := hless a ha
      exact ((hF.2 b hb).2 k (hfe k hk)).1
  · rcases hk with hk | ⟨a, ha, hk⟩
    · exact .inl (.inl hk)
    · obtain ⟨b, hb, _, hfe⟩ := hless a ha
      exact .inl (.inr ⟨b, hb, hfe k hk⟩)
  · have := HP.fresh _ (List.mem_of_getElem? hi) rfl k hk'
    omega
theorem run_row {P : Program} {w0 w : World} {L : List HB} {K : List FK} (HP : Hp w0 w L K) (ir : Nat) {g cap i n : Nat} {l : List α} (hi : L[ir]? = some (rowsR base e size cs ok fe (.slice (some ⟨g, 0, none⟩) n cap) l)) (hn : l.length = n) (hlt : i < n * size) (u : Value) (h1 : one u = true) :
    (store ⟨g, i, none⟩ u).run P w = .ok () (w.setCell ⟨g, i, none⟩ u) := by
  subst hn
  have hF := HP.held ir hi
  have ho := own_set hF.1 hlt u
  have hx : (flat cs l)[i]? = some ((flat cs l)[i]'(by rw [hF.1.1]; exact hlt)) := List.getElem?_eq_getElem _
  rw [hx] at ho
  exact run_store h1 ho.1 ho.2.1
theorem one_cells {v : Value} (h : one v = true) : v.cells.size = 1 ∧ v.cells.toList = [v] := by
  cases v <;> first | exact ⟨rfl, rfl⟩ | cases h
theorem Sl.storeRow {P : Program} {ops : Array Oper} {Q : Exit → Act → World → Prop} {a : Act} {w0 w : World} {LH : List HB} {K : List FK} {rest : List Oper} {nn : Nat} {L : List (Nat × Value)} {t : TypeId} {x y : Operand} {ty : TypeId} {pos : String} {af : Array Edge} {gg : Option (Nat × Bool)} (H : Sl nn L a) (HP : Hp w0 w LH K) (ir : Nat) {g cap i n : Nat} {l l' : List α} (u : Value)
    (hc : chk0 ops L ⟨none, .store t x y, ty, pos, af, gg⟩ = true) (hx : ev L x = .pointer (some ⟨g, i, none⟩)) (hy : ev L y = u) (h1 : one u = true) (hs : sizeB P t = some 1)
    (hi : LH[ir]? = some (rowsR base e size cs ok fe (.slice (some ⟨g, 0, none⟩) n cap) l)) (hn : l.length = n) (hlt : i < n * size) (hlen : l'.length = n) (hflat : flat cs l' = (flat cs l).set i u) (hless : lessOk ok fe l l') (hel : ElOk ok fe)
    (LH' : List HB) (hL : LH.set ir (rowsR base e size cs ok fe (.slice (some ⟨g, 0, none⟩) n cap) l') = LH')
    (kk : ∀ w' a', Sl nn L a' → Hp w0 w' LH' K → wpList P ops Q rest a' w') : wpList P ops Q (⟨none, .store t x y, ty, pos, af, gg⟩ :: rest) a w := by
  obtain ⟨hd, hk, hs', hw⟩ := chk0_spec hc
  refine wpList_wanted (H.wanted hw) ?_
  have hr := run_row (P := P) HP ir hi hn hlt u h1
  obtain ⟨c1, c2⟩ := one_cells h1
  unfold Oper.wp
  rw [H.exec hk hs']
  have hst : (storeCells ⟨g, i, none⟩ [u]).run P w = .ok () (w.setCell ⟨g, i, none⟩ u) := by
    simp only [storeCells, add_plain, Nat.add_zero, Sem.run_bind, hr, Result.andThen_ok, Sem.run_pure]
  simp only [execOp, hx, hy, Instr.storeAt, Instr.sureAddr, storeVar, Sem.run_bind, Sem.run_pure, Result.andThen_ok, run_sizeOf hs, c1]
  simp only [ne_eq, not_true_eq_false, if_false, c2, hst, Result.andThen_ok, Oper.upon_skip]
  exact kk _ _ H (HP.rowSet ir hi hn hlt hlen u hflat hless hel LH' hL)
/-- The first j elements changed. -/
def upTo (f : α → α) (j : Nat) (l : List α) : List α := (l.take j).map f ++ l.drop j
theorem upTo_zero (f : α → α) (l : List α) : upTo f 0 l = l := by simp [upTo]
theorem upTo_all (f : α → α) {l : List α} {j : Nat} (h : l.length ≤ j) : upTo f j l = l.map f := by simp [upTo, List.take_of_length_le h, List.drop_of_length_le h]
theorem upTo_len (f : α → α) (j : Nat) (l : List α) : (upTo f j l).length = l.length := by simp [upTo]; omega
theorem upTo_at (f : α → α) {j : Nat} {l : List α} (h : j < l.length) : (upTo f j l)[j]? = l[j]? := by
  unfold upTo
  rw [List.getElem?_append_right (by simp; omega)]
  simp [Nat.min_eq_left (Nat.le_of_lt h)]
theorem upTo_succ (f : α → α) {j : Nat} {l : List α} {a : α} (h : l[j]? = some a) : upTo f (j + 1) l = (upTo f j l).set j (f a) := by
  have hj := (List.getElem?_eq_some_iff.1 h).1
  unfold upTo
  rw [List.set_append_right _ _ (by rw [List.length_map, List.length_take]; omega)]
  have e1 : l.take (j + 1) = l.take j ++ [a] := by rw [List.take_add_one, h]; rfl
  have e2 : l.drop j = a :: l.drop (j + 1) := by
    rw [List.drop_eq_getElem_cons hj]
    rw [List.getElem?_eq_getElem hj] at h
    cases h; rfl
  rw [e1, e2, List.map_append, List.append_assoc]
  simp [Nat.min_eq_left (Nat.le_of_lt hj)]
theorem flat_set (hk : ∀ a, (cs a).toList.length = size) {a b : α} {u : Value} {f : Nat} (hf : f < size) (hb : (cs b).toList = (cs a).toList.set f u) : ∀ {l : List α} {j : Nat}, l[j]? = some a → flat cs (l.set j b) = (flat cs l).set (j * size + f) u
  | [], j, h => by simp at h
  | x :: l, 0, h => by
    simp at h; subst h
    simp only [List.set_cons_zero, flat, List.flatMap_cons, hb, Nat.zero_mul, Nat.zero_add]
    rw [List.set_append_left _ _ (by rw [hk]; exact hf)]
  | x :: l, j + 1, h => by
    have ih := flat_set hk hf hb (l := l) (j := j) (by simpa using h)
    simp only [List.set_cons_succ, flat, List.flatMap_cons] at ih ⊢
    rw [List.set_append_right _ _ (by rw [hk, Nat.succ_mul]; omega), ih, hk]
    congr 2
    rw [Nat.succ_mul]; omega
theorem less_set {l : List α} {j : Nat} {a b : α} (h : l[j]? = some a) (h1 : ∀ w, ok a w → ok b w) (h2 : ∀ k, fe b k → fe a k) : lessOk ok fe l (l.set j b) := by
  intro x hx
  rcases List.mem_or_eq_of_mem_set hx with hx | rfl
  · exact ⟨x, hx, fun _ h => h, fun _ h => h⟩
  · exact ⟨a, List.mem_of_getElem? h, h1, h2⟩
end
section
variable {α : Type} {e : TypeId} {size : Nat} {cs : α → Array Value}
theorem own_none0 {w : World} {base bb : Nat} (h : Box w bb e ([] : List Value).toArray) (hb : base ≤ bb) : w.ownsRow base e size (.slice (some ⟨bb, 0, none⟩) 0 0) 0 [] :=
  ⟨by simp, .inr ⟨bb, 0, #[], rfl, hb, h, Nat.le_refl _, Nat.zero_le _, by simp, by simp⟩⟩
/-- append(an empty row, a whole row ..) -/
theorem Sl.pushAll {P : Program} {ops : Array Oper} {Q : Exit → Act → World → Prop} {a : Act} {w0 w : World} {LH : List HB} {K : List FK} {rest : List Oper} {n : Nat} {L : List (Nat × Value)} {s x : Operand} {t ty : TypeId} {pos : String} {af : Array Edge} {g : Option (Nat × Bool)} (H : Sl n L a) (HP : Hp w0 w LH K) (d ib : Nat) {bb : Nat} {z : Value} {bytes m c : Nat} {A : Option Addr} (l : List α)
    (hc : chk ops n L ⟨some d, .call { callee := .builtin .append, args := #[s, x], argTypes := #[t, t] }, ty, pos, af, g⟩ d = true) (ht : P.underlying t = some (.slice e)) (hinf : infoB P e = some (some z, size, bytes)) (hzs : z.cells.size = size) (hsz : Nat.blt 0 size = true)
    (hs : ev L s = .slice (some ⟨bb, 0, none⟩) 0 0) (hx : ev L x = .slice A m c) (hA : A = none → m = 0 ∧ c = 0) (hb : LH[ib]? = some (bx bb e [] true)) (hl : l.length = m) (hr : Rd w size A m (flat cs l)) (h1 : ∀ u ∈ flat cs l, u.oneCell' = true)
    (h63 : m ≤ maxLen) (hbytes : m * bytes ≤ 140737488355328)
    (k : ∀ B c' w' a', Sl n ((d, .slice B m c') :: L) a' → Hp w0 w' (LH.set ib (rowsR w0.heap.size e size cs (fun _ _ => True) (fun _ _ => False) (.slice B m c') l)) K → wpList P ops Q rest a' w') :
    wpList P ops Q (⟨some d, .call { callee := .builtin .append, args := #[s, x], argTypes := #[t, t] }, ty, pos, af, g⟩ :: rest) a w := by
  obtain ⟨hd, hn, hk, hs', hw⟩ := chk_spec hc
  have k1 := knowsAll_spec hk s (by simp [Op.operands, Call.operands])
  have k2 := knowsAll_spec hk x (by simp [Op.operands, Call.operands])
  obtain ⟨i, hi0, hi1, hi2, hi3⟩ := infoB_spec hinf
  have hbb := HP.fresh _ (List.mem_of_getElem? hb) rfl bb rfl
  have hlt := (HP.at_ ib hb).lt
  refine wpList_wanted (H.wanted hw) (wp_append_rd w s x t rfl w0.heap.size e i z size bytes ht hi0 hi1 hi2 hi3 hzs (by simp [Nat.blt] at hsz; omega) (.slice (some ⟨bb, 0, none⟩) 0 0) 0 [] ((H.eval k1).trans hs) (own_none0 (HP.at_ ib hb) hbb) A m c (flat cs l) ((H.eval k2).trans hx) hA hr h1 (by omega) (by rw [Nat.zero_add]; exact hbytes) HP.size ?_)
  intro B c' w' hown hg hat
  rw [Nat.zero_add, List.nil_append] at hown
  rw [Nat.zero_add] at hat ⊢
  simp only [hd]
  refine k B c' w' _ (H.put _ hn) (HP.mut ib hb _ _ rfl (Agree.of_grown hg fun q e => by cases e; rfl) ⟨by rw [hl]; exact hown, fun a ha => ⟨trivial, fun q hq => hq.elim⟩⟩ (rowsR_ok elOk_flat) (fun q hq => ?_) (fun q hq => ?_) (fun q hq hq' => ?_) rfl)
  · rcases hq with hq | ⟨_, _, hq⟩
    · exact (own_lt hown q hq).1
    · exact hq.elim
  · rcases hq with hq | ⟨_, _, hq⟩
    · rcases hat with hat | hat
      · rw [hat] at hq; cases hq; exact .inl rfl
      · rw [hat] at hq; cases hq; exact .inr (Nat.le_refl _)
    · exact hq.elim
  · cases hq'
    omega
end
end Go.Proofs.YtgdjpaeclicdfaaDoor
