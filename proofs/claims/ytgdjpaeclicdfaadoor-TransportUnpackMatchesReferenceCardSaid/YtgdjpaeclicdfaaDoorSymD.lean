/- The walk by explicit steps: regions that draw their order. -/
import Derived.Test.YtgdjpaeclicdfaaDoorSym
namespace Go.Proofs.YtgdjpaeclicdfaaDoor
open Go.ChangeShapes Go.WideShapes Go.ChangeAt Go.RowKit
set_option linter.unusedVariables false

/-! ### Whatever order is picked: a condition S on the world holds behind every operation until number m (a store at the end of the region) has come up. -/
section
variable {P : Program} {ops : Array Oper} {Q : Exit → Act → World → Prop} {md : Region.Mode} {S : World → Prop}
/-- Number m has come up. -/
def upM (m : Nat) (listed : Array Bool) : Prop := listed.getD m false = true
theorem upM_set {m i : Nat} {listed : Array Bool} (h : i ≠ m) : upM m (listed.setIfInBounds i true) ↔ upM m listed := by
  unfold upM
  rw [Array.getD_eq_getD_getElem?, Array.getD_eq_getD_getElem?, Array.getElem?_setIfInBounds_ne h]
def wpAnyM (P : Program) (md : Region.Mode) (ops : Array Oper) (Q : Exit → Act → World → Prop) (S : World → Prop) (m : Nat) : Nat → Array Bool → Act → World → Prop
  | 0, listed, a, w => Region.ready md ops listed = [] ∧ Q .normal a w
  | fuel + 1, listed, a, w =>
    (Region.ready md ops listed = [] → Q .normal a w) ∧
    ∀ i ∈ Region.ready md ops listed, wpOp P ops Q i (fun a' w' => (upM m (listed.setIfInBounds i true) ∨ S w') ∧ wpAnyM P md ops Q S m fuel (listed.setIfInBounds i true) a' w') a w
theorem wpAny_of_M {m : Nat} : ∀ (fuel : Nat) (listed : Array Bool) (a : Act) (w : World), wpAnyM P md ops Q S m fuel listed a w → wpAny P md ops Q fuel listed a w
  | 0, _, _, _, h => h
  | fuel + 1, _, _, _, h => ⟨h.1, fun i hi => wpOp_mono (fun a' w' h' => wpAny_of_M fuel _ a' w' h'.2) (h.2 i hi)⟩
/-- Number m waits for number i. -/
def waitsFor (md : Region.Mode) (ops : Array Oper) (m i : Nat) : Bool :=
  match ops[m]? with
  | none => true
  | some om => om.after.any fun e => Region.binds md e && e.on == i
theorem not_waits {i j m : Nat} {oj : Oper} {listed : Array Bool} (hwm : waitsFor md ops m i = true) (hoj : ops[j]? = some oj) (hnot : ∀ e ∈ oj.after, Region.binds md e = true → e.on ≠ i) : j ≠ m := fun e => by
  subst e
  unfold waitsFor at hwm
  rw [hoj] at hwm
  simp only [Array.any_eq_true] at hwm
  obtain ⟨q, hq, hb⟩ := hwm
  simp only [Bool.and_eq_true, beq_iff_eq] at hb
  exact hnot _ (Array.getElem_mem hq) hb.1 hb.2
theorem not_on {i j : Nat} {oj : Oper} {listed : Array Bool} (hr : i ∈ Region.ready md ops listed) (hj : j ∈ Region.ready md ops listed) (hoj : ops[j]? = some oj) : ∀ e ∈ oj.after, Region.binds md e = true → e.on ≠ i := fun e he hb heq => by
  obtain ⟨_, oj', hoj', hall⟩ := mem_ready.1 hj
  rw [hoj] at hoj'
  cases hoj'
  have h1 := hall e he hb
  have h0 := (mem_ready.1 hr).1
  rw [heq] at h1
  rcases Nat.lt_or_ge i listed.size with h' | h'
  · simp [h'] at h0 h1; rw [h0] at h1; cases h1
  · simp [Array.getElem?_eq_none h'] at h1
/-- Number i may be taken first. r: it reads memory of which S speaks. -/
theorem wpAnyM_first {m i : Nat} {oi : Oper} {v : Value} (r : Bool) (hi : ops[i]? = some oi) (hsel : ∀ (j : Nat) (o : Oper) cs b, ops[j]? = some o → o.op ≠ .select cs b) (him : i ≠ m)
    (hU : r = true → waitsFor md ops m i = true)
    (hQ : ∀ c a w, Q (.panic c) (a.put oi.dst v) w → Q (.panic c) a w) :
    ∀ (fuel : Nat) (listed : Array Bool) (a : Act) (w : World),
      (∀ j oj, ops[j]? = some oj → j ≠ i → listed.getD j true = false → (∀ e ∈ oj.after, Region.binds md e = true → e.on ≠ i) → oi.apart ops oj = true) →
      i ∈ Region.ready md ops listed → YieldsIf P ops (fun w => r = true → S w) oi v a → (r = true → ¬ upM m listed) → (upM m listed ∨ S w) →
      wpAnyM P md ops Q S m fuel (listed.setIfInBounds i true) (a.put oi.dst v) w → wpAnyM P md ops Q S m (fuel + 1) listed a w := by
  have hUw : ∀ (listed : Array Bool) (w : World), (r = true → ¬ upM m listed) → (upM m listed ∨ S w) → (r = true → S w) := fun listed w h h' hr => h'.resolve_left (h hr)
  intro fuel
  induction fuel with
  | zero =>
    intro listed a w _ hr hy hm hS H
    refine ⟨fun h => (by rw [h] at hr; cases hr), fun j hj => ?_⟩
    by_cases hji : j = i
    · subst hji; exact hy.wpOp hi (hUw _ _ hm hS) ⟨by rw [upM_set him]; exact hS, H⟩
    · have := ready_mono hj hji
      rw [H.1] at this
      cases this
  | succ fuel ih =>
    intro listed a w hfree hr hy hm hS H
    refine ⟨fun h => (by rw [h] at hr; cases hr), fun j hj => ?_⟩
    by_cases hji : j = i
    · subst hji; exact hy.wpOp hi (hUw _ _ hm hS) ⟨by rw [upM_set him]; exact hS, H⟩
    · have h1 := H.2 j (ready_mono hj hji)
      obtain ⟨hjun, oj, hoj, _⟩ := mem_ready.1 hj
      have hnot := not_on hr hj hoj
      have h2 := wpOp_putIf hoj (hfree j oj hoj hji hjun hnot) (fun cs b => hsel i oi cs b hi) (fun cs b => hsel j oj cs b hoj) hQ hy h1
      have hfree' : ∀ k ok, ops[k]? = some ok → k ≠ i → (listed.setIfInBounds j true).getD k true = false →
          (∀ e ∈ ok.after, Region.binds md e = true → e.on ≠ i) → oi.apart ops ok = true := fun k ok hk hki hun hno => by
        refine hfree k ok hk hki ?_ hno
        by_cases hjk : j = k
        · subst hjk; exact hjun
        · rw [getD_set_ne true hjk] at hun; exact hun
      refine wpOp_mono (fun a' w' h3 => ?_) h2
      have hS' : upM m (listed.setIfInBounds j true) ∨ S w' := by
        have := h3.2.1
        rw [Array.setIfInBounds_comm _ _ (Ne.symm hji), upM_set him] at this
        exact this
      refine ⟨hS', ih (listed.setIfInBounds j true) a' w' hfree' (ready_mono hr (Ne.symm hji)) h3.1 (fun e => ?_) hS' ?_⟩
      · rw [upM_set (not_waits (listed := listed) (hU e) hoj hnot)]
        exact hm e
      · rw [Array.setIfInBounds_comm _ _ hji]
        exact h3.2.2
end
section
variable {P : Program} {ops : Array Oper} {Q : Exit → Act → World → Prop} {S : World → Prop} {a : Act} {w w' : World} {o : Oper} {n m : Nat} {L : List (Nat × Value)} {v : Value} {i fuel : Nat} {listed : Array Bool} {K : Act → World → Prop} {KB : List FK}
theorem An.start {w0 : World} {LH : List HB} {id : Nat} {l : List Oper} (S : World → Prop) (m c : Nat) (HP : Hp w0 w LH KB) (hf : P.follows .mixedOrders = true) (hm : l.length = c)
    (k : ∀ w', Hp w0 w' LH KB → wpAnyM P .any l.toArray Q S m c (Array.replicate c false) a w') : (Code.region id l.toArray true).wp P Q a w := by
  refine wp_region_any hf (wpAny_of_M (S := S) (m := m) _ _ _ _ ?_)
  have := k w.drew (HP.next ((Below.refl _ _).drew))
  subst hm
  simpa using this
/-- What is asked where number i is taken first. -/
def chkP (ops : Array Oper) (listed : Array Bool) (m i : Nat) : Bool := Region.noSelect ops && (Region.free .any ops listed i && ((Region.ready .any ops listed).contains i && !Nat.beq i m))
/-- The same, where it reads memory. -/
def chkT (ops : Array Oper) (listed : Array Bool) (m i : Nat) : Bool := waitsFor .any ops m i && (!(listed.getD m false) && chkP ops listed m i)
theorem chkP_ne {ops : Array Oper} (h : (!Nat.beq i m) = true) : i ≠ m := fun e => by subst e; simp at h
/-- Number i is taken first: it yields v in every world that meets S. -/
theorem An.val (H : Sl n L a) (hS : S w) (i d : Nat) (v : Value) (ho : ops[i]? = some o) (hc : chk ops n L o d = true) (ht : chkT ops listed m i = true) (hQ : ∀ c a w, Q (.panic c) (a.put o.dst v) w → Q (.panic c) a w)
    (hx : ∀ w, S w → (execOp (ev L) o).run P w = .ok (.value v) w) (k : ∀ a', Sl n ((d, v) :: L) a' → wpAnyM P .any ops Q S m fuel (listed.setIfInBounds i true) a' w) : wpAnyM P .any ops Q S m (fuel + 1) listed a w := by
  obtain ⟨hd, hn, hk, hs, hw⟩ := chk_spec hc
  simp only [chkT, chkP, Bool.and_eq_true] at ht
  obtain ⟨t1, t2, t3, t4, t5, t6⟩ := ht
  refine wpAnyM_first true ho (Region.noSelect_spec t3) (chkP_ne (ops := ops) t6) (fun _ => t1) hQ fuel listed a w (Region.free_spec ho t4) (by simpa using t5) (.inl ⟨H.wanted hw, fun w hw => by rw [H.exec hk hs]; exact hx w (hw rfl)⟩) (fun _ h => by unfold upM at h; rw [h] at t2; cases t2) (.inr hS) ?_
  rw [hd]
  exact k _ (H.put v hn)
theorem An.valE (H : Sl n L a) (hS : S w) (i d : Nat) (u v : Value) (ho : ops[i]? = some o) (hc : chk ops n L o d = true) (ht : chkT ops listed m i = true) (hQ : ∀ c a w, Q (.panic c) (a.put o.dst v) w → Q (.panic c) a w)
    (hx : ∀ w, S w → (execOp (ev L) o).run P w = .ok (.value u) w) (hv : u = v) (k : ∀ a', Sl n ((d, v) :: L) a' → wpAnyM P .any ops Q S m fuel (listed.setIfInBounds i true) a' w) : wpAnyM P .any ops Q S m (fuel + 1) listed a w := by
  subst hv; exact An.val H hS i d u ho hc ht hQ hx k
/-- Number i is taken first: it yields v in every world. -/
theorem An.pure (H : Sl n L a) (hS : listed.getD m false = true ∨ S w) (i d : Nat) (v : Value) (ho : ops[i]? = some o) (hc : chk ops n L o d = true) (ht : chkP ops listed m i = true) (hQ : ∀ c a w, Q (.panic c) (a.put o.dst v) w → Q (.panic c) a w)
    (hx : ∀ w, (execOp (ev L) o).run P w = .ok (.value v) w) (k : ∀ a', Sl n ((d, v) :: L) a' → wpAnyM P .any ops Q S m fuel (listed.setIfInBounds i true) a' w) : wpAnyM P .any ops Q S m (fuel + 1) listed a w := by
  obtain ⟨hd, hn, hk, hs, hw⟩ := chk_spec hc
  simp only [chkP, Bool.and_eq_true] at ht
  obtain ⟨t3, t4, t5, t6⟩ := ht
  refine wpAnyM_first false ho (Region.noSelect_spec t3) (chkP_ne (ops := ops) t6) (fun h => by cases h) hQ fuel listed a w (Region.free_spec ho t4) (by simpa using t5) (.inl ⟨H.wanted hw, fun w _ => by rw [H.exec hk hs]; exact hx w⟩) (fun h => by cases h) hS ?_
  rw [hd]
  exact k _ (H.put v hn)
theorem An.pureE (H : Sl n L a) (hS : listed.getD m false = true ∨ S w) (i d : Nat) (u v : Value) (ho : ops[i]? = some o) (hc : chk ops n L o d = true) (ht : chkP ops listed m i = true) (hQ : ∀ c a w, Q (.panic c) (a.put o.dst v) w → Q (.panic c) a w)
    (hx : ∀ w, (execOp (ev L) o).run P w = .ok (.value u) w) (hv : u = v) (k : ∀ a', Sl n ((d, v) :: L) a' → wpAnyM P .any ops Q S m fuel (listed.setIfInBounds i true) a' w) : wpAnyM P .any ops Q S m (fuel + 1) listed a w := by
  subst hv; exact An.pure H hS i d u ho hc ht hQ hx k
theorem An.skip (H : Sl n L a) (hS : listed.getD m false = true ∨ S w) (i d : Nat) (ho : ops[i]? = some o) (hc : chkSkip ops n L o d = true) (ht : chkP ops listed m i = true) (hQ : ∀ c a w, Q (.panic c) (a.put o.dst undef) w → Q (.panic c) a w)
    (k : ∀ a', Sl n ((d, undef) :: L) a' → wpAnyM P .any ops Q S m fuel (listed.setIfInBounds i true) a' w) : wpAnyM P .any ops Q S m (fuel + 1) listed a w := by
  obtain ⟨hd, hn, hw⟩ := chkSkip_spec hc
  simp only [chkP, Bool.and_eq_true] at ht
  obtain ⟨t3, t4, t5, t6⟩ := ht
  refine wpAnyM_first false ho (Region.noSelect_spec t3) (chkP_ne (ops := ops) t6) (fun h => by cases h) hQ fuel listed a w (Region.free_spec ho t4) (by simpa using t5) (.inr ⟨H.wanted hw, rfl⟩) (fun h => by cases h) hS ?_
  rw [hd]
  exact k _ (H.put undef hn)
theorem wpAnyM_all {rs : List Nat} (hr : Region.ready .any ops listed = rs) (hne : rs ≠ [])
    (h : ∀ i ∈ rs, wpOp P ops Q i (fun a' w' => ((listed.setIfInBounds i true).getD m false = true ∨ S w') ∧ wpAnyM P .any ops Q S m fuel (listed.setIfInBounds i true) a' w') a w) : wpAnyM P .any ops Q S m (fuel + 1) listed a w :=
  ⟨fun h0 => absurd (hr ▸ h0) hne, hr ▸ h⟩
theorem An.one (i : Nat) (hr : Region.ready .any ops listed = [i]) (h : wpOp P ops Q i (fun a' w' => ((listed.setIfInBounds i true).getD m false = true ∨ S w') ∧ wpAnyM P .any ops Q S m fuel (listed.setIfInBounds i true) a' w') a w) : wpAnyM P .any ops Q S m (fuel + 1) listed a w :=
  wpAnyM_all hr (by simp) fun j hj => by rcases List.mem_singleton.1 hj with rfl; exact h
theorem An.two (i j : Nat) (hr : Region.ready .any ops listed = [i, j]) (h : wpOp P ops Q i (fun a' w' => ((listed.setIfInBounds i true).getD m false = true ∨ S w') ∧ wpAnyM P .any ops Q S m fuel (listed.setIfInBounds i true) a' w') a w)
    (h' : wpOp P ops Q j (fun a' w' => ((listed.setIfInBounds j true).getD m false = true ∨ S w') ∧ wpAnyM P .any ops Q S m fuel (listed.setIfInBounds j true) a' w') a w) : wpAnyM P .any ops Q S m (fuel + 1) listed a w :=
  wpAnyM_all hr (by simp) fun k hk => by
    rcases List.mem_cons.1 hk with rfl | hk
    · exact h
    · rcases List.mem_singleton.1 hk with rfl; exact h'
theorem An.done (hr : Region.ready .any ops listed = []) (h : Q .normal a w) : wpAnyM P .any ops Q S m fuel listed a w := by
  cases fuel with
  | zero => exact ⟨hr, h⟩
  | succ fuel => exact ⟨fun _ => h, by rw [hr]; simp⟩
theorem wpOp_wanted (ho : ops[i]? = some o) (hw : Region.wanted o (yielded ops a.tmps) = true) (h : o.wp P a w K Q) : wpOp P ops Q i K a w := by
  unfold wpOp
  simp only [ho, hw, if_true]
  exact .inl h
/-- A call comes up. -/
theorem Op.call (H : Sl n L a) (d : Nat) {f : FuncId} {args : Array Value} {R : Ending → World → Prop} (ho : ops[i]? = some o) (hc : chk ops n L o d = true)
    (hx : (execOp (ev L) o).run P w = .ok (.enter f args) w') (hC : Calls P f args w' R) (k : ∀ e w'', R e w'' → ∃ v, e = .returned v ∧ ∀ a', Sl n ((d, v) :: L) a' → K a' w'') : wpOp P ops Q i K a w := by
  obtain ⟨hd, hn, hk, hs, hw⟩ := chk_spec hc
  refine wpOp_wanted ho (H.wanted hw) ?_
  unfold Oper.wp
  rw [H.exec hk hs, hx, Oper.upon_enter]
  refine hC.mono fun e w'' he => ?_
  obtain ⟨v, rfl, hv⟩ := k e w'' he
  rw [hd]
  exact hv _ (H.put v hn)
theorem Op.call0 (H : Sl n L a) {f : FuncId} {args : Array Value} {R : Ending → World → Prop} (ho : ops[i]? = some o) (hc : chk0 ops L o = true)
    (hx : (execOp (ev L) o).run P w = .ok (.enter f args) w') (hC : Calls P f args w' R) (k : ∀ e w'', R e w'' → ∃ v, e = .returned v ∧ ∀ a', Sl n L a' → K a' w'') : wpOp P ops Q i K a w := by
  obtain ⟨hd, hk, hs, hw⟩ := chk0_spec hc
  refine wpOp_wanted ho (H.wanted hw) ?_
  unfold Oper.wp
  rw [H.exec hk hs, hx, Oper.upon_enter]
  refine hC.mono fun e w'' he => ?_
  obtain ⟨v, rfl, hv⟩ := k e w'' he
  rw [hd]
  exact hv _ H
theorem Op.val (H : Sl n L a) (d : Nat) (v : Value) (ho : ops[i]? = some o) (hc : chk ops n L o d = true) (hx : (execOp (ev L) o).run P w = .ok (.value v) w') (k : ∀ a', Sl n ((d, v) :: L) a' → K a' w') : wpOp P ops Q i K a w := by
  obtain ⟨hd, hn, hk, hs, hw⟩ := chk_spec hc
  refine wpOp_wanted ho (H.wanted hw) ?_
  unfold Oper.wp
  rw [H.exec hk hs, hx, Oper.upon_value, hd]
  exact k _ (H.put v hn)
theorem Op.alloc {w0 : World} {LH : List HB} (H : Sl n L a) (HP : Hp w0 w LH KB) (d : Nat) (V : Nat → Value) (t : TypeId) (vs : List Value) (ho : ops[i]? = some o) (hc : chk ops n L o d = true)
    (hx : ∀ w, (execOp (ev L) o).run P w = .ok (.value (V w.heap.size)) (w.alloc (.cells vs.toArray t)))
    (k : ∀ b w' a', Sl n ((d, V b) :: L) a' → Hp w0 w' (bx b t vs true :: LH) KB → K a' w') : wpOp P ops Q i K a w :=
  Op.val H d _ ho hc (hx w) fun a' H' => k _ _ a' H' (HP.alloc t vs)
theorem Op.store {w0 : World} {LH : List HB} {t : TypeId} {x y : Operand} {ty : TypeId} {pos : String} {af : Array Edge} {g : Option (Nat × Bool)} (H : Sl n L a) (HP : Hp w0 w LH KB) (ib b off k : Nat) (tb : TypeId) (us : List Value) (f : Bool) (v : Value) (LH' : List HB)
    (ho : ops[i]? = some ⟨none, .store t x y, ty, pos, af, g⟩) (hc : chk0 ops L ⟨none, .store t x y, ty, pos, af, g⟩ = true) (hx : ev L x = .pointer (some ⟨b, off, none⟩)) (hy : ev L y = v) (hi : LH[ib]? = some (bx b tb us f)) (hs : sizeB P t = some k) (hv : v.cells.size = k) (h1 : oneCells v.cells.toList = true) (hl : Nat.ble (off + v.cells.toList.length) us.length = true)
    (hL : LH.set ib (bx b tb (setAll us off v.cells.toList) f) = LH')
    (kk : ∀ w' a', Sl n L a' → Hp w0 w' LH' KB → K a' w') : wpOp P ops Q i K a w := by
  obtain ⟨hd, hk, hs', hw⟩ := chk0_spec hc
  refine wpOp_wanted ho (H.wanted hw) ?_
  obtain ⟨w', hr, hw'⟩ := run_storeCells (P := P) (off := off) v.cells.toList us 0 w LH KB HP hi h1 (by simpa [Nat.ble_eq] using hl)
  unfold Oper.wp
  rw [H.exec hk hs']
  simp only [execOp, hx, hy, Instr.storeAt, Instr.sureAddr, storeVar, Sem.run_bind, Sem.run_pure, Result.andThen_ok, run_sizeOf hs, hv]
  simp only [ne_eq, not_true_eq_false, if_false, hr, Result.andThen_ok, Oper.upon_skip]
  exact kk w' _ H (hL ▸ hw')
end
/-- A row that is kept. -/
def rowK {α : Type} (k : Nat) (cs : α → Array Value) (A : Option Addr) (n : Nat) (l : List α) : FK := ⟨rowFp n A, fun w => l.length = n ∧ Rd w k A n (l.flatMap fun e => (cs e).toList)⟩
theorem rowK_ok {α : Type} (k : Nat) (cs : α → Array Value) (A : Option Addr) (n : Nat) (l : List α) : (rowK k cs A n l).ok := fun _ _ h hk hs => ⟨h.1, h.2.keep hk hs⟩
theorem ng_normal {Q : Exit → Act → World → Prop} {a : Act} {w : World} (h : Q .normal a w) : Exit.noGoto Q .normal a w := h
theorem ng_ret {Q : Exit → Act → World → Prop} {a : Act} {w : World} (h : Q .ret a w) : Exit.noGoto Q .ret a w := h
theorem ng_exit {Q : Exit → Act → World → Prop} {a : Act} {w : World} {id : Nat} (h : Q (.exit id) a w) : Exit.noGoto Q (.exit id) a w := h
theorem wide_follows : Tryd.prog.follows .mixedOrders = true := by kernel_rfl
end Go.Proofs.YtgdjpaeclicdfaaDoor
