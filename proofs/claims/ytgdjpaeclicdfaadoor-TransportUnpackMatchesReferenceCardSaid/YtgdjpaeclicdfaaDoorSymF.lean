/- Steps of a region within any fence (the round of a range over a function); regions of an act with defers. -/
import Derived.Test.YtgdjpaeclicdfaaDoorSymE
namespace Go.Proofs.YtgdjpaeclicdfaaDoor
open Go.ChangeShapes Go.WideShapes Go.ChangeAt Go.RowKit Go.Shelf
set_option linter.unusedVariables false
set_option linter.unusedSimpArgs false

section
variable {F : Fence} {P : Program} {ops : Array Oper} {Q : Exit → Act → World → Prop} {a : Act} {w w' : World} {rest : List Oper} {o : Oper} {n m : Nat} {L : List (Nat × Value)}
theorem wpListIn_wantedF (hF : ∀ f, F.fn f) (hdef : ∀ c, o.op ≠ .defer c) (hw : Region.wanted o (yielded ops a.tmps) = true) (h : o.uponIn F m P a (wpListIn F m P ops Q rest) Q ((execOp a.eval o).run P w)) : wpListIn F m P ops Q (o :: rest) a w := by
  unfold wpListIn
  rw [if_pos hw]
  refine ⟨fun f _ => hF f, ?_⟩
  rw [Oper.semAt_eq _ _ _ hdef]
  exact h
theorem Sl.valF (hF : ∀ f, F.fn f) (H : Sl n L a) (d : Nat) (v : Value) (hc : chk ops n L o d = true) (hdef : ∀ c, o.op ≠ .defer c)
    (hx : (execOp (ev L) o).run P w = .ok (.value v) w') (k : ∀ a', Sl n ((d, v) :: L) a' → wpListIn F m P ops Q rest a' w') : wpListIn F m P ops Q (o :: rest) a w := by
  obtain ⟨hd, hn, hk, hs, hw⟩ := chk_spec hc
  refine wpListIn_wantedF hF hdef (H.wanted hw) ?_
  rw [H.exec hk hs, hx]
  show wpListIn F m P ops Q rest (a.put o.dst v) w'
  rw [hd]
  exact k _ (H.put v hn)
theorem Sl.allocF (hF : ∀ f, F.fn f) {w0 : World} {LH : List HB} {K : List FK} (H : Sl n L a) (HP : Hp w0 w LH K) (d : Nat) (V : Nat → Value) (t : TypeId) (vs : List Value) (hc : chk ops n L o d = true) (hdef : ∀ c, o.op ≠ .defer c)
    (hx : ∀ w, (execOp (ev L) o).run P w = .ok (.value (V w.heap.size)) (w.alloc (.cells vs.toArray t)))
    (k : ∀ b w' a', Sl n ((d, V b) :: L) a' → Hp w0 w' (bx b t vs true :: LH) K → wpListIn F m P ops Q rest a' w') : wpListIn F m P ops Q (o :: rest) a w :=
  H.valF hF d _ hc hdef (hx w) fun a' H' => k _ _ a' H' (HP.alloc t vs)
theorem Sl.callF (hF : ∀ f, F.fn f) (H : Sl n L a) (d : Nat) {f : FuncId} {args : Array Value} {R : Ending → World → Prop} (hc : chk ops n L o d = true) (hdef : ∀ c, o.op ≠ .defer c)
    (hx : (execOp (ev L) o).run P w = .ok (.enter f args) w') (hC : CallsIn F m P f args w' R)
    (k : ∀ e w'', R e w'' → ∃ v, e = .returned v ∧ ∀ a', Sl n ((d, v) :: L) a' → wpListIn F (m + 1) P ops Q rest a' w'') : wpListIn F (m + 1) P ops Q (o :: rest) a w := by
  obtain ⟨hd, hn, hk, hs, hw⟩ := chk_spec hc
  refine wpListIn_wantedF hF hdef (H.wanted hw) ?_
  rw [H.exec hk hs, hx]
  refine ⟨fun _ => by omega, hC.mono fun e w'' he => ?_⟩
  obtain ⟨v, rfl, hv⟩ := k e w'' he
  show wpListIn F (m + 1) P ops Q rest (a.put o.dst v) w''
  rw [hd]
  exact hv _ (H.put v hn)
/-- A store into a held block. -/
theorem Sl.storeF (hF : ∀ f, F.fn f) {w0 : World} {LH : List HB} {K : List FK} {t : TypeId} {x y : Operand} {ty : TypeId} {pos : String} {af : Array Edge} {g : Option (Nat × Bool)} (H : Sl n L a) (HP : Hp w0 w LH K) (i b off k : Nat) (tb : TypeId) (us : List Value) (f : Bool) (v : Value) (LH' : List HB)
    (hc : chk0 ops L ⟨none, .store t x y, ty, pos, af, g⟩ = true) (hx : ev L x = .pointer (some ⟨b, off, none⟩)) (hy : ev L y = v) (hi : LH[i]? = some (bx b tb us f)) (hs : sizeB P t = some k) (hv : v.cells.size = k) (h1 : oneCells v.cells.toList = true) (hl : off + v.cells.toList.length ≤ us.length)
    (hL : LH.set i (bx b tb (setAll us off v.cells.toList) f) = LH')
    (kk : ∀ w' a', Sl n L a' → Hp w0 w' LH' K → wpListIn F m P ops Q rest a' w') : wpListIn F m P ops Q (⟨none, .store t x y, ty, pos, af, g⟩ :: rest) a w := by
  obtain ⟨hd, hk, hs', hw⟩ := chk0_spec hc
  refine wpListIn_wantedF hF (fun c h => by cases h) (H.wanted hw) ?_
  obtain ⟨w', hr, hw'⟩ := run_storeCells (P := P) (off := off) v.cells.toList us 0 w LH K HP hi h1 (by simpa using hl)
  rw [H.exec hk hs']
  simp only [execOp, hx, hy, Instr.storeAt, Instr.sureAddr, storeVar, Sem.run_bind, Sem.run_pure, Result.andThen_ok, run_sizeOf hs, hv]
  simp only [ne_eq, not_true_eq_false, if_false, hr, Result.andThen_ok]
  exact kk w' _ H (hL ▸ hw')
end
def moreD (ds : List Deferred) (a : Act) : Act := { a with defers := a.defers ++ ds }
theorem moreD_put (ds : List Deferred) (a : Act) (d : Option Tmp) (v : Value) : (moreD ds a).put d v = moreD ds (a.put d v) := by cases d <;> rfl
theorem letsOut_D {ds : List Deferred} {Q : Exit → Act → World → Prop} (h : LetsOut fun e a w => Q e (moreD ds a) w) : LetsOut Q := let ⟨a, w, h⟩ := h; ⟨_, w, h⟩
theorem upon_D {P : Program} {ds : List Deferred} {Q : Exit → Act → World → Prop} {o : Oper} {a : Act} {next next' : Act → World → Prop} (hn : ∀ a w, next' a w → next (moreD ds a) w) (r : Result Next)
    (h : o.upon P a next' (fun e a w => Q e (moreD ds a) w) r) : o.upon P (moreD ds a) next Q r := by
  unfold Oper.upon at h ⊢
  split at h
  · rw [moreD_put]; exact hn _ _ h
  · rw [moreD_put]; exact hn _ _ h
  · have := hn _ _ h
    rw [← moreD_put] at this
    exact this
  · refine h.mono fun e w'' he => ?_
    cases e with
    | returned v => simp only at he ⊢; rw [moreD_put]; exact hn _ _ he
    | panicked c => exact he
    | outgrown => exact letsOut_D he
  · refine h.mono fun v w'' he => ?_
    rw [moreD_put]; exact hn _ _ he
  · exact h
  · exact h.elim
theorem wpList_D {P : Program} {ops : Array Oper} {ds : List Deferred} {Q : Exit → Act → World → Prop} : ∀ (l : List Oper) (a : Act) (w : World), wpList P ops (fun e a w => Q e (moreD ds a) w) l a w → wpList P ops Q l (moreD ds a) w
  | [], a, w, h => h
  | o :: l, a, w, h => by
    unfold wpList at h ⊢
    by_cases hw : Region.wanted o (yielded ops a.tmps) = true
    · rw [if_pos hw] at h
      rw [if_pos (show Region.wanted o (yielded ops (moreD ds a).tmps) = true from hw)]
      rcases h with h | ⟨h1, h2⟩
      · exact .inl (upon_D (fun a w => wpList_D l a w) _ h)
      · exact .inr ⟨h1, letsOut_D h2⟩
    · rw [if_neg hw] at h
      rw [if_neg (show ¬ Region.wanted o (yielded ops (moreD ds a).tmps) = true from hw), moreD_put]
      exact wpList_D l _ w h
section
variable {P : Program} {fn : Func} {R : Ending → World → Prop} {a : Act} {w : World} {n : Nat} {L : List (Nat × Value)}
theorem w_enterM {f : FuncId} {c : Code} {args : List Value} (n : Nat) (L : List (Nat × Value)) (hf : P.funcs[f]? = some fn) (hb : fn.body = some c) (hn : fn.ntmps = n)
    (hle : Nat.ble args.length n = true) (hk : (L.map fun p => look p.1 (args.zipIdx.map fun p => (p.2, p.1))) = L.map fun p => some p.2) (k : ∀ a, Sl n L a → c.wp P (bodyPostM Fence.wide 20 P fn R) a w) : Calls P f args.toArray w R := by
  refine (callsIn_wide (n := 20)).1 (callsIn_of_wp_marks hf hb trivial (wpIn_wide.2 ?_) rfl)
  rw [hn]
  exact k _ (Sl.enter args n L hle hk)
theorem Sl.ret2M (H : Sl n L a) {r s : ResultVar} {v u : Value} (hr : fn.results = #[r, s]) (h : RV P w L r v) (h' : RV P w L s u) (hR : R (.returned (.tuple #[v, u])) w) : bodyPostM Fence.wide 20 P fn R .ret a w := by
  show LeavesInM Fence.wide 20 P fn a.tmps R a.defers .returning w
  rw [H.defers]
  refine ⟨_, ?_, hR⟩
  rw [results_of, hr]
  simp [h.run H, h'.run H]
theorem Sl.ret2D (H : Sl n L a) {r s : ResultVar} {v u : Value} {D : Nat} (hk : w.heap[D]? = some (.deferred (some []))) (hr : fn.results = #[r, s]) (h : RV P (w.putObj D (.deferred none)) L r v) (h' : RV P (w.putObj D (.deferred none)) L s u) (hR : R (.returned (.tuple #[v, u])) (w.putObj D (.deferred none))) :
    bodyPostM Fence.wide 20 P fn R .ret (moreD [{ target := .collected D, args := #[] }] a) w := by
  show LeavesInM Fence.wide 20 P fn a.tmps R (a.defers ++ [{ target := .collected D, args := #[] }]) .returning w
  rw [H.defers]
  refine ⟨by simp, .inl ⟨D, _, rfl, run_takeDeferred hk, ?_⟩⟩
  refine ⟨_, ?_, hR⟩
  rw [results_of, hr]
  simp [h.run H, h'.run H]
/-- The act in which the loop's variable is set. -/
theorem Sl.assigned (H : Sl n L a) (p : Nat) (x : Value) (hp : Nat.blt p n = true) : Sl n ((p, x) :: L) { tmps := ((#[p] : Array Tmp).zip #[x]).foldl (fun t (p, v) => t.setIfInBounds p v) a.tmps, defers := [] } := by
  have := H.put x hp
  refine ⟨rfl, ?_, ?_⟩
  · have := this.size
    simpa [Act.put] using this
  · have := this.get
    simpa [Act.put] using this
end
end Go.Proofs.YtgdjpaeclicdfaaDoor
