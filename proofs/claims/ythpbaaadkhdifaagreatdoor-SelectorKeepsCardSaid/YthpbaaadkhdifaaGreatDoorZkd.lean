/- Part 4 of the proofs: SymF, TrI, TrJ, OptPlT, TrL, SpA, SpB, SpC, SpD, SymO, SymN, SymL, SymVc, SeM, SeA, SeB, SeC, SeD, SeE. -/
import Derived.Shelf.RegionOpen
import Derived.Deep.RegionHeld3
import Derived.Deep.RegionWith
import Derived.WalkLawsBesides
import Derived.Laws.MakeOwn
import Derived.Test.YthpbaaadkhdifaaGreatDoorZkc
namespace Go.Proofs.YthpbaaadkhdifaaGreatDoor
set_option maxRecDepth 100000
set_option maxHeartbeats 4000000
open Go.ChangeShapes Go.WideShapes Go.ChangeAt Go.RowKit Go.Shelf
set_option linter.unusedVariables false
set_option linter.unusedSimpArgs false
section
variable {F : Fence} {P : Program} {ops : Array Oper} {Q : Exit → Act → World → Prop} {a : Act} {w w' : World} {rest : List Oper} {o : Oper} {n m : Nat} {L : List (Nat × Value)}
theorem wpListIn_wantedF (hF : ∀ f, F.fn f) (hdef : ∀ c, o.op ≠ .defer c) (hw : Region.wanted o (yielded ops a.tmps) = true) (h : o.uponIn F m P a (wpListIn F m P ops Q rest) Q ((execOp a.eval o).run P w)) : wpListIn F m P ops Q (o :: rest) a w := by
  unfold wpListIn
  rw [if_pos hw]
  refine ⟨fun f _ => hF f, ?_⟩
  rw [Oper.semAt_eq _ _ _ hdef]
  exact h
theorem Sl.valF (hF : ∀ f, F.fn f) (H : Sl n L a) (d : Nat) (v : Value) (hc : chk ops n L o d = true) (hdef : ∀ c, o.op ≠ .defer c)
    (hx : (execOp (ev L) o).run P w = .ok (.value v) w') (k : ∀ a', Sl n ((d, v) :: L) a' → wpListIn F m P ops Q rest a' w') : wpListIn F m P ops Q (o :: rest) a w := by
  obtain ⟨hd, hn, hk, hs, hw⟩ := chk_spec hc
  refine wpListIn_wantedF hF hdef (H.wanted hw) ?_
  rw [H.exec hk hs, hx]
  show wpListIn F m P ops Q rest (a.put o.dst v) w'
  rw [hd]
  exact k _ (H.put v hn)
theorem Sl.allocF (hF : ∀ f, F.fn f) {w0 : World} {LH : List HB} {K : List FK} (H : Sl n L a) (HP : Hp w0 w LH K) (d : Nat) (V : Nat → Value) (t : TypeId) (vs : List Value) (hc : chk ops n L o d = true) (hdef : ∀ c, o.op ≠ .defer c)
    (hx : ∀ w, (execOp (ev L) o).run P w = .ok (.value (V w.heap.size)) (w.alloc (.cells vs.toArray t)))
    (k : ∀ b w' a', Sl n ((d, V b) :: L) a' → Hp w0 w' (bx b t vs true :: LH) K → wpListIn F m P ops Q rest a' w') : wpListIn F m P ops Q (o :: rest) a w :=
  H.valF hF d _ hc hdef (hx w) fun a' H' => k _ _ a' H' (HP.alloc t vs)
theorem Sl.callF (hF : ∀ f, F.fn f) (H : Sl n L a) (d : Nat) {f : FuncId} {args : Array Value} {R : Ending → World → Prop} (hc : chk ops n L o d = true) (hdef : ∀ c, o.op ≠ .defer c)
    (hx : (execOp (ev L) o).run P w = .ok (.enter f args) w') (hC : CallsIn F m P f args w' R)
    (k : ∀ e w'', R e w'' → ∃ v, e = .returned v ∧ ∀ a', Sl n ((d, v) :: L) a' → wpListIn F (m + 1) P ops Q rest a' w'') : wpListIn F (m + 1) P ops Q (o :: rest) a w := by
  obtain ⟨hd, hn, hk, hs, hw⟩ := chk_spec hc
  refine wpListIn_wantedF hF hdef (H.wanted hw) ?_
  rw [H.exec hk hs, hx]
  refine ⟨fun _ => by omega, hC.mono fun e w'' he => ?_⟩
  obtain ⟨v, rfl, hv⟩ := k e w'' he
  show wpListIn F (m + 1) P ops Q rest (a.put o.dst v) w''
  rw [hd]
  exact hv _ (H.put v hn)
theorem Sl.storeF (hF : ∀ f, F.fn f) {w0 : World} {LH : List HB} {K : List FK} {t : TypeId} {x y : Operand} {ty : TypeId} {pos : String} {af : Array Edge} {g : Option (Nat × Bool)} (H : Sl n L a) (HP : Hp w0 w LH K) (i b off k : Nat) (tb : TypeId) (us : List Value) (f : Bool) (v : Value) (LH' : List HB)
    (hc : chk0 ops L ⟨none, .store t x y, ty, pos, af, g⟩ = true) (hx : ev L x = .pointer (some ⟨b, off, none⟩)) (hy : ev L y = v) (hi : LH[i]? = some (bx b tb us f)) (hs : sizeB P t = some k) (hv : v.cells.size = k) (h1 : oneCells v.cells.toList = true) (hl : off + v.cells.toList.length ≤ us.length)
    (hL : LH.set i (bx b tb (setAll us off v.cells.toList) f) = LH')
    (kk : ∀ w' a', Sl n L a' → Hp w0 w' LH' K → wpListIn F m P ops Q rest a' w') : wpListIn F m P ops Q (⟨none, .store t x y, ty, pos, af, g⟩ :: rest) a w := by
  obtain ⟨hd, hk, hs', hw⟩ := chk0_spec hc
  refine wpListIn_wantedF hF (fun c h => by cases h) (H.wanted hw) ?_
  obtain ⟨w', hr, hw'⟩ := run_storeCells (P := P) (off := off) v.cells.toList us 0 w LH K HP hi h1 (by simpa using hl)
  rw [H.exec hk hs']
  simp only [execOp, hx, hy, Instr.storeAt, Instr.sureAddr, storeVar, Sem.run_bind, Sem.run_pure, Result.andThen_ok, run_sizeOf hs, hv]
  simp only [ne_eq, not_true_eq_false, if_false, hr, Result.andThen_ok]
  exact kk w' _ H (hL ▸ hw')
end
def moreD (ds : List Deferred) (a : Act) : Act := { a with defers := a.defers ++ ds }
theorem moreD_put (ds : List Deferred) (a : Act) (d : Option Tmp) (v : Value) : (moreD ds a).put d v = moreD ds (a.put d v) := by cases d <;> rfl
theorem letsOut_D {ds : List Deferred} {Q : Exit → Act → World → Prop} (h : LetsOut fun e a w => Q e (moreD ds a) w) : LetsOut Q := let ⟨a, w, h⟩ := h; ⟨_, w, h⟩
theorem upon_D {P : Program} {ds : List Deferred} {Q : Exit → Act → World → Prop} {o : Oper} {a : Act} {next next' : Act → World → Prop} (hn : ∀ a w, next' a w → next (moreD ds a) w) (r : Result Next)
    (h : o.upon P a next' (fun e a w => Q e (moreD ds a) w) r) : o.upon P (moreD ds a) next Q r := by
  unfold Oper.upon at h ⊢
  split at h
  · rw [moreD_put]; exact hn _ _ h
  · rw [moreD_put]; exact hn _ _ h
  · have := hn _ _ h
    rw [← moreD_put] at this
    exact this
  · refine h.mono fun e w'' he => ?_
    cases e with
    | returned v => simp only at he ⊢; rw [moreD_put]; exact hn _ _ he
    | panicked c => exact he
    | outgrown => exact letsOut_D he
  · refine h.mono fun v w'' he => ?_
    rw [moreD_put]; exact hn _ _ he
  · exact h
  · exact h.elim
theorem wpList_D {P : Program} {ops : Array Oper} {ds : List Deferred} {Q : Exit → Act → World → Prop} : ∀ (l : List Oper) (a : Act) (w : World), wpList P ops (fun e a w => Q e (moreD ds a) w) l a w → wpList P ops Q l (moreD ds a) w
  | [], a, w, h => h
  | o :: l, a, w, h => by
    unfold wpList at h ⊢
    by_cases hw : Region.wanted o (yielded ops a.tmps) = true
    · rw [if_pos hw] at h
      rw [if_pos (show Region.wanted o (yielded ops (moreD ds a).tmps) = true from hw)]
      rcases h with h | ⟨h1, h2⟩
      · exact .inl (upon_D (fun a w => wpList_D l a w) _ h)
      · exact .inr ⟨h1, letsOut_D h2⟩
    · rw [if_neg hw] at h
      rw [if_neg (show ¬ Region.wanted o (yielded ops (moreD ds a).tmps) = true from hw), moreD_put]
      exact wpList_D l _ w h
section
variable {P : Program} {fn : Func} {R : Ending → World → Prop} {a : Act} {w : World} {n : Nat} {L : List (Nat × Value)}
theorem w_enterM {f : FuncId} {c : Code} {args : List Value} (n : Nat) (L : List (Nat × Value)) (hf : P.funcs[f]? = some fn) (hb : fn.body = some c) (hn : fn.ntmps = n)
    (hle : Nat.ble args.length n = true) (hk : (L.map fun p => look p.1 (args.zipIdx.map fun p => (p.2, p.1))) = L.map fun p => some p.2) (k : ∀ a, Sl n L a → c.wp P (bodyPostM Fence.wide 20 P fn R) a w) : Calls P f args.toArray w R := by
 refine (callsIn_wide (n := 20)).1 (callsIn_of_wp_marks hf hb trivial (wpIn_wide.2 ?_) rfl)
 rw [hn]
 exact k _ (Sl.enter args n L hle hk)
theorem Sl.ret2M (H : Sl n L a) {r s : ResultVar} {v u : Value} (hr : fn.results = #[r, s]) (h : RV P w L r v) (h' : RV P w L s u) (hR : R (.returned (.tuple #[v, u])) w) : bodyPostM Fence.wide 20 P fn R .ret a w := by
  show LeavesInM Fence.wide 20 P fn a.tmps R a.defers .returning w
  rw [H.defers]
  refine ⟨_, ?_, hR⟩
  rw [results_of, hr]
  simp [h.run H, h'.run H]
theorem Sl.ret2D (H : Sl n L a) {r s : ResultVar} {v u : Value} {D : Nat} (hk : w.heap[D]? = some (.deferred (some []))) (hr : fn.results = #[r, s]) (h : RV P (w.putObj D (.deferred none)) L r v) (h' : RV P (w.putObj D (.deferred none)) L s u) (hR : R (.returned (.tuple #[v, u])) (w.putObj D (.deferred none))) :
    bodyPostM Fence.wide 20 P fn R .ret (moreD [{ target := .collected D, args := #[] }] a) w := by
  show LeavesInM Fence.wide 20 P fn a.tmps R (a.defers ++ [{ target := .collected D, args := #[] }]) .returning w
  rw [H.defers]
  refine ⟨by simp, .inl ⟨D, _, rfl, run_takeDeferred hk, ?_⟩⟩
  refine ⟨_, ?_, hR⟩
  rw [results_of, hr]
  simp [h.run H, h'.run H]
theorem Sl.assigned (H : Sl n L a) (p : Nat) (x : Value) (hp : Nat.blt p n = true) : Sl n ((p, x) :: L) { tmps := ((#[p] : Array Tmp).zip #[x]).foldl (fun t (p, v) => t.setIfInBounds p v) a.tmps, defers := [] } := by
  have := H.put x hp
  refine ⟨rfl, ?_, ?_⟩
  · have := this.size
    simpa [Act.put] using this
  · have := this.get
    simpa [Act.put] using this
end
def packP (rn rd : Int) (u : Un) : Option (List UInt8) := if rateOk rn rd && validU u then some (pktsU rn rd u).flatten else none
def packV : Option (List UInt8) → Value
 | none => .tuple #[.string (bstr []), .int .i64 180]
 | some l => .tuple #[.string (bstr l), .int .i64 0]
theorem bldU_own {β : Type} {B base b : Nat} {v : Value} {bs : List UInt8} : OwnFrom B (fun (_ : β) W => (bldU base b v bs).F W) := fun s X Y row hs hg hr => by
 have hs' := hs
 obtain ⟨h1, ⟨p, hp, hb⟩, h3, h4⟩ := hs
 refine bldU_ok base b v bs X Y hs' (fun k hk => hg.block k ?_ fun e => ?_) hg.size
 ·rcases hk with rfl | hk
  ·exact (Array.getElem?_eq_some_iff.1 hb).1
  ·exact (own_lt h3 k hk).1
 ·obtain ⟨_, o, ho, hc⟩ := hr k e.symm
  rcases hk with rfl | hk
  ·rw [hb] at ho; cases ho; cases hc
  ·rcases h3.2 with ⟨rfl, _⟩ | ⟨g, cap, cur, rfl, _, hh, _⟩
   ·cases hk
   ·cases hk
    rw [hh] at ho; cases ho; cases hc
theorem bldU_no {base b : Nat} {v : Value} {bs : List UInt8} {W : World} (h : (bldU base b v bs).F W) {k : Nat} {o : Obj} (hk : W.heap[k]? = some o) (hc : o.isCells = false) : ¬ (bldU base b v bs).fp k := fun hf => by
 obtain ⟨h1, ⟨p, hp, hb⟩, h3, h4⟩ := h
 rcases hf with rfl | hf
 ·rw [hb] at hk; cases hk; cases hc
 ·rcases h3.2 with ⟨rfl, _⟩ | ⟨g, cap, cur, rfl, _, hh, _⟩
  ·cases hf
  ·cases hf
   rw [hh] at hk; cases hk; cases hc
theorem bldU_lt {base b : Nat} {v : Value} {bs : List UInt8} {w : World} (h : (bldU base b v bs).F w) : ∀ k, (bldU base b v bs).fp k → k < w.heap.size := by
 obtain ⟨h1, ⟨p, hp, hb⟩, h3, h4⟩ := h
 intro k hk
 rcases hk with rfl | hk
 ·exact (Array.getElem?_eq_some_iff.1 hb).1
 ·exact (own_lt h3 k hk).1
theorem packets_in (r u : Array Value) (w : World) :
  Calls Tryz.prog 51 #[.agg r, .agg u] w fun e w' => e = .returned (.func (.func 85) #[] #[.pointer (some ⟨w.heap.size, 0, none⟩), .pointer (some ⟨w.heap.size + 1, 0, none⟩)]) ∧ Below w.heap.size w w' ∧ Box w' w.heap.size 58 r ∧ Box w' (w.heap.size + 1) 76 u :=
 (packets_any r u w).mono fun e w' h => by
  obtain ⟨rfl, rfl⟩ := h
  refine ⟨rfl, ((Below.refl _ w).alloc (Nat.le_refl _) _).alloc (by simp) _, (Box.new w _ _).next (Below.alloc (Below.refl _ _) (Nat.le_refl _) _), ?_⟩
  have := Box.new (w.alloc (.cells r 58)) 76 u
  simpa using this
theorem bldU_old {base b : Nat} {v : Value} {bs : List UInt8} {W : World} (h : (bldU base b v bs).F W) {k : Nat} (hk : k < base) : ¬ (bldU base b v bs).fp k := fun hf => by
 obtain ⟨h1, ⟨p, hp, hb⟩, h3, h4⟩ := h
 rcases hf with rfl | hf
 ·omega
 ·have := (own_lt h3 k hf).2
  omega
def packI (w : World) (bo Bu : Nat) (cs : Array Value) (xs : List Pk) (W : World) : Prop := (∃ v, (bldU w.heap.size bo v (xs.flatMap (·.1))).F W ∧ v.ownBlock ≠ some Bu) ∧ Below w.heap.size w W ∧ Box W Bu 76 cs
theorem packI_own {w : World} {bo B Bu : Nat} {cs : Array Value} (h0 : w.heap.size ≤ B) (h1 : w.heap.size ≤ B) : OwnFrom B (packI w bo Bu cs) := fun s X Y row hs hg hr =>
 ⟨by obtain ⟨v, hv, hn⟩ := hs.1; exact ⟨v, bldU_own (β := Unit) () X Y row hv hg hr, hn⟩, ownFrom_below (β := Unit) (Nat.le_refl _) h1 () X Y row hs.2.1 hg hr, box_own (β := Unit) _ _ _ (fun _ => cs) () X Y row hs.2.2 hg hr⟩
def packA (bo : Nat) (x : Pk) (a : Act) (W : World) : Prop := ∃ b, Box W b 143 (Lib.byteCells x.1).toArray ∧ Sl 23 [(7, .pointer (some ⟨b, 0, none⟩)), (6, .pointer (some ⟨bo, 0, none⟩))] a ∧ b ≠ bo
theorem packA_own {B bo : Nat} (x : Pk) (a : Act) : OwnFrom B (fun (_ : Unit) W => packA bo x a W) := OwnFrom.ex fun b => OwnFrom.and (box_own _ _ _ (fun _ => _)) (ownFrom_pure _ _)
theorem pk_flat_len (xs : List Pk) : (xs.flatMap (·.1)).length = 64 * xs.length := by
 induction xs with
 | nil => rfl
 | cons x l ih => rw [List.flatMap_cons, List.length_append, ih, x.2, List.length_cons]; omega
theorem pack_flat {rn rd : Int} {u : Un} {xs : List Pk} (h : xs.map (·.1) = pktsU rn rd u) : xs.flatMap (·.1) = (pktsU rn rd u).flatten := by rw [← h]; rfl
theorem pktN_pos {rn rd : Int} {u : Un} : 1 ≤ pktN (streamU rn rd u) := by
 have h8 : (clockP (ticksP rn rd u.frame).toNat).length = 5 := rfl
 unfold streamU pktN
 rw [List.length_append]
 omega
theorem pktN_le {rn rd : Int} {u : Un} (h : validU u = true) : pktN (streamU rn rd u) ≤ 13 := by
 have := streamU_len (rn := rn) (rd := rd) h
 unfold pktN
 omega
theorem pack_ne {rn rd : Int} {u : Un} (hv : validU u = true) {xs : List Pk} (h : xs.map (·.1) = pktsU rn rd u) : xs.flatMap (·.1) ≠ [] := fun e => by
 have h1 := congrArg List.length e
 have h2 := congrArg List.length h
 have h3 := pktN_pos (rn := rn) (rd := rd) (u := u)
 rw [pk_flat_len] at h1
 simp only [pktsU, List.length_map, List.length_range] at h2
 simp only [List.length_nil] at h1
 omega
theorem enc_size (x : Pk) : (Value.agg (Lib.byteCells x.1).toArray).cells.size = 64 := by
 have := byteCells_len x.1
 have := x.2
 simp [Value.cells]
 omega
theorem enc_one (x : Pk) : oneCells (Value.agg (Lib.byteCells x.1).toArray).cells.toList = true := by
 have h : ∀ l : List UInt8, oneCells (Lib.byteCells l) = true := by
  intro l
  induction l with
  | nil => rfl
  | cons a l ih => exact ih
 exact h x.1
theorem set_all : ∀ (us vs : List Value), us.length = vs.length → setAll us 0 vs = vs := by
 have key : ∀ (vs pre us : List Value), us.length = vs.length → setAll (pre ++ us) pre.length vs = pre ++ vs := by
  intro vs
  induction vs with
  | nil => intro pre us h; simp at h; subst h; rfl
  | cons v vs ih =>
   intro pre us h
   cases us with
   | nil => cases h
   | cons u us =>
    have := ih (pre ++ [v]) us (by simpa using h)
    rw [List.append_assoc, List.append_assoc, List.length_append] at this
    simp only [setAll]
    rw [show (pre ++ u :: us).set pre.length v = pre ++ v :: us by simp]
    exact this
 intro us vs h
 exact key vs [] us h
set_option maxRecDepth 100000 in
set_option maxHeartbeats 4000000 in
theorem pack_any (rn rd : Int) (u : Un) (w : World) (hL : Laid w) (hu : IsAlts w u.A u.al.length u.al) (hm : u.al.length ≤ maxLen) :
  Calls Tryz.prog 28 #[.agg #[.int .i64 rn, .int .i64 rd], u.val] w fun e w' => e = .returned (packV (packP rn rd u)) ∧ Below w.heap.size w w' := by
 have HP := Hp.start w
 refine w_enterM 23 [(0, (.agg #[(ii rn), (ii rd)])), (1, (.agg (ua u u.A u.c)))] Tryz.func28 rfl Tryz.ntmps28 (by kernel_rfl) (by kernel_rfl) fun a H => ?_
 refine wp_seq (w_region ?_)
 refine H.alloc HP 2 (fun b => (pt b 0)) 58 [(ii rn), (ii rd)] (by kernel_rfl) (fun w => by kernel_rfl) fun b_1 w_2 a H HP => H.alloc HP 3 (fun b => (pt b 0)) 76 (ul u u.A u.c) (by kernel_rfl) (fun w => by kernel_rfl) fun b_3 w_4 a H HP => ?_
 refine H.ge HP [(4, (.string (bstr ([])))), (5, (ii 0))] [] fun a H => ?_
 refine then_normal (wp_seq (wp_seq (w_region ?_)))
 refine H.go HP 1 [(8, (.agg #[(ii rn), (ii rd)]))] [1] fun a H => ?_
 refine H.call 9 (by kernel_rfl) (Eq.trans (by kernel_rfl : _ = (callFunc 49 #[(.agg #[(ii rn), (ii rd)])]).run Tryz.prog w_4) (Tryz.call49 _ _)) (tvalid_any rn rd w_4 (hL.below HP.bl)) ?_
 rintro e w_5 ⟨rfl, hbv⟩
 refine ⟨_, rfl, ?_⟩
 intro a H
 have HP := HP.next hbv
 refine H.go HP 2 [(11, (.bool (!(rateOk rn rd))))] [] fun a H => ?_
 refine H.split 11 rfl (fun g11 H => ?_) (fun g11 H => ?_)
 ·have g11p := not_is_true g11
  refine H.ge HP [(15, (.bool true))] [] fun a H => ?_
  refine then_normal ?_
  refine w_ift H rfl ?_
  refine wp_seq (w_region ?_)
  refine H.ge HP [(4, (.string (bstr ([])))), (5, (ii 180))] [] fun a H => ?_
  refine then_normal (wp_ret (then_ret ?_))
  refine H.ret2M (fn := Tryz.f28) Tryz.results28 (RV.tmp_ (v := (.string (bstr ([])))) (by kernel_rfl)) (RV.tmp_ (v := (ii 180)) (by kernel_rfl)) ?_
  exact ⟨by unfold packP; rw [if_neg (by simp [g11p])]; rfl, HP.bl⟩
 have g11p := not_is_false g11
 refine H.go HP 1 [(12, (.agg (ua u u.A u.c)))] [0] fun a H => ?_
 refine H.call 13 (by kernel_rfl) (Eq.trans (by kernel_rfl : _ = (callFunc 50 #[(.agg (ua u u.A u.c))]).run Tryz.prog w_5) (Tryz.call50 _ _)) (uvalid_any u w_5 (hu.below HP.bl) hm) ?_
 rintro e w_6 ⟨rfl, hbw⟩
 refine ⟨_, rfl, ?_⟩
 intro a H
 have HP := HP.next hbw
 refine H.ge HP [(15, (.bool (!(validU u))))] [] fun a H => ?_
 refine then_normal ?_
 refine w_if H rfl (fun g15 => ?_) (fun g15 => ?_)
 ·have g15p := not_is_true g15
  refine wp_seq (w_region ?_)
  refine H.ge HP [(4, (.string (bstr ([])))), (5, (ii 180))] [] fun a H => ?_
  refine then_normal (wp_ret (then_ret ?_))
  refine H.ret2M (fn := Tryz.f28) Tryz.results28 (RV.tmp_ (v := (.string (bstr ([])))) (by kernel_rfl)) (RV.tmp_ (v := (ii 180)) (by kernel_rfl)) ?_
  exact ⟨by unfold packP; rw [if_neg (by simp [g11p, g15p])]; rfl, HP.bl⟩
 have g15p := not_is_false g15
 refine wp_skip (then_normal (wp_seq (w_region ?_)))
 refine H.alloc HP 6 (fun b => (pt b 0)) 138 [(.pointer none), (.slice none 0 0)] (by kernel_rfl) (fun w => by kernel_rfl) fun b_7 w_8 a H HP => ?_
 refine wpList_nil (then_normal (wp_seq (wp_seq (w_region ?_))))
 refine H.go HP 2 [(16, (.agg #[(ii rn), (ii rd)])), (17, (.agg (ua u u.A u.c)))] [2, 1] fun a H => ?_
 have hbo8 := (HP.at_ 0 rfl).lt
 refine H.call 18 (by kernel_rfl) (Eq.trans (by kernel_rfl : _ = (callFunc 51 #[(.agg #[(ii rn), (ii rd)]), (.agg (ua u u.A u.c))]).run Tryz.prog w_8) (Tryz.call51 _ _)) (packets_in _ _ w_8) ?_
 rintro e w_9 ⟨rfl, hbp, hBr, hBu⟩
 refine ⟨_, rfl, ?_⟩
 intro a H
 have HP := HP.next hbp
 refine wpList_nil (then_normal (wp_block ?_))
 have hbelW := HP.bl
 have hbo := HP.at_ 0 rfl
 have hbos := HP.fresh _ (List.mem_of_getElem? (show ([bx b_7 138 [(.pointer none), (.slice none 0 0)] true, bx b_3 76 (ul u u.A u.c) true, bx b_1 58 [(ii rn), (ii rd)] true] : List HB)[0]? = some _ from rfl)) rfl _ rfl
 have hrv : rateOk rn rd = true := by assumption
 have hvv : validU u = true := by assumption
 have hBul := hBu.lt
 have hsz := hbp.size
 have hfun : a.eval (.tmp 18) = (.func (.func 85) #[] #[(.pointer (some ⟨w_8.heap.size, 0, none⟩)), (.pointer (some ⟨w_8.heap.size + 1, 0, none⟩))]) := H.eval (by kernel_rfl)
 have hbos2 := hbelW.size
 have hbow := hbo.lt
 generalize hBue : w_8.heap.size + 1 = Bu at hBu hfun hBul
 generalize hBre : w_8.heap.size = Br at hBr hfun
 have H := H.keep (L' := [(6, (pt b_7 0))]) (by kernel_rfl)
 clear HP
 refine (wpIn_wide (n := 20)).1 ?_
 refine wpIn_rangeO (F := Fence.wide) rfl (by omega) (gf := 85) (lb := #[.pointer (some ⟨Br, 0, none⟩), .pointer (some ⟨Bu, 0, none⟩)]) hfun trivial (enters_of Tryz.func85 (by kernel_rfl) rfl) (packets_seq 19 Br Bu rn rd u w_9 (hL.below hbelW) hrv (hu.below hbelW) hvv hBr hBu) KpU.trans (fun W l o o' h1 h2 _ _ _ => KpU.put W l o o' (by omega)) (fun _ => rfl)
  (packI w b_7 Bu u.cells) (fun _ _ _ => False) (packI_own (by omega) hbelW.size) (fun _ s X Y row h _ _ => h) ⟨⟨.slice none 0 0, ⟨hbos, ⟨_, .inl rfl, hbo⟩, World.ownsRow_nil _ _ _ _, fun h => (by cases h)⟩, fun h => (by cases h)⟩, hbelW, hBu⟩
  (packA b_7) (fun x y => packA_own x y) ?assign ?body ?done (fun _ _ _ _ _ _ h => h.elim)
 case assign =>
  rintro l' pre x W K ⟨⟨v, hb, hvB⟩, hbel, hBW⟩ hK
  have hbo2 := (Array.getElem?_eq_some_iff.1 hb.2.1.choose_spec.2).1
  have hsW := hbel.size
  have H := H.assigned 19 (.agg (Lib.byteCells x.1).toArray) (by kernel_rfl)
  refine wpIn_region_lit ?_
  refine H.allocF (fun _ => trivial) (Hp.start W) 7 (fun b => .pointer (some ⟨b, 0, none⟩)) 143 (List.replicate 64 (.int .u8 0)) (by kernel_rfl) (fun c h => by cases h) (fun w => by kernel_rfl) fun b W1 a1 H HP => ?_
  have hfr := HP.fresh _ (List.mem_cons_self ..) rfl _ rfl
  have hone := enc_one x
  have hszx := enc_size x
  refine H.storeF (fun _ => trivial) HP 0 b 0 64 143 (List.replicate 64 (.int .u8 0)) true (.agg (Lib.byteCells x.1).toArray) [bx b 143 (Lib.byteCells x.1) true] (by kernel_rfl) (by kernel_rfl) (by kernel_rfl) (by kernel_rfl) (by kernel_rfl) hszx hone (by simp [Value.cells, byteCells_len, x.2]) ?_ ?_
  ·rw [show (Value.agg (Lib.byteCells x.1).toArray).cells.toList = Lib.byteCells x.1 from rfl, set_all _ _ (by simp [byteCells_len, x.2])]; rfl
  intro W2 a2 H HP
  refine wpListIn_nil ?_
  have hb2 := HP.below (by kernel_rfl)
  exact hK _ _ (keepsFrom_below hb2) (KpU.below hb2 hBW.lt) ⟨⟨v, bldU_ok _ _ _ _ _ _ hb (fun k hk => hb2.block k (bldU_lt hb k hk)) hb2.size, hvB⟩, hbel.trans (hb2.mono hsW), hBW.next hb2⟩ ⟨b, HP.at_ 0 rfl, H.keep (by kernel_rfl), by omega⟩
 case body =>
  rintro l' pre x a' W ⟨⟨v, hb, hvB⟩, hbel, hBW⟩ ⟨b, hx, H, hne⟩ hlen
  have hn13 := pktN_le (rn := rn) (rd := rd) hvv
  have hfl := pk_flat_len pre
  have hsW := hbel.size
  refine wpIn_block ?_
  refine wpIn_region_lit ?_
  refine H.valF (fun _ => trivial) 20 (.slice (some ⟨b, 0, none⟩) 64 64) (by kernel_rfl) (fun c h => by cases h) (ex_arrslice (n := 64) (e := 5) (sz := 1) (by kernel_rfl) (by kernel_rfl) (by omega) (by kernel_rfl)) fun a H => ?_
  have hR : Rd W 1 (some ⟨b, 0, none⟩) x.1.length (Lib.byteCells x.1) := Rd.of_box hx (by rw [byteCells_len]; omega)
  have hcall := write_any w.heap.size b_7 v (pre.flatMap (·.1)) x.1 (some ⟨b, 0, none⟩) 64 W hb (fun h => by cases h) hR (fun g o h => by cases h; exact hne) (by rw [hfl, x.2]; omega) hsW
  rw [x.2] at hcall
  refine H.callF (m := 17) (fun _ => trivial) 21 (by kernel_rfl) (fun c h => by cases h) (Eq.trans (by kernel_rfl : _ = (callFunc 52 #[.pointer (some ⟨b_7, 0, none⟩), .slice (some ⟨b, 0, none⟩) 64 64]).run Tryz.prog W) (Tryz.call52 _ _)) (CallsIn.inRound l' (callsIn_wide.2 hcall)) ?_
  rintro e W2 ⟨rfl, v2, hb2, hag, hv2⟩
  refine ⟨_, rfl, ?_⟩
  intro a H
  refine wpListIn_nil ?_
  refine inb_normal ?_
  have hkb : W2.heap[Bu]? = W.heap[Bu]? := hag.block Bu hBW.lt (fun h => h.elim (fun h => by omega) (fun h => hvB h))
  refine ⟨⟨hag.size, fun k o _ hk hc => (hag.block k (Array.getElem?_eq_some_iff.1 hk).1 (bldU_no hb hk hc)).trans hk⟩, ⟨hag.size, hkb⟩, ⟨v2, by rw [List.flatMap_append, List.flatMap_cons, List.flatMap_nil, List.append_nil]; exact hb2, fun h => (hv2 Bu h).elim hvB (fun h => by have := hBW.lt; omega)⟩, hbel.trans ⟨hag.os, hag.tape, hag.output, hag.size, fun k hk => hag.block k (Nat.lt_of_lt_of_le hk hsW) (bldU_old hb hk)⟩, hkb.trans hBW⟩
 case done =>
  rintro D xs W' hD hS ⟨⟨v, hb, hvB⟩, hbl, _⟩ hdef
  rw [show ({ a with defers := { target := .collected D, args := #[] } :: a.defers } : Act) = moreD [{ target := .collected D, args := #[] }] a from by simp [moreD, H.defers]]
  have hnil : xs.flatMap (·.1) ≠ [] := pack_ne hvv hS
  refine inb_normal (then_normal (wp_seq (w_region ?_)))
  refine wpList_D _ _ _ ?_
  refine H.call 22 (by kernel_rfl) (Eq.trans (by kernel_rfl : _ = (callFunc 53 #[.pointer (some ⟨b_7, 0, none⟩)]).run Tryz.prog W') (Tryz.call53 _ _)) (str_any w.heap.size b_7 v _ W' (bldU_R hb) hnil) ?_
  rintro e W2 ⟨rfl, hb2, hag⟩
  refine ⟨_, rfl, ?_⟩
  intro a H
  refine H.v 4 (.string (bstr (xs.flatMap (·.1)))) fun a H => H.v 5 (ii 0) fun a H => ?_
  refine wpList_nil (then_normal (wp_ret ?_))
  have hd2 : W2.heap[D]? = some (.deferred (some [])) := (hag.block D (Array.getElem?_eq_some_iff.1 hdef).1 (bldU_no hb hdef rfl)).trans hdef
  refine H.ret2D hd2 (fn := Tryz.f28) Tryz.results28 (RV.tmp_ (v := .string (bstr (xs.flatMap (·.1)))) (by kernel_rfl)) (RV.tmp_ (v := .int .i64 0) (by kernel_rfl)) ?_
  have hfin : Below w.heap.size w W2 := hbl.trans ⟨hag.os, hag.tape, hag.output, hag.size, fun k hk => hag.block k (Nat.lt_of_lt_of_le hk hbl.size) (bldU_old hb hk)⟩
  refine ⟨by unfold packP; rw [hrv, hvv, pack_flat hS]; rfl, hfin.trans (belowK_b (w := w) (Nat.le_refl _) _ D _ _ (by have := hbelW.size; omega) hd2 rfl rfl)⟩
def zeroU : Un := ⟨0, 0, 0, 0, 0, false, [], 0, 0, [], 0, 0, none, 0, []⟩
theorem packV_eq (Z : Option (List UInt8)) : packV Z = .tuple #[.string (bstr (Z.getD [])), .int .i64 (if Z.isSome = true then 0 else 180)] := by cases Z <;> rfl
def readU (s : List UInt8) : Un × Bool × Int :=
 let a1 := rnum s (5, false)
 let a2 := rnum s a1.2
 let a3 := rnum s a2.2
 let a4 := rnum s a3.2
 let a5 := rnum s a4.2
 let a6 := rnum s a5.2
 let a7 := rtxt s a6.2
 let a8 := rnum s a7.2
 let a9 := rnum s a8.2
 let a10 := rtxt s a9.2
 let a11 := rtxt s a10.2
 let o := decP a11.1
 (⟨a1.1, a2.1, a3.1, a4.1, a5.1, a6.1 == 1, a7.1, a8.1, a9.1, a10.1, o.1.s, o.1.f, none, 0, o.1.al⟩, a11.2.2, o.2)
def unpackP (rn rd : Int) (l : List UInt8) : Option Un := match streamP l with
 | none => none
 | some s => if s.length < 5 then none else if (readU s).2.1 = true ∨ (readU s).2.2 ≠ 0 then none else if packP rn rd (readU s).1 = some l then some (readU s).1 else none
def RetUn (r : Option Un) (w : World) (e : Ending) (w' : World) : Prop := match r with
 | none => e = .returned (.tuple #[zeroU.val, .int .i64 180]) ∧ Below w.heap.size w w'
 | some u => ∃ B c, e = .returned (.tuple #[({ u with A := B, c := c } : Un).val, .int .i64 0]) ∧ IsAlts w' B u.al.length u.al ∧ u.al.length ≤ c ∧ c ≤ maxLen ∧ (B = none → c = 0) ∧ (∀ b off, B = some ⟨b, off, none⟩ → w.heap.size ≤ b) ∧ Below w.heap.size w w'
theorem retUn_none {r : Option Un} {w w' : World} {e : Ending} (hr : r = none) (he : e = .returned (.tuple #[zeroU.val, .int .i64 180])) (hb : Below w.heap.size w w') : RetUn r w e w' := by subst hr; exact ⟨he, hb⟩
theorem retUn_some {r : Option Un} {w w' : World} {e : Ending} {u : Un} (hr : r = some u) (B : Option Addr) (c : Nat) (he : e = .returned (.tuple #[({ u with A := B, c := c } : Un).val, .int .i64 0])) (h1 : IsAlts w' B u.al.length u.al) (h2 : u.al.length ≤ c) (h3 : c ≤ maxLen) (h4 : B = none → c = 0) (h5 : ∀ b off, B = some ⟨b, off, none⟩ → w.heap.size ≤ b) (hb : Below w.heap.size w w') : RetUn r w e w' := by
 subst hr; exact ⟨B, c, he, h1, h2, h3, h4, h5, hb⟩
theorem unpack_nos {rn rd : Int} {l : List UInt8} (hX : streamP l = none) : unpackP rn rd l = none := by unfold unpackP; rw [hX]
theorem unpack_short {rn rd : Int} {l s : List UInt8} (hX : streamP l = some s) (h : ¬ 5 ≤ s.length) : unpackP rn rd l = none := by unfold unpackP; rw [hX]; simp only; rw [if_pos (by omega)]
theorem unpack_bad {rn rd : Int} {l s : List UInt8} {u : Un} {q : Bool} {c : Int} (hX : streamP l = some s) (hR : readU s = (u, q, c)) (h : q = true ∨ c ≠ 0) : unpackP rn rd l = none := by
 unfold unpackP; rw [hX]; simp only [hR]; rw [if_pos h, ite_self]
theorem unpack_diff {rn rd : Int} {l s : List UInt8} {u : Un} {q : Bool} {c : Int} (hX : streamP l = some s) (hR : readU s = (u, q, c)) (h : packP rn rd u ≠ some l) : unpackP rn rd l = none := by
 unfold unpackP; rw [hX]; simp only [hR]; rw [if_neg h, ite_self, ite_self]
theorem unpack_ok {rn rd : Int} {l s : List UInt8} {u : Un} {q : Bool} {c : Int} (hX : streamP l = some s) (hR : readU s = (u, q, c)) (h5 : 5 ≤ s.length) (hq : q = false) (hc : c = 0) (h : packP rn rd u = some l) : unpackP rn rd l = some u := by
 unfold unpackP; rw [hX]; simp only [hR]; rw [if_neg (by omega), if_neg (by simp [hq, hc]), if_pos h]
theorem stream_len {l s : List UInt8} (h : streamP l = some s) (hl : l.length ≤ 1000000) : s.length ≤ 9000000000000000000 := by
 unfold streamP at h
 split at h
 ·cases h
 ·next hc =>
  cases h
  have := payTo_len (l := l) (j := l.length / 64) (by simpa using fun hh => hc (.inr (.inr hh)))
  omega
theorem rnum_le {s : List UInt8} {q : Nat × Bool} (h : q.1 ≤ s.length) : (rnum s q).2.1 ≤ s.length := by
 unfold rnum
 split
 ·exact h
 ·cases hr : rdInt s q.1 with
  | none => exact h
  | some p => exact (rdInt_le h hr).2
theorem rtxt_le {s : List UInt8} {q : Nat × Bool} (h : q.1 ≤ s.length) : (rtxt s q).2.1 ≤ s.length := by
 unfold rtxt
 split
 ·exact h
 ·cases hr : rdStr s q.1 with
  | none => exact h
  | some p =>
   unfold rdStr at hr
   cases hi : rdInt s q.1 with
   | none => rw [hi] at hr; cases hr
   | some x =>
    rw [hi] at hr
    simp only at hr
    split at hr
    ·cases hr
    ·cases hr; simp only; omega
theorem rtxt_len {s : List UInt8} {q : Nat × Bool} : (rtxt s q).1.length ≤ s.length := by
 unfold rtxt
 split
 ·exact Nat.zero_le _
 ·cases hr : rdStr s q.1 with
  | none => exact Nat.zero_le _
  | some p =>
   unfold rdStr at hr
   cases hi : rdInt s q.1 with
   | none => rw [hi] at hr; cases hr
   | some x =>
    rw [hi] at hr
    simp only at hr
    split at hr
    ·cases hr
    ·cases hr; simp only [List.length_take, List.length_drop]; omega
set_option maxRecDepth 100000 in
set_option maxHeartbeats 4000000 in
theorem unpack_none (rn rd : Int) (l : List UInt8) (w : World) (hL : Laid w) (hl : l.length ≤ 1000000) (hX : streamP l = none) :
  Calls Tryz.prog 122 #[.agg #[.int .i64 rn, .int .i64 rd], .string (bstr l)] w (RetUn (unpackP rn rd l) w) := by
 have HP := Hp.start w
 refine w_enter 78 [(0, (.agg #[(ii rn), (ii rd)])), (1, (.string (bstr l)))] Tryz.func122 rfl Tryz.ntmps122 (by kernel_rfl) (by kernel_rfl) fun a H => ?_
 refine wp_seq (w_region ?_)
 refine H.alloc HP 2 (fun b => (pt b 0)) 58 [(ii rn), (ii rd)] (by kernel_rfl) (fun w => by kernel_rfl) fun b_1 w_2 a H HP => H.alloc HP 4 (fun b => (pt b 0)) 76 [(ii 0), (ii 0), (ii 0), (ii 0), (ii 0), (.bool false), (.string (bstr ([]))), (ii 0), (ii 0), (.string (bstr ([]))), (ii 0), (ii 0), (.slice none 0 0)] (by kernel_rfl) (fun w => by kernel_rfl) fun b_3 w_4 a H HP => ?_
 refine H.ge HP [(5, (ii 0))] [] fun a H => ?_
 refine then_normal (wp_seq (w_region ?_))
 refine H.go HP 1 [(14, (.string (bstr l)))] [] fun a H => ?_
 refine H.call 15 (by kernel_rfl) (Eq.trans (by kernel_rfl : _ = (callFunc 167 #[(.string (bstr l))]).run Tryz.prog w_4) (Tryz.call167 _ _)) ((by have hh := stream_any l w_4 hl; rw [hX] at hh; exact hh)) ?_
 rintro e w_5 ⟨rfl, hb⟩
 refine ⟨_, rfl, ?_⟩
 intro a H
 have HP := HP.next hb
 refine H.ge HP [(6, (.string (bstr ([])))), (7, (.bool false))] [] fun a H => ?_
 refine then_normal (wp_seq (wp_seq (w_region ?_)))
 refine H.ge HP [(24, (.bool true))] [] fun a H => ?_
 refine then_normal ?_
 refine w_ift H rfl ?_
 refine wp_seq (w_region ?_)
 refine H.go HP 1 [(25, (.agg #[(ii 0), (ii 0), (ii 0), (ii 0), (ii 0), (.bool false), (.string (bstr ([]))), (ii 0), (ii 0), (.string (bstr ([]))), (ii 0), (ii 0), (.slice none 0 0)]))] [] fun a H => H.sh HP 0 0 (.agg #[(ii 0), (ii 0), (ii 0), (ii 0), (ii 0), (.bool false), (.string (bstr ([]))), (ii 0), (ii 0), (.string (bstr ([]))), (ii 0), (ii 0), (.slice none 0 0)]) rfl fun w_6 a H HP => ?_
 refine H.ge HP [(5, (ii 180))] [] fun a H => ?_
 refine then_normal (wp_ret (then_ret ?_))
 refine H.ret2 (fn := Tryz.f122) Tryz.results122 (RV.cellN (vs := [(ii 0), (ii 0), (ii 0), (ii 0), (ii 0), (.bool false), (.string (bstr ([]))), (ii 0), (ii 0), (.string (bstr ([]))), (ii 0), (ii 0), (.slice none 0 0)]) (b := b_3) (off := 0) (k := 13) (by kernel_rfl) (by kernel_rfl) (by kernel_rfl) rfl (HP.cells 0 rfl 0 13 (by kernel_rfl))) (RV.tmp_ (v := (ii 180)) (by kernel_rfl)) ?_
 exact retUn_none (unpack_nos hX) rfl HP.bl
set_option maxRecDepth 100000 in
set_option maxHeartbeats 4000000 in
theorem unpack_short1 (rn rd : Int) (l : List UInt8) (w : World) (hL : Laid w) (hl : l.length ≤ 1000000) (s : List UInt8) (hX : streamP l = some s) (hs5 : ¬ 5 ≤ s.length) :
  Calls Tryz.prog 122 #[.agg #[.int .i64 rn, .int .i64 rd], .string (bstr l)] w (RetUn (unpackP rn rd l) w) := by
 have HP := Hp.start w
 refine w_enter 78 [(0, (.agg #[(ii rn), (ii rd)])), (1, (.string (bstr l)))] Tryz.func122 rfl Tryz.ntmps122 (by kernel_rfl) (by kernel_rfl) fun a H => ?_
 refine wp_seq (w_region ?_)
 refine H.alloc HP 2 (fun b => (pt b 0)) 58 [(ii rn), (ii rd)] (by kernel_rfl) (fun w => by kernel_rfl) fun b_1 w_2 a H HP => H.alloc HP 4 (fun b => (pt b 0)) 76 [(ii 0), (ii 0), (ii 0), (ii 0), (ii 0), (.bool false), (.string (bstr ([]))), (ii 0), (ii 0), (.string (bstr ([]))), (ii 0), (ii 0), (.slice none 0 0)] (by kernel_rfl) (fun w => by kernel_rfl) fun b_3 w_4 a H HP => ?_
 refine H.ge HP [(5, (ii 0))] [] fun a H => ?_
 refine then_normal (wp_seq (w_region ?_))
 refine H.go HP 1 [(14, (.string (bstr l)))] [] fun a H => ?_
 refine H.call 15 (by kernel_rfl) (Eq.trans (by kernel_rfl : _ = (callFunc 167 #[(.string (bstr l))]).run Tryz.prog w_4) (Tryz.call167 _ _)) ((by have hh := stream_any l w_4 hl; rw [hX] at hh; exact hh)) ?_
 rintro e w_5 ⟨rfl, hb⟩
 refine ⟨_, rfl, ?_⟩
 intro a H
 have HP := HP.next hb
 refine H.ge HP [(6, (.string (bstr s))), (7, (.bool true))] [] fun a H => ?_
 refine then_normal (wp_seq (wp_seq (w_region ?_)))
 refine H.go HP 5 [(20, (.bool false)), (22, (ii s.length))] [] fun a H => H.valE 23 (.bool (decide ((s.length : Int) < 5))) (.bool true) (by kernel_rfl) (by kernel_rfl) (congrArg Value.bool (decide_eq_true (by omega))) fun a H => ?_
 refine H.ge HP [(24, (.bool true))] [] fun a H => ?_
 refine then_normal ?_
 refine w_ift H rfl ?_
 refine wp_seq (w_region ?_)
 refine H.go HP 1 [(25, (.agg #[(ii 0), (ii 0), (ii 0), (ii 0), (ii 0), (.bool false), (.string (bstr ([]))), (ii 0), (ii 0), (.string (bstr ([]))), (ii 0), (ii 0), (.slice none 0 0)]))] [] fun a H => H.sh HP 0 0 (.agg #[(ii 0), (ii 0), (ii 0), (ii 0), (ii 0), (.bool false), (.string (bstr ([]))), (ii 0), (ii 0), (.string (bstr ([]))), (ii 0), (ii 0), (.slice none 0 0)]) rfl fun w_6 a H HP => ?_
 refine H.ge HP [(5, (ii 180))] [] fun a H => ?_
 refine then_normal (wp_ret (then_ret ?_))
 refine H.ret2 (fn := Tryz.f122) Tryz.results122 (RV.cellN (vs := [(ii 0), (ii 0), (ii 0), (ii 0), (ii 0), (.bool false), (.string (bstr ([]))), (ii 0), (ii 0), (.string (bstr ([]))), (ii 0), (ii 0), (.slice none 0 0)]) (b := b_3) (off := 0) (k := 13) (by kernel_rfl) (by kernel_rfl) (by kernel_rfl) rfl (HP.cells 0 rfl 0 13 (by kernel_rfl))) (RV.tmp_ (v := (ii 180)) (by kernel_rfl)) ?_
 exact retUn_none (unpack_short hX hs5) rfl HP.bl
set_option maxRecDepth 100000 in
set_option maxHeartbeats 4000000 in
theorem unpack_long (rn rd : Int) (l : List UInt8) (w : World) (hL : Laid w) (hl : l.length ≤ 1000000) (s : List UInt8) (hX : streamP l = some s) (hs5 : 5 ≤ s.length) :
  Calls Tryz.prog 122 #[.agg #[.int .i64 rn, .int .i64 rd], .string (bstr l)] w (RetUn (unpackP rn rd l) w) := by
 have HP := Hp.start w
 have hsl := stream_len hX hl
 obtain ⟨q0, hq0⟩ : ∃ q : Nat × Bool, q = (5, false) := ⟨_, rfl⟩
 have hk0 : q0.1 ≤ s.length := by rw [hq0]; exact hs5
 obtain ⟨n1, q1, h1⟩ : ∃ n q, rnum s q0 = (n, q) := ⟨_, _, rfl⟩
 have hk1 : q1.1 ≤ s.length := by have := rnum_le hk0; rw [h1] at this; exact this
 obtain ⟨n2, q2, h2⟩ : ∃ n q, rnum s q1 = (n, q) := ⟨_, _, rfl⟩
 have hk2 : q2.1 ≤ s.length := by have := rnum_le hk1; rw [h2] at this; exact this
 obtain ⟨n3, q3, h3⟩ : ∃ n q, rnum s q2 = (n, q) := ⟨_, _, rfl⟩
 have hk3 : q3.1 ≤ s.length := by have := rnum_le hk2; rw [h3] at this; exact this
 obtain ⟨n4, q4, h4⟩ : ∃ n q, rnum s q3 = (n, q) := ⟨_, _, rfl⟩
 have hk4 : q4.1 ≤ s.length := by have := rnum_le hk3; rw [h4] at this; exact this
 obtain ⟨n5, q5, h5⟩ : ∃ n q, rnum s q4 = (n, q) := ⟨_, _, rfl⟩
 have hk5 : q5.1 ≤ s.length := by have := rnum_le hk4; rw [h5] at this; exact this
 obtain ⟨n6, q6, h6⟩ : ∃ n q, rnum s q5 = (n, q) := ⟨_, _, rfl⟩
 have hk6 : q6.1 ≤ s.length := by have := rnum_le hk5; rw [h6] at this; exact this
 obtain ⟨n7, q7, h7⟩ : ∃ n q, rtxt s q6 = (n, q) := ⟨_, _, rfl⟩
 have hk7 : q7.1 ≤ s.length := by have := rtxt_le hk6; rw [h7] at this; exact this
 obtain ⟨n8, q8, h8⟩ : ∃ n q, rnum s q7 = (n, q) := ⟨_, _, rfl⟩
 have hk8 : q8.1 ≤ s.length := by have := rnum_le hk7; rw [h8] at this; exact this
 obtain ⟨n9, q9, h9⟩ : ∃ n q, rnum s q8 = (n, q) := ⟨_, _, rfl⟩
 have hk9 : q9.1 ≤ s.length := by have := rnum_le hk8; rw [h9] at this; exact this
 obtain ⟨n10, q10, h10⟩ : ∃ n q, rtxt s q9 = (n, q) := ⟨_, _, rfl⟩
 have hk10 : q10.1 ≤ s.length := by have := rtxt_le hk9; rw [h10] at this; exact this
 obtain ⟨n11, q11, h11⟩ : ∃ n q, rtxt s q10 = (n, q) := ⟨_, _, rfl⟩
 have hk11 : q11.1 ≤ s.length := by have := rtxt_le hk10; rw [h11] at this; exact this
 have hn11 : n11.length ≤ s.length := by have := rtxt_len (s := s) (q := q10); rw [h11] at this; exact this
 have hsz11 : (bstr n11).size ≤ 9000000000000000000 := by rw [bstr_size]; omega
 obtain ⟨o, code, ho⟩ : ∃ o c, decP n11 = (o, c) := ⟨_, _, rfl⟩
 obtain ⟨Z, hZ0⟩ : ∃ Z, packP rn rd (⟨n1, n2, n3, n4, n5, n6 == 1, n7, n8, n9, n10, o.s, o.f, none, 0, o.al⟩ : Un) = Z := ⟨_, rfl⟩
 have hZ : ∀ B c, packP rn rd (⟨n1, n2, n3, n4, n5, n6 == 1, n7, n8, n9, n10, o.s, o.f, B, c, o.al⟩ : Un) = Z := fun B c => hZ0
 have hRU : readU s = ((⟨n1, n2, n3, n4, n5, n6 == 1, n7, n8, n9, n10, o.s, o.f, none, 0, o.al⟩ : Un), q11.2, code) := by
  unfold readU
  simp only [← hq0, h1, h2, h3, h4, h5, h6, h7, h8, h9, h10, h11, ho]
 refine w_enter 78 [(0, (.agg #[(ii rn), (ii rd)])), (1, (.string (bstr l)))] Tryz.func122 rfl Tryz.ntmps122 (by kernel_rfl) (by kernel_rfl) fun a H => ?_
 refine wp_seq (w_region ?_)
 refine H.alloc HP 2 (fun b => (pt b 0)) 58 [(ii rn), (ii rd)] (by kernel_rfl) (fun w => by kernel_rfl) fun b_1 w_2 a H HP => H.alloc HP 4 (fun b => (pt b 0)) 76 [(ii 0), (ii 0), (ii 0), (ii 0), (ii 0), (.bool false), (.string (bstr ([]))), (ii 0), (ii 0), (.string (bstr ([]))), (ii 0), (ii 0), (.slice none 0 0)] (by kernel_rfl) (fun w => by kernel_rfl) fun b_3 w_4 a H HP => ?_
 refine H.ge HP [(5, (ii 0))] [] fun a H => ?_
 refine then_normal (wp_seq (w_region ?_))
 refine H.go HP 1 [(14, (.string (bstr l)))] [] fun a H => ?_
 refine H.call 15 (by kernel_rfl) (Eq.trans (by kernel_rfl : _ = (callFunc 167 #[(.string (bstr l))]).run Tryz.prog w_4) (Tryz.call167 _ _)) ((by have hh := stream_any l w_4 hl; rw [hX] at hh; exact hh)) ?_
 rintro e w_5 ⟨rfl, hb⟩
 refine ⟨_, rfl, ?_⟩
 intro a H
 have HP := HP.next hb
 refine H.ge HP [(6, (.string (bstr s))), (7, (.bool true))] [] fun a H => ?_
 refine then_normal (wp_seq (wp_seq (w_region ?_)))
 refine H.go HP 5 [(20, (.bool false)), (22, (ii s.length))] [] fun a H => H.valE 23 (.bool (decide ((s.length : Int) < 5))) (.bool false) (by kernel_rfl) (by kernel_rfl) (congrArg Value.bool (decide_eq_false (by omega))) fun a H => ?_
 refine H.ge HP [(24, (.bool false))] [] fun a H => ?_
 refine then_normal ?_
 refine w_iff H rfl ?_
 refine wp_skip (then_normal (wp_seq (w_region ?_)))
 refine H.go HP 2 [(27, (.agg #[(.string (bstr s)), (ii 5), (.bool false)]))] [] fun a H => H.alloc HP 8 (fun b => (pt b 0)) 277 [(.string (bstr ([]))), (ii 0), (.bool false)] (by kernel_rfl) (fun w => by kernel_rfl) fun b_6 w_7 a H HP => H.sh HP 0 0 (.agg #[(.string (bstr s)), (ii 5), (.bool false)]) rfl fun w_8 a H HP => ?_
 refine wpList_nil (then_normal (wp_seq (w_region ?_)))
 refine H.alloc HP 9 (fun b => (pt b 0)) 76 [(ii 0), (ii 0), (ii 0), (ii 0), (ii 0), (.bool false), (.string (bstr ([]))), (ii 0), (ii 0), (.string (bstr ([]))), (ii 0), (ii 0), (.slice none 0 0)] (by kernel_rfl) (fun w => by kernel_rfl) fun b_9 w_10 a H HP => ?_
 refine wpList_nil (then_normal (wp_seq ?_))
 have HP : Hp w w_10 [bx b_9 76 [(ii 0), (ii 0), (ii 0), (ii 0), (ii 0), (.bool false), (.string (bstr ([]))), (ii 0), (ii 0), (.string (bstr ([]))), (ii 0), (ii 0), (.slice none 0 0)] true, bx b_6 277 (rdCells s q0) true, bx b_3 76 [(ii 0), (ii 0), (ii 0), (ii 0), (ii 0), (.bool false), (.string (bstr ([]))), (ii 0), (ii 0), (.string (bstr ([]))), (ii 0), (ii 0), (.slice none 0 0)] true, bx b_1 58 [(ii rn), (ii rd)] true] [] := by rw [hq0]; exact HP
 refine w_region ?_
 refine H.call 28 (by kernel_rfl) (Eq.trans (by kernel_rfl : _ = (callFunc 168 #[(pt b_6 0)]).run Tryz.prog w_10) (Tryz.call168 _ _)) ((by have hh := num_any b_6 s q0 w_10 (HP.at_ 1 rfl) hsl hk0; simp only [h1] at hh; exact hh)) ?_
 rintro e w_11 ⟨rfl, hbx, hgr⟩
 refine ⟨_, rfl, ?_⟩
 intro a H
 have HP := HP.changed 1 rfl (rdCells s q1) [bx b_9 76 [(ii 0), (ii 0), (ii 0), (ii 0), (ii 0), (.bool false), (.string (bstr ([]))), (ii 0), (ii 0), (.string (bstr ([]))), (ii 0), (ii 0), (.slice none 0 0)] true, bx b_6 277 (rdCells s q1) true, bx b_3 76 [(ii 0), (ii 0), (ii 0), (ii 0), (ii 0), (.bool false), (.string (bstr ([]))), (ii 0), (ii 0), (.string (bstr ([]))), (ii 0), (ii 0), (.slice none 0 0)] true, bx b_1 58 [(ii rn), (ii rd)] true] (by kernel_rfl) hgr hbx
 refine H.go HP 1 [(29, (pt b_9 0))] [] fun a H => H.sh HP 0 0 (ii n1) rfl fun w_12 a H HP => ?_
 refine wpList_nil (then_normal (wp_seq (w_region ?_)))
 refine H.call 30 (by kernel_rfl) (Eq.trans (by kernel_rfl : _ = (callFunc 168 #[(pt b_6 0)]).run Tryz.prog w_12) (Tryz.call168 _ _)) ((by have hh := num_any b_6 s q1 w_12 (HP.at_ 1 rfl) hsl hk1; simp only [h2] at hh; exact hh)) ?_
 rintro e w_13 ⟨rfl, hbx, hgr⟩
 refine ⟨_, rfl, ?_⟩
 intro a H
 have HP := HP.changed 1 rfl (rdCells s q2) [bx b_9 76 [(ii n1), (ii 0), (ii 0), (ii 0), (ii 0), (.bool false), (.string (bstr ([]))), (ii 0), (ii 0), (.string (bstr ([]))), (ii 0), (ii 0), (.slice none 0 0)] true, bx b_6 277 (rdCells s q2) true, bx b_3 76 [(ii 0), (ii 0), (ii 0), (ii 0), (ii 0), (.bool false), (.string (bstr ([]))), (ii 0), (ii 0), (.string (bstr ([]))), (ii 0), (ii 0), (.slice none 0 0)] true, bx b_1 58 [(ii rn), (ii rd)] true] (by kernel_rfl) hgr hbx
 refine H.go HP 1 [(31, (pt b_9 1))] [] fun a H => H.sh HP 0 1 (ii n2) rfl fun w_14 a H HP => ?_
 refine wpList_nil (then_normal (wp_seq (w_region ?_)))
 refine H.call 32 (by kernel_rfl) (Eq.trans (by kernel_rfl : _ = (callFunc 168 #[(pt b_6 0)]).run Tryz.prog w_14) (Tryz.call168 _ _)) ((by have hh := num_any b_6 s q2 w_14 (HP.at_ 1 rfl) hsl hk2; simp only [h3] at hh; exact hh)) ?_
 rintro e w_15 ⟨rfl, hbx, hgr⟩
 refine ⟨_, rfl, ?_⟩
 intro a H
 have HP := HP.changed 1 rfl (rdCells s q3) [bx b_9 76 [(ii n1), (ii n2), (ii 0), (ii 0), (ii 0), (.bool false), (.string (bstr ([]))), (ii 0), (ii 0), (.string (bstr ([]))), (ii 0), (ii 0), (.slice none 0 0)] true, bx b_6 277 (rdCells s q3) true, bx b_3 76 [(ii 0), (ii 0), (ii 0), (ii 0), (ii 0), (.bool false), (.string (bstr ([]))), (ii 0), (ii 0), (.string (bstr ([]))), (ii 0), (ii 0), (.slice none 0 0)] true, bx b_1 58 [(ii rn), (ii rd)] true] (by kernel_rfl) hgr hbx
 refine H.go HP 1 [(33, (pt b_9 2))] [] fun a H => H.sh HP 0 2 (ii n3) rfl fun w_16 a H HP => ?_
 refine wpList_nil (then_normal (wp_seq (w_region ?_)))
 refine H.call 34 (by kernel_rfl) (Eq.trans (by kernel_rfl : _ = (callFunc 168 #[(pt b_6 0)]).run Tryz.prog w_16) (Tryz.call168 _ _)) ((by have hh := num_any b_6 s q3 w_16 (HP.at_ 1 rfl) hsl hk3; simp only [h4] at hh; exact hh)) ?_
 rintro e w_17 ⟨rfl, hbx, hgr⟩
 refine ⟨_, rfl, ?_⟩
 intro a H
 have HP := HP.changed 1 rfl (rdCells s q4) [bx b_9 76 [(ii n1), (ii n2), (ii n3), (ii 0), (ii 0), (.bool false), (.string (bstr ([]))), (ii 0), (ii 0), (.string (bstr ([]))), (ii 0), (ii 0), (.slice none 0 0)] true, bx b_6 277 (rdCells s q4) true, bx b_3 76 [(ii 0), (ii 0), (ii 0), (ii 0), (ii 0), (.bool false), (.string (bstr ([]))), (ii 0), (ii 0), (.string (bstr ([]))), (ii 0), (ii 0), (.slice none 0 0)] true, bx b_1 58 [(ii rn), (ii rd)] true] (by kernel_rfl) hgr hbx
 refine H.go HP 1 [(35, (pt b_9 3))] [] fun a H => H.sh HP 0 3 (ii n4) rfl fun w_18 a H HP => ?_
 refine wpList_nil (then_normal (wp_seq (w_region ?_)))
 refine H.call 36 (by kernel_rfl) (Eq.trans (by kernel_rfl : _ = (callFunc 168 #[(pt b_6 0)]).run Tryz.prog w_18) (Tryz.call168 _ _)) ((by have hh := num_any b_6 s q4 w_18 (HP.at_ 1 rfl) hsl hk4; simp only [h5] at hh; exact hh)) ?_
 rintro e w_19 ⟨rfl, hbx, hgr⟩
 refine ⟨_, rfl, ?_⟩
 intro a H
 have HP := HP.changed 1 rfl (rdCells s q5) [bx b_9 76 [(ii n1), (ii n2), (ii n3), (ii n4), (ii 0), (.bool false), (.string (bstr ([]))), (ii 0), (ii 0), (.string (bstr ([]))), (ii 0), (ii 0), (.slice none 0 0)] true, bx b_6 277 (rdCells s q5) true, bx b_3 76 [(ii 0), (ii 0), (ii 0), (ii 0), (ii 0), (.bool false), (.string (bstr ([]))), (ii 0), (ii 0), (.string (bstr ([]))), (ii 0), (ii 0), (.slice none 0 0)] true, bx b_1 58 [(ii rn), (ii rd)] true] (by kernel_rfl) hgr hbx
 refine H.go HP 1 [(37, (pt b_9 4))] [] fun a H => H.sh HP 0 4 (ii n5) rfl fun w_20 a H HP => ?_
 refine wpList_nil (then_normal (wp_seq (w_region ?_)))
 refine H.call 38 (by kernel_rfl) (Eq.trans (by kernel_rfl : _ = (callFunc 168 #[(pt b_6 0)]).run Tryz.prog w_20) (Tryz.call168 _ _)) ((by have hh := num_any b_6 s q5 w_20 (HP.at_ 1 rfl) hsl hk5; simp only [h6] at hh; exact hh)) ?_
 rintro e w_21 ⟨rfl, hbx, hgr⟩
 refine ⟨_, rfl, ?_⟩
 intro a H
 have HP := HP.changed 1 rfl (rdCells s q6) [bx b_9 76 [(ii n1), (ii n2), (ii n3), (ii n4), (ii n5), (.bool false), (.string (bstr ([]))), (ii 0), (ii 0), (.string (bstr ([]))), (ii 0), (ii 0), (.slice none 0 0)] true, bx b_6 277 (rdCells s q6) true, bx b_3 76 [(ii 0), (ii 0), (ii 0), (ii 0), (ii 0), (.bool false), (.string (bstr ([]))), (ii 0), (ii 0), (.string (bstr ([]))), (ii 0), (ii 0), (.slice none 0 0)] true, bx b_1 58 [(ii rn), (ii rd)] true] (by kernel_rfl) hgr hbx
 refine H.go HP 2 [(39, (.bool (n6 == 1))), (40, (pt b_9 5))] [] fun a H => H.sh HP 0 5 (.bool (n6 == 1)) rfl fun w_22 a H HP => ?_
 refine wpList_nil (then_normal (wp_seq (w_region ?_)))
 refine H.call 41 (by kernel_rfl) (Eq.trans (by kernel_rfl : _ = (callFunc 169 #[(pt b_6 0)]).run Tryz.prog w_22) (Tryz.call169 _ _)) ((by have hh := txt_any b_6 s q6 w_22 (HP.at_ 1 rfl) hsl hk6; simp only [h7] at hh; exact hh)) ?_
 rintro e w_23 ⟨rfl, hbx, hgr⟩
 refine ⟨_, rfl, ?_⟩
 intro a H
 have HP := HP.changed 1 rfl (rdCells s q7) [bx b_9 76 [(ii n1), (ii n2), (ii n3), (ii n4), (ii n5), (.bool (n6 == 1)), (.string (bstr ([]))), (ii 0), (ii 0), (.string (bstr ([]))), (ii 0), (ii 0), (.slice none 0 0)] true, bx b_6 277 (rdCells s q7) true, bx b_3 76 [(ii 0), (ii 0), (ii 0), (ii 0), (ii 0), (.bool false), (.string (bstr ([]))), (ii 0), (ii 0), (.string (bstr ([]))), (ii 0), (ii 0), (.slice none 0 0)] true, bx b_1 58 [(ii rn), (ii rd)] true] (by kernel_rfl) hgr hbx
 refine H.go HP 1 [(42, (pt b_9 6))] [] fun a H => H.sh HP 0 6 (.string (bstr n7)) rfl fun w_24 a H HP => ?_
 refine wpList_nil (then_normal (wp_seq (w_region ?_)))
 refine H.call 43 (by kernel_rfl) (Eq.trans (by kernel_rfl : _ = (callFunc 168 #[(pt b_6 0)]).run Tryz.prog w_24) (Tryz.call168 _ _)) ((by have hh := num_any b_6 s q7 w_24 (HP.at_ 1 rfl) hsl hk7; simp only [h8] at hh; exact hh)) ?_
 rintro e w_25 ⟨rfl, hbx, hgr⟩
 refine ⟨_, rfl, ?_⟩
 intro a H
 have HP := HP.changed 1 rfl (rdCells s q8) [bx b_9 76 [(ii n1), (ii n2), (ii n3), (ii n4), (ii n5), (.bool (n6 == 1)), (.string (bstr n7)), (ii 0), (ii 0), (.string (bstr ([]))), (ii 0), (ii 0), (.slice none 0 0)] true, bx b_6 277 (rdCells s q8) true, bx b_3 76 [(ii 0), (ii 0), (ii 0), (ii 0), (ii 0), (.bool false), (.string (bstr ([]))), (ii 0), (ii 0), (.string (bstr ([]))), (ii 0), (ii 0), (.slice none 0 0)] true, bx b_1 58 [(ii rn), (ii rd)] true] (by kernel_rfl) hgr hbx
 refine H.go HP 1 [(44, (pt b_9 7))] [] fun a H => H.sh HP 0 7 (ii n8) rfl fun w_26 a H HP => ?_
 refine wpList_nil (then_normal (wp_seq (w_region ?_)))
 refine H.call 45 (by kernel_rfl) (Eq.trans (by kernel_rfl : _ = (callFunc 168 #[(pt b_6 0)]).run Tryz.prog w_26) (Tryz.call168 _ _)) ((by have hh := num_any b_6 s q8 w_26 (HP.at_ 1 rfl) hsl hk8; simp only [h9] at hh; exact hh)) ?_
 rintro e w_27 ⟨rfl, hbx, hgr⟩
 refine ⟨_, rfl, ?_⟩
 intro a H
 have HP := HP.changed 1 rfl (rdCells s q9) [bx b_9 76 [(ii n1), (ii n2), (ii n3), (ii n4), (ii n5), (.bool (n6 == 1)), (.string (bstr n7)), (ii n8), (ii 0), (.string (bstr ([]))), (ii 0), (ii 0), (.slice none 0 0)] true, bx b_6 277 (rdCells s q9) true, bx b_3 76 [(ii 0), (ii 0), (ii 0), (ii 0), (ii 0), (.bool false), (.string (bstr ([]))), (ii 0), (ii 0), (.string (bstr ([]))), (ii 0), (ii 0), (.slice none 0 0)] true, bx b_1 58 [(ii rn), (ii rd)] true] (by kernel_rfl) hgr hbx
 refine H.go HP 1 [(46, (pt b_9 8))] [] fun a H => H.sh HP 0 8 (ii n9) rfl fun w_28 a H HP => ?_
 refine wpList_nil (then_normal (wp_seq (w_region ?_)))
 refine H.call 47 (by kernel_rfl) (Eq.trans (by kernel_rfl : _ = (callFunc 169 #[(pt b_6 0)]).run Tryz.prog w_28) (Tryz.call169 _ _)) ((by have hh := txt_any b_6 s q9 w_28 (HP.at_ 1 rfl) hsl hk9; simp only [h10] at hh; exact hh)) ?_
 rintro e w_29 ⟨rfl, hbx, hgr⟩
 refine ⟨_, rfl, ?_⟩
 intro a H
 have HP := HP.changed 1 rfl (rdCells s q10) [bx b_9 76 [(ii n1), (ii n2), (ii n3), (ii n4), (ii n5), (.bool (n6 == 1)), (.string (bstr n7)), (ii n8), (ii n9), (.string (bstr ([]))), (ii 0), (ii 0), (.slice none 0 0)] true, bx b_6 277 (rdCells s q10) true, bx b_3 76 [(ii 0), (ii 0), (ii 0), (ii 0), (ii 0), (.bool false), (.string (bstr ([]))), (ii 0), (ii 0), (.string (bstr ([]))), (ii 0), (ii 0), (.slice none 0 0)] true, bx b_1 58 [(ii rn), (ii rd)] true] (by kernel_rfl) hgr hbx
 refine H.go HP 1 [(48, (pt b_9 9))] [] fun a H => H.sh HP 0 9 (.string (bstr n10)) rfl fun w_30 a H HP => ?_
 refine wpList_nil (then_normal (wp_seq (w_region ?_)))
 refine H.call 50 (by kernel_rfl) (Eq.trans (by kernel_rfl : _ = (callFunc 169 #[(pt b_6 0)]).run Tryz.prog w_30) (Tryz.call169 _ _)) ((by have hh := txt_any b_6 s q10 w_30 (HP.at_ 1 rfl) hsl hk10; simp only [h11] at hh; exact hh)) ?_
 rintro e w_31 ⟨rfl, hbx, hgr⟩
 refine ⟨_, rfl, ?_⟩
 intro a H
 have HP := HP.changed 1 rfl (rdCells s q11) [bx b_9 76 [(ii n1), (ii n2), (ii n3), (ii n4), (ii n5), (.bool (n6 == 1)), (.string (bstr n7)), (ii n8), (ii n9), (.string (bstr n10)), (ii 0), (ii 0), (.slice none 0 0)] true, bx b_6 277 (rdCells s q11) true, bx b_3 76 [(ii 0), (ii 0), (ii 0), (ii 0), (ii 0), (.bool false), (.string (bstr ([]))), (ii 0), (ii 0), (.string (bstr ([]))), (ii 0), (ii 0), (.slice none 0 0)] true, bx b_1 58 [(ii rn), (ii rd)] true] (by kernel_rfl) hgr hbx
 have hszd := HP.bl.size
 refine H.call 51 (by kernel_rfl) (Eq.trans (by kernel_rfl : _ = (callFunc 170 #[(.string (bstr n11))]).run Tryz.prog w_31) (Tryz.call170 _ _)) ((by have hh := decode_any (bstr n11) w_31 hsz11; rw [bstr_dataE, ho] at hh; exact hh)) ?_
 rintro e w_32 ⟨BB, cc, rfl, hal, hc1, hc2, hc3, hb, hfr⟩
 refine ⟨_, rfl, ?_⟩
 intro a H
 have HP := (HP.next hb).keepF ⟨rowFp o.al.length BB, fun w => IsAlts w BB o.al.length o.al⟩ hal (fun _ _ h hk hs => ⟨h.1, h.2.keep hk hs⟩) (fun j hj => row_sep HP hal.2 hfr hj)
 refine H.go HP 3 [(52, (.agg #[(ii o.s), (ii o.f), (.slice BB o.al.length cc)])), (53, (ii code))] [] fun a H => H.alloc HP 10 (fun b => (pt b 0)) 74 [(ii 0), (ii 0), (.slice none 0 0)] (by kernel_rfl) (fun w => by kernel_rfl) fun b_33 w_34 a H HP => H.sh HP 0 0 (.agg #[(ii o.s), (ii o.f), (.slice BB o.al.length cc)]) rfl fun w_35 a H HP => ?_
 refine H.ge HP [(11, (ii code))] [] fun a H => ?_
 refine then_normal (wp_seq (wp_seq (w_region ?_)))
 refine H.go HP 1 [(54, (pt b_6 2))] [] fun a H => H.u 55 (.bool q11.2) (ex_l1 (v := .bool q11.2) (HP.cell 2 rfl 2 rfl)) fun a H => H.go HP 1 [(56, (.bool q11.2))] [] fun a H => ?_
 refine H.split 56 rfl (fun g56 H => ?_) (fun g56 H => ?_)
 ·have g56p := g56
  refine H.ge HP [(59, (.bool true))] [] fun a H => ?_
  refine then_normal ?_
  refine w_ift H rfl ?_
  refine wp_seq (w_region ?_)
  refine H.go HP 1 [(60, (.agg #[(ii 0), (ii 0), (ii 0), (ii 0), (ii 0), (.bool false), (.string (bstr ([]))), (ii 0), (ii 0), (.string (bstr ([]))), (ii 0), (ii 0), (.slice none 0 0)]))] [] fun a H => H.sh HP 3 0 (.agg #[(ii 0), (ii 0), (ii 0), (ii 0), (ii 0), (.bool false), (.string (bstr ([]))), (ii 0), (ii 0), (.string (bstr ([]))), (ii 0), (ii 0), (.slice none 0 0)]) rfl fun w_36 a H HP => ?_
  refine H.ge HP [(5, (ii 180))] [] fun a H => ?_
  refine then_normal (wp_ret (then_ret ?_))
  refine H.ret2 (fn := Tryz.f122) Tryz.results122 (RV.cellN (vs := [(ii 0), (ii 0), (ii 0), (ii 0), (ii 0), (.bool false), (.string (bstr ([]))), (ii 0), (ii 0), (.string (bstr ([]))), (ii 0), (ii 0), (.slice none 0 0)]) (b := b_3) (off := 0) (k := 13) (by kernel_rfl) (by kernel_rfl) (by kernel_rfl) rfl (HP.cells 3 rfl 0 13 (by kernel_rfl))) (RV.tmp_ (v := (ii 180)) (by kernel_rfl)) ?_
  exact retUn_none (unpack_bad hX hRU (.inl g56p)) rfl HP.bl
 have g56p := g56
 refine H.ge HP [(59, (.bool (code != 0)))] [] fun a H => ?_
 refine then_normal ?_
 refine w_if H rfl (fun g59 => ?_) (fun g59 => ?_)
 ·have g59p := bne_iff_ne.1 g59
  refine wp_seq (w_region ?_)
  refine H.go HP 1 [(60, (.agg #[(ii 0), (ii 0), (ii 0), (ii 0), (ii 0), (.bool false), (.string (bstr ([]))), (ii 0), (ii 0), (.string (bstr ([]))), (ii 0), (ii 0), (.slice none 0 0)]))] [] fun a H => H.sh HP 3 0 (.agg #[(ii 0), (ii 0), (ii 0), (ii 0), (ii 0), (.bool false), (.string (bstr ([]))), (ii 0), (ii 0), (.string (bstr ([]))), (ii 0), (ii 0), (.slice none 0 0)]) rfl fun w_37 a H HP => ?_
  refine H.ge HP [(5, (ii 180))] [] fun a H => ?_
  refine then_normal (wp_ret (then_ret ?_))
  refine H.ret2 (fn := Tryz.f122) Tryz.results122 (RV.cellN (vs := [(ii 0), (ii 0), (ii 0), (ii 0), (ii 0), (.bool false), (.string (bstr ([]))), (ii 0), (ii 0), (.string (bstr ([]))), (ii 0), (ii 0), (.slice none 0 0)]) (b := b_3) (off := 0) (k := 13) (by kernel_rfl) (by kernel_rfl) (by kernel_rfl) rfl (HP.cells 3 rfl 0 13 (by kernel_rfl))) (RV.tmp_ (v := (ii 180)) (by kernel_rfl)) ?_
  exact retUn_none (unpack_bad hX hRU (.inr g59p)) rfl HP.bl
 have g59p := eq_of_bne_false g59
 refine wp_skip (then_normal (wp_seq (w_region ?_)))
 refine H.go HP 2 [(61, (.agg #[(ii o.s), (ii o.f), (.slice BB o.al.length cc)])), (62, (pt b_9 10))] [0] fun a H => H.sh HP 1 10 (.agg #[(ii o.s), (ii o.f), (.slice BB o.al.length cc)]) rfl fun w_38 a H HP => ?_
 refine wpList_nil (then_normal (wp_seq (w_region ?_)))
 refine H.go HP 2 [(64, (.agg #[(ii rn), (ii rd)])), (65, (.agg #[(ii n1), (ii n2), (ii n3), (ii n4), (ii n5), (.bool (n6 == 1)), (.string (bstr n7)), (ii n8), (ii n9), (.string (bstr n10)), (ii o.s), (ii o.f), (.slice BB o.al.length cc)]))] [4, 1] fun a H => ?_
 refine H.call 66 (by kernel_rfl) (Eq.trans (by kernel_rfl : _ = (callFunc 28 #[(.agg #[(ii rn), (ii rd)]), (.agg #[(ii n1), (ii n2), (ii n3), (ii n4), (ii n5), (.bool (n6 == 1)), (.string (bstr n7)), (ii n8), (ii n9), (.string (bstr n10)), (ii o.s), (ii o.f), (.slice BB o.al.length cc)])]).run Tryz.prog w_38) (Tryz.call28 _ _)) ((by have hh := pack_any rn rd (⟨n1, n2, n3, n4, n5, n6 == 1, n7, n8, n9, n10, o.s, o.f, BB, cc, o.al⟩ : Un) w_38 (hL.below HP.bl) (HP.fact 0 rfl) (Nat.le_trans hc1 hc2); rw [hZ BB cc, packV_eq] at hh; exact hh)) ?_
 rintro e w_39 ⟨rfl, hb⟩
 refine ⟨_, rfl, ?_⟩
 intro a H
 have HP := HP.next hb
 refine H.ge HP [(12, (.string (bstr (Z.getD [])))), (11, (ii (if Z.isSome = true then 0 else 180 : Int)))] [] fun a H => ?_
 refine then_normal (wp_seq (wp_seq (w_region ?_)))
 refine H.go HP 3 [(71, (.bool ((if Z.isSome = true then 0 else 180 : Int) != 0)))] [] fun a H => ?_
 refine H.split 71 rfl (fun g71 H => ?_) (fun g71 H => ?_)
 ·have g71p := bne_iff_ne.1 g71
  refine H.ge HP [(75, (.bool true))] [] fun a H => ?_
  refine then_normal ?_
  refine w_ift H rfl ?_
  refine wp_seq (w_region ?_)
  refine H.go HP 1 [(76, (.agg #[(ii 0), (ii 0), (ii 0), (ii 0), (ii 0), (.bool false), (.string (bstr ([]))), (ii 0), (ii 0), (.string (bstr ([]))), (ii 0), (ii 0), (.slice none 0 0)]))] [] fun a H => H.sh HP 3 0 (.agg #[(ii 0), (ii 0), (ii 0), (ii 0), (ii 0), (.bool false), (.string (bstr ([]))), (ii 0), (ii 0), (.string (bstr ([]))), (ii 0), (ii 0), (.slice none 0 0)]) rfl fun w_40 a H HP => ?_
  refine H.ge HP [(5, (ii 180))] [] fun a H => ?_
  refine then_normal (wp_ret (then_ret ?_))
  refine H.ret2 (fn := Tryz.f122) Tryz.results122 (RV.cellN (vs := [(ii 0), (ii 0), (ii 0), (ii 0), (ii 0), (.bool false), (.string (bstr ([]))), (ii 0), (ii 0), (.string (bstr ([]))), (ii 0), (ii 0), (.slice none 0 0)]) (b := b_3) (off := 0) (k := 13) (by kernel_rfl) (by kernel_rfl) (by kernel_rfl) rfl (HP.cells 3 rfl 0 13 (by kernel_rfl))) (RV.tmp_ (v := (ii 180)) (by kernel_rfl)) ?_
  exact retUn_none (unpack_diff hX hRU (fun h => by have hz := (hZ none 0).symm.trans h; subst hz; exact g71p rfl)) rfl HP.bl
 have g71p := eq_of_bne_false g71
 refine H.go HP 2 [(72, (.string (bstr (Z.getD [])))), (73, (.string (bstr l)))] [] fun a H => H.valE 74 (.bool (!((bstr (Z.getD [])).toList == (bstr l).toList))) (.bool (!((Z.getD []) == l))) (by kernel_rfl) (by kernel_rfl) ((congrArg (fun b => Value.bool (!b)) (bstr_eq _ _))) fun a H => ?_
 refine H.ge HP [(75, (.bool (!((Z.getD []) == l))))] [] fun a H => ?_
 refine then_normal ?_
 refine w_if H rfl (fun g75 => ?_) (fun g75 => ?_)
 ·have g75p := not_is_true g75
  refine wp_seq (w_region ?_)
  refine H.go HP 1 [(76, (.agg #[(ii 0), (ii 0), (ii 0), (ii 0), (ii 0), (.bool false), (.string (bstr ([]))), (ii 0), (ii 0), (.string (bstr ([]))), (ii 0), (ii 0), (.slice none 0 0)]))] [] fun a H => H.sh HP 3 0 (.agg #[(ii 0), (ii 0), (ii 0), (ii 0), (ii 0), (.bool false), (.string (bstr ([]))), (ii 0), (ii 0), (.string (bstr ([]))), (ii 0), (ii 0), (.slice none 0 0)]) rfl fun w_41 a H HP => ?_
  refine H.ge HP [(5, (ii 180))] [] fun a H => ?_
  refine then_normal (wp_ret (then_ret ?_))
  refine H.ret2 (fn := Tryz.f122) Tryz.results122 (RV.cellN (vs := [(ii 0), (ii 0), (ii 0), (ii 0), (ii 0), (.bool false), (.string (bstr ([]))), (ii 0), (ii 0), (.string (bstr ([]))), (ii 0), (ii 0), (.slice none 0 0)]) (b := b_3) (off := 0) (k := 13) (by kernel_rfl) (by kernel_rfl) (by kernel_rfl) rfl (HP.cells 3 rfl 0 13 (by kernel_rfl))) (RV.tmp_ (v := (ii 180)) (by kernel_rfl)) ?_
  exact retUn_none (unpack_diff hX hRU (fun h => by have hz := (hZ none 0).symm.trans h; subst hz; simp at g75p)) rfl HP.bl
 have g75p := not_is_false g75
 refine wp_skip (then_normal (wp_seq (w_region ?_)))
 refine H.go HP 1 [(77, (.agg #[(ii n1), (ii n2), (ii n3), (ii n4), (ii n5), (.bool (n6 == 1)), (.string (bstr n7)), (ii n8), (ii n9), (.string (bstr n10)), (ii o.s), (ii o.f), (.slice BB o.al.length cc)]))] [1] fun a H => H.sh HP 3 0 (.agg #[(ii n1), (ii n2), (ii n3), (ii n4), (ii n5), (.bool (n6 == 1)), (.string (bstr n7)), (ii n8), (ii n9), (.string (bstr n10)), (ii o.s), (ii o.f), (.slice BB o.al.length cc)]) rfl fun w_42 a H HP => ?_
 refine H.ge HP [(5, (ii 0))] [] fun a H => ?_
 refine then_normal (wp_ret ?_)
 refine H.ret2 (fn := Tryz.f122) Tryz.results122 (RV.cellN (vs := [(ii n1), (ii n2), (ii n3), (ii n4), (ii n5), (.bool (n6 == 1)), (.string (bstr n7)), (ii n8), (ii n9), (.string (bstr n10)), (ii o.s), (ii o.f), (.slice BB o.al.length cc)]) (b := b_3) (off := 0) (k := 13) (by kernel_rfl) (by kernel_rfl) (by kernel_rfl) rfl (HP.cells 3 rfl 0 13 (by kernel_rfl))) (RV.tmp_ (v := (ii 0)) (by kernel_rfl)) ?_
 have hZs : Z = some l := by
  cases Z with
  | none => exact absurd g71p (by decide)
  | some z => exact congrArg some (eq_of_beq g75p)
 exact retUn_some (unpack_ok hX hRU hs5 g56p g59p ((hZ none 0).trans hZs)) BB cc rfl (HP.fact 0 rfl) hc1 hc2 hc3 (fun b off h => Nat.le_trans hszd (hfr b off h)) HP.bl
theorem unpack_any (rn rd : Int) (l : List UInt8) (w : World) (hL : Laid w) (hl : l.length ≤ 1000000) :
  Calls Tryz.prog 122 #[.agg #[.int .i64 rn, .int .i64 rd], .string (bstr l)] w (RetUn (unpackP rn rd l) w) := by
 cases hX : streamP l with
 | none => exact unpack_none rn rd l w hL hl hX
 | some s =>
  by_cases hs5 : 5 ≤ s.length
  ·exact unpack_long rn rd l w hL hl s hX hs5
  ·exact unpack_short1 rn rd l w hL hl s hX hs5
def InW (zs : List Int) : Prop := ∀ z ∈ zs, -wmax ≤ z ∧ z ≤ wmax
theorem rdN_enc : ∀ (zs : List Int) (p r : List UInt8), InW zs → rdN (p ++ encInts zs ++ r) zs.length p.length = (zs, some (p.length + (encInts zs).length)) := by
  intro zs
  induction zs with
  | nil => intro p r _; simp [rdN, encInts]
  | cons z zs ih =>
    intro p r h
    have hz := h z (List.mem_cons_self ..)
    have e1 : encInts (z :: zs) = encInt z ++ encInts zs := by simp [encInts]
    have h1 := rdInt_enc p (encInts zs ++ r) z hz.1 hz.2
    have e2 : p ++ encInts (z :: zs) ++ r = p ++ encInt z ++ (encInts zs ++ r) := by rw [e1]; simp
    have h2 := ih (p ++ encInt z) r (fun x hx => h x (List.mem_cons_of_mem _ hx))
    have e3 : p ++ encInts (z :: zs) ++ r = (p ++ encInt z) ++ encInts zs ++ r := by rw [e1]; simp
    simp only [List.length_cons, rdN]
    rw [e2, h1]
    simp only
    rw [← e2, e3]
    rw [List.length_append] at h2
    rw [h2, e1]
    simp
    omega
theorem rdAlts_enc : ∀ (al : Alts) (p r : List UInt8), InW (flatA al) → rdAlts (p ++ encInts (flatA al) ++ r) al.length p.length = some (al, p.length + (encInts (flatA al)).length) := by
  intro al
  induction al with
  | nil => intro p r _; simp [rdAlts, encInts, flatA]
  | cons a al ih =>
    intro p r h
    obtain ⟨x, i⟩ := a
    have e0 : flatA ((x, i) :: al) = [x, i] ++ flatA al := by simp [flatA]
    rw [e0] at h
    have e1 : encInts (flatA ((x, i) :: al)) = encInts [x, i] ++ encInts (flatA al) := by rw [e0, encInts_append]
    have h1 := rdN_enc [x, i] p (encInts (flatA al) ++ r) (fun z hz => h z (List.mem_append_left _ hz))
    have e2 : p ++ encInts (flatA ((x, i) :: al)) ++ r = p ++ encInts [x, i] ++ (encInts (flatA al) ++ r) := by rw [e1]; simp
    have h2 := ih (p ++ encInts [x, i]) r (fun z hz => h z (List.mem_append_right _ hz))
    have e3 : p ++ encInts (flatA ((x, i) :: al)) ++ r = (p ++ encInts [x, i]) ++ encInts (flatA al) ++ r := by rw [e1]; simp
    simp only [List.length_cons, rdAlts]
    rw [e2]
    simp only [List.length_cons, List.length_nil, Nat.zero_add, Nat.reduceAdd] at h1
    rw [h1]
    simp only
    rw [← e2, e3]
    rw [List.length_append] at h2
    rw [h2, e1]
    simp
    omega
theorem flat_inW {al : Alts} (h : ∀ a ∈ al, (0 ≤ a.1 ∧ a.1 ≤ 7) ∧ 1 ≤ a.2 ∧ a.2 ≤ 1000000) : InW (flatA al) := by
  intro z hz
  simp only [flatA, List.mem_flatMap] at hz
  obtain ⟨a, ha, hz⟩ := hz
  have := h a ha
  simp only [List.mem_cons, List.not_mem_nil, or_false] at hz
  unfold wmax
  rcases hz with rfl | rfl <;> omega
theorem dec_enc {s f : Int} {al : Alts} (h : validP s f al = true) : decP (encOpt s f al) = (⟨s, f, al⟩, 0) := by
  obtain ⟨h1, h2, h3, h4⟩ := valid_facts h
  have hw : InW [s, f, (al.length : Int)] := by
    intro z hz
    simp only [List.mem_cons, List.not_mem_nil, or_false] at hz
    unfold wmax
    rcases hz with rfl | rfl | rfl <;> omega
  have e1 : encOpt s f al = [] ++ encInts [s, f, (al.length : Int)] ++ encInts (flatA al) := by unfold encOpt; rw [encInts_append]; simp
  have r1 := rdN_enc [s, f, (al.length : Int)] [] (encInts (flatA al)) hw
  have r2 := rdAlts_enc al (encInts [s, f, (al.length : Int)]) [] (flat_inW h4)
  rw [← e1] at r1
  simp only [List.append_nil] at r2
  have e2 : encOpt s f al = encInts [s, f, (al.length : Int)] ++ encInts (flatA al) := by unfold encOpt; rw [encInts_append]
  rw [← e2] at r2
  unfold decP
  simp only [List.length_cons, List.length_nil, Nat.zero_add, Nat.reduceAdd] at r1
  rw [r1]
  simp only
  rw [if_neg (by omega)]
  simp only [Int.toNat_natCast]
  rw [r2]
  unfold finP
  simp only
  rw [if_neg (by rw [e2, List.length_append]; simp), if_pos h]
theorem flat_drop64 : ∀ {L : List (List UInt8)} {j : Nat} {x : List UInt8}, (∀ y ∈ L, y.length = 64) → L[j]? = some x → L.flatten.drop (64 * j) = x ++ (L.drop (j + 1)).flatten
  | [], j, x, _, h => by simp at h
  | y :: L, 0, x, _, h => by simp at h; subst h; simp
  | y :: L, j + 1, x, hl, h => by
    have hy := hl y (List.mem_cons_self ..)
    rw [List.flatten_cons, show 64 * (j + 1) = y.length + 64 * j by omega, List.drop_length_add_append]
    exact flat_drop64 (fun z hz => hl z (List.mem_cons_of_mem _ hz)) (by simpa using h)
theorem flat_len64 : ∀ {L : List (List UInt8)}, (∀ y ∈ L, y.length = 64) → L.flatten.length = 64 * L.length
  | [], _ => rfl
  | y :: L, hl => by
    have hy := hl y (List.mem_cons_self ..)
    have := flat_len64 (L := L) fun z hz => hl z (List.mem_cons_of_mem _ hz)
    rw [List.flatten_cons, List.length_append, List.length_cons]; omega
theorem pktN_bd (S : List UInt8) : 59 * pktN S < S.length + 59 ∧ S.length ≤ 59 * pktN S := by unfold pktN; omega
def pkL (S : List UInt8) (ch fr : Nat) : List (List UInt8) := (List.range (pktN S)).map (pktAt S ch fr (pktN S))
theorem pkL_len (S : List UInt8) (ch fr : Nat) : ∀ y ∈ pkL S ch fr, y.length = 64 := by
  intro y hy
  unfold pkL at hy
  obtain ⟨j, hj, rfl⟩ := List.mem_map.1 hy
  have := List.mem_range.1 hj
  have := pktN_bd S
  exact pktAt_len (by omega)
theorem pkL_flat (S : List UInt8) (ch fr : Nat) : (pkL S ch fr).flatten.length = 64 * pktN S := by
  rw [flat_len64 (pkL_len S ch fr)]
  simp [pkL]
theorem pkL_drop {S : List UInt8} {ch fr j : Nat} (hj : j < pktN S) : (pkL S ch fr).flatten.drop (64 * j) = pktAt S ch fr (pktN S) j ++ ((pkL S ch fr).drop (j + 1)).flatten :=
  flat_drop64 (pkL_len S ch fr) (by simp [pkL, hj])
theorem pkL_get {S : List UInt8} {ch fr j k : Nat} (hj : j < pktN S) (hk : k < 64) : (pkL S ch fr).flatten.getD (64 * j + k) 0 = (pktAt S ch fr (pktN S) j).getD k 0 := by
  have hl : (pktAt S ch fr (pktN S) j).length = 64 := pktAt_len (by have := pktN_bd S; omega)
  rw [← dropGetD, pkL_drop hj]
  simp only [List.getD, List.getElem?_append_left (show k < (pktAt S ch fr (pktN S) j).length by omega)]
theorem pk_4 {S : List UInt8} {ch fr j : Nat} (hj : j < pktN S) : (pkL S ch fr).flatten.getD (64 * j + 4) 0 = UInt8.ofNat (min 59 (S.length - 59 * j)) := (pkL_get hj (by omega)).trans rfl
theorem pkt_tail (S : List UInt8) (ch fr N j k : Nat) : (pktAt S ch fr N j).getD (5 + k) 0 = ((S.drop (59 * j)).take 59 ++ List.replicate (59 - (S.length - 59 * j)) 255).getD k 0 := by
  unfold pktAt
  rw [List.append_assoc, Nat.add_comm 5 k]
  rfl
theorem pk_pay {S : List UInt8} {ch fr j k : Nat} (hj : j < pktN S) (hk : k < min 59 (S.length - 59 * j)) : (pkL S ch fr).flatten.getD (64 * j + (5 + k)) 0 = S.getD (59 * j + k) 0 := by
  rw [pkL_get hj (by omega), pkt_tail]
  simp only [List.getD]
  rw [List.getElem?_append_left (by rw [List.length_take, List.length_drop]; omega), List.getElem?_take_of_lt (by omega), List.getElem?_drop]
theorem toNat_of {n : Nat} (h : n < 256) : (UInt8.ofNat n).toNat = n := ofNat_toNat h
theorem payN_pk {S : List UInt8} {ch fr j : Nat} (hj : j < pktN S) : payN (pkL S ch fr).flatten j = min 59 (S.length - 59 * j) := by
  unfold payN
  rw [pk_4 hj, toNat_of (by omega)]
theorem ext_getD {a b : List UInt8} (hl : a.length = b.length) (h : ∀ i, i < a.length → a.getD i 0 = b.getD i 0) : a = b := by
  apply List.ext_getElem hl
  intro i h1 h2
  have := h i h1
  simp only [List.getD, List.getElem?_eq_getElem h1, List.getElem?_eq_getElem h2, Option.getD_some] at this
  exact this
theorem payAt_pk {S : List UInt8} {ch fr j : Nat} (hj : j < pktN S) : payAt (pkL S ch fr).flatten j = (S.drop (59 * j)).take 59 := by
  have hN := pktN_bd S
  have hL := pkL_flat S ch fr
  unfold payAt
  rw [payN_pk hj]
  refine ext_getD (by simp only [List.length_take, List.length_drop]; omega) fun i hi => ?_
  simp only [List.length_take, List.length_drop] at hi
  have h1 := pk_pay (ch := ch) (fr := fr) hj (k := i) (by omega)
  simp only [List.getD] at h1 ⊢
  rw [List.getElem?_take_of_lt (by omega), List.getElem?_take_of_lt (by omega), List.getElem?_drop, List.getElem?_drop]
  rw [show 64 * j + 5 + i = 64 * j + (5 + i) by omega]
  exact h1
theorem payTo_pk {S : List UInt8} {ch fr : Nat} : ∀ {j : Nat}, j ≤ pktN S → payTo (pkL S ch fr).flatten j = S.take (59 * j)
  | 0, _ => by simp [payTo]
  | j + 1, hj => by
    rw [payTo_succ, payTo_pk (by omega), payAt_pk (by omega), Nat.mul_add, List.take_add]
theorem stream_pk (S : List UInt8) (ch fr : Nat) (h : 1 ≤ S.length) : streamP (pkL S ch fr).flatten = some S := by
  have hN := pktN_bd S
  have hL := pkL_flat S ch fr
  have hd : (pkL S ch fr).flatten.length / 64 = pktN S := by omega
  unfold streamP
  rw [hd, if_neg, payTo_pk (Nat.le_refl _), List.take_of_length_le (by omega)]
  rintro (h | h | h)
  · omega
  · omega
  · have : payOk (pkL S ch fr).flatten (pktN S) = true := by
      unfold payOk
      rw [List.all_eq_true]
      intro i hi
      have := List.mem_range.1 hi
      rw [payN_pk this]
      simp
      omega
    rw [this] at h; cases h
theorem at_enc {s r x : List UInt8} {k : Nat} (hk : k ≤ s.length) (h : s.drop k = x ++ r) : s = s.take k ++ x ++ r ∧ (s.take k).length = k ∧ k + x.length ≤ s.length ∧ s.drop (k + x.length) = r := by
  have e : s = s.take k ++ x ++ r := by rw [List.append_assoc, ← h, List.take_append_drop]
  have hl : (s.take k).length = k := by rw [List.length_take]; omega
  have hlen : s.length - k = x.length + r.length := by have := congrArg List.length h; simpa using this
  refine ⟨e, hl, by omega, ?_⟩
  rw [← List.drop_drop, h, List.drop_left]
theorem rnum_at {s r : List UInt8} {k : Nat} {n : Int} (h : k ≤ s.length ∧ s.drop k = encInt n ++ r) (h1 : -wmax ≤ n) (h2 : n ≤ wmax) : ∃ k', rnum s (k, false) = (n, (k', false)) ∧ k' ≤ s.length ∧ s.drop k' = r := by
  obtain ⟨e, hl, hle, hd⟩ := at_enc h.1 h.2
  refine ⟨k + (encInt n).length, ?_, hle, hd⟩
  have := rdInt_enc (s.take k) r n h1 h2
  rw [← e, hl] at this
  unfold rnum
  rw [if_neg (by simp)]
  simp only [this]
theorem rtxt_at {s r t : List UInt8} {k : Nat} (h : k ≤ s.length ∧ s.drop k = encStr t ++ r) (ht : t.length ≤ 65536) : ∃ k', rtxt s (k, false) = (t, (k', false)) ∧ k' ≤ s.length ∧ s.drop k' = r := by
  unfold encStr at h
  rw [List.append_assoc] at h
  obtain ⟨e, hl, hle, hd⟩ := at_enc h.1 h.2
  have hi := rdInt_enc (s.take k) (t ++ r) ((t.length : Nat) : Int) (by unfold wmax; omega) (by unfold wmax; omega)
  rw [← e, hl] at hi
  obtain ⟨e2, hl2, hle2, hd2⟩ := at_enc hle hd
  refine ⟨k + (encInt ((t.length : Nat) : Int)).length + t.length, ?_, hle2, hd2⟩
  unfold rtxt rdStr
  rw [if_neg (by simp)]
  simp only [hi]
  rw [if_neg (by omega)]
  simp only [Int.toNat_natCast, hd, List.take_left]
theorem wf_le {n : Int} (h0 : 0 ≤ n) (h1 : n ≤ 4611686018427387903) : -wmax ≤ n ∧ n ≤ wmax := by unfold wmax; omega
def bareU (u : Un) : Un := { u with A := none, c := 0 }
theorem readU_code {c t : List UInt8} {u : Un} (hc : c.length = 5) (hv : validU u = true) : readU (c ++ (contentP u ++ t)) = (bareU u, false, 0) := by
  obtain ⟨hf, ho⟩ := validU_facts hv
  obtain ⟨f1, f2, f3, f4, f5, f6, f7, f8, f9, f10, f11, f12, f13, f14, f15, f16⟩ := hf
  have hol := encOpt_len ho
  obtain ⟨s, hs⟩ : ∃ s, c ++ (contentP u ++ t) = s := ⟨_, rfl⟩
  have h0 : 5 ≤ s.length ∧ s.drop 5 = encInt u.channel ++ (encInt u.frame ++ (encInt u.version ++ (encInt u.item ++ (encInt u.index ++ (encInt (if u.key = true then 1 else 0) ++ (encStr u.data ++ (encInt u.regions ++ (encInt u.gain ++ (encStr u.caption ++ (encStr (encOpt u.os u.of u.al) ++ t)))))))))) := by
    subst hs
    refine ⟨by rw [List.length_append]; omega, ?_⟩
    rw [← hc, List.drop_left]
    simp [contentP, encInts]
  obtain ⟨k1, e1, h1⟩ := rnum_at h0 (wf_le (by omega) (by omega)).1 (wf_le (by omega) (by omega)).2
  obtain ⟨k2, e2, h2⟩ := rnum_at h1 (wf_le (by omega) (by omega)).1 (wf_le (by omega) (by omega)).2
  obtain ⟨k3, e3, h3⟩ := rnum_at h2 (wf_le (by omega) (by omega)).1 (wf_le (by omega) (by omega)).2
  obtain ⟨k4, e4, h4⟩ := rnum_at h3 (wf_le (by omega) (by omega)).1 (wf_le (by omega) (by omega)).2
  obtain ⟨k5, e5, h5⟩ := rnum_at h4 (wf_le (by omega) (by omega)).1 (wf_le (by omega) (by omega)).2
  obtain ⟨k6, e6, h6⟩ := rnum_at h5 (wf_le (by split <;> omega) (by split <;> omega)).1 (wf_le (by split <;> omega) (by split <;> omega)).2
  obtain ⟨k7, e7, h7⟩ := rtxt_at h6 (by omega)
  obtain ⟨k8, e8, h8⟩ := rnum_at h7 (wf_le (by omega) (by omega)).1 (wf_le (by omega) (by omega)).2
  obtain ⟨k9, e9, h9⟩ := rnum_at h8 (wf_le (by omega) (by omega)).1 (wf_le (by omega) (by omega)).2
  obtain ⟨k10, e10, h10⟩ := rtxt_at h9 (by omega)
  obtain ⟨k11, e11, h11⟩ := rtxt_at h10 (by omega)
  rw [hs]
  unfold readU bareU
  simp only [e1, e2, e3, e4, e5, e6, e7, e8, e9, e10, e11, dec_enc ho]
  have hk : ((if u.key = true then 1 else 0 : Int) == 1) = u.key := by cases u.key <;> rfl
  rw [hk]
theorem packP_some {rn rd : Int} {u : Un} {l : List UInt8} (h : packP rn rd u = some l) : rateOk rn rd = true ∧ validU u = true ∧ l = (pkL (streamU rn rd u) u.channel.toNat u.frame.toNat).flatten := by
  unfold packP at h
  split at h
  · next hc =>
    rw [Bool.and_eq_true] at hc
    cases h
    exact ⟨hc.1, hc.2, rfl⟩
  · cases h
theorem streamU_pos (rn rd : Int) (u : Un) : 5 ≤ (streamU rn rd u).length := by
  have h8 : (clockP (ticksP rn rd u.frame).toNat).length = 5 := rfl
  unfold streamU
  rw [List.length_append]; omega
theorem streamU_eq (rn rd : Int) (u : Un) : streamU rn rd u = clockP (ticksP rn rd u.frame).toNat ++ (contentP u ++ encInt ((sumP (contentP u) : Nat) : Int)) := rfl
theorem unpack_pack {rn rd : Int} {u : Un} {l : List UInt8} (h : packP rn rd u = some l) : unpackP rn rd l = some (bareU u) := by
  obtain ⟨hr, hv, rfl⟩ := packP_some h
  have hp := streamU_pos rn rd u
  exact unpack_ok (stream_pk _ _ _ (by omega)) (by rw [streamU_eq]; exact readU_code rfl hv) hp rfl rfl h
theorem pack_len {rn rd : Int} {u : Un} {l : List UInt8} (h : packP rn rd u = some l) : l.length = 64 * pktN (streamU rn rd u) ∧ 1 ≤ pktN (streamU rn rd u) ∧ pktN (streamU rn rd u) ≤ 13 := by
  obtain ⟨hr, hv, rfl⟩ := packP_some h
  exact ⟨pkL_flat _ _ _, pktN_pos, pktN_le hv⟩
theorem same_bare (u v : Un) : sameU u v = true ↔ bareU u = bareU v := by
  obtain ⟨a1, a2, a3, a4, a5, a6, a7, a8, a9, a10, a11, a12, a13, a14, a15⟩ := u
  obtain ⟨b1, b2, b3, b4, b5, b6, b7, b8, b9, b10, b11, b12, b13, b14, b15⟩ := v
  simp only [sameU, bareU, sameP, Bool.and_eq_true, beq_iff_eq, decide_eq_true_eq, Un.mk.injEq, true_and]
section
variable {α : Type} {k : Nat} {cs : α → Array Value}
abbrev rowCells (cs : α → Array Value) (l : List α) : List Value := l.flatMap fun e => (cs e).toList
theorem rowCells_get (hk : ∀ e, (cs e).size = k) (l : List α) (i j : Nat) (h : i < l.length) (hj : j < k) : (rowCells cs l)[i * k + j]? = (cs l[i])[j]? := by
  induction l generalizing i with
  | nil => simp at h
  | cons a l ih =>
    have ha := hk a
    cases i with
    | zero => simp only [rowCells, List.flatMap_cons, Nat.zero_mul, Nat.zero_add]; rw [List.getElem?_append_left (by simpa [ha] using hj)]; simp
    | succ i =>
      have := ih i (by simpa using h)
      rw [show (i + 1) * k + j = (i * k + j) + k by rw [Nat.succ_mul]; omega]
      simp only [rowCells, List.flatMap_cons]
      rw [List.getElem?_append_right (by simp [ha])]
      simpa [ha] using this
def IsRw (k : Nat) (cs : α → Array Value) (w : World) (A : Option Addr) (n : Nat) (l : List α) : Prop := l.length = n ∧ Rd w k A n (rowCells cs l)
theorem IsRw.below {w w' : World} {A : Option Addr} {n : Nat} {l : List α} (h : IsRw k cs w A n l) (hb : Below w.heap.size w w') : IsRw k cs w' A n l := ⟨h.1, h.2.below hb⟩
theorem IsRw.nil (w : World) (A : Option Addr) : IsRw k cs w A 0 [] := ⟨rfl, Rd.nil _ _ _⟩
theorem IsRw.at_ (hk : ∀ e, (cs e).size = k) {w : World} {A : Option Addr} {n : Nat} {l : List α} (h : IsRw k cs w A n l) {i : Nat} (hi : i < n) :
    ∃ b off e, A = some ⟨b, off, none⟩ ∧ b < w.heap.size ∧ l[i]? = some e ∧ ∀ j v, (cs e)[j]? = some v → w.cell? ⟨b, off + (i * k + j), none⟩ = some v := by
  obtain ⟨h1, h2, h3⟩ := h
  have hl : i < l.length := by omega
  have h0 : 0 < n := by omega
  obtain ⟨b, off, rfl, hb, hc⟩ := h3.resolve_left (by omega)
  refine ⟨b, off, l[i], rfl, hb, List.getElem?_eq_getElem hl, fun j v hv => ?_⟩
  have hj : j < k := by
    have := (Array.getElem?_eq_some_iff.1 hv).1
    rwa [hk] at this
  have hm : i * k + j < n * k := by
    have : (i + 1) * k ≤ n * k := Nat.mul_le_mul_right _ (by omega)
    rw [Nat.succ_mul] at this
    omega
  rw [hc (i * k + j) hm, rowCells_get hk l i j hl hj, hv]
theorem rowCells_take (hk : ∀ e, (cs e).size = k) (l : List α) (j : Nat) : (rowCells cs l).take (j * k) = rowCells cs (l.take j) := by
  induction l generalizing j with
  | nil => simp
  | cons a l ih =>
    cases j with
    | zero => simp
    | succ j =>
      simp only [rowCells, List.flatMap_cons, List.take_succ_cons] at *
      rw [List.take_append, ← ih j, Array.length_toList, hk, Nat.succ_mul, Nat.add_sub_cancel, List.take_of_length_le (by rw [Array.length_toList, hk]; omega)]
theorem IsRw.take (hk : ∀ e, (cs e).size = k) {w : World} {A : Option Addr} {n : Nat} {l : List α} (h : IsRw k cs w A n l) {j : Nat} (hj : j ≤ n) : IsRw k cs w A j (l.take j) := by
  refine ⟨by rw [List.length_take, h.1]; omega, ?_⟩
  rw [← rowCells_take hk]
  exact h.2.take hj
def Off (b : Nat) (A : Option Addr) : Prop := ∀ b' off, A = some ⟨b', off, none⟩ → b' ≠ b
theorem Rd.grown {w w' : World} {size : Nat} {A : Option Addr} {n : Nat} {xs : List Value} (h : Rd w size A n xs) {b : Nat} (hg : w.grownBy w' (some b)) (hb : Off b A) : Rd w' size A n xs := by
  obtain ⟨h1, h2⟩ := h
  refine ⟨h1, ?_⟩
  rcases h2 with h2 | ⟨b', off, rfl, hlt, hc⟩
  · exact .inl h2
  · have hne := hb b' off rfl
    have hbk := hg.block b' hlt (fun e => hne (Option.some.inj e))
    refine .inr ⟨b', off, rfl, ?_, fun j hj => ?_⟩
    · exact Nat.lt_of_lt_of_le hlt hg.size
    · rw [← hc j hj]
      exact World.cell?_of_block hbk
theorem IsRw.grown {w w' : World} {A : Option Addr} {n : Nat} {l : List α} (h : IsRw k cs w A n l) {b : Nat} (hg : w.grownBy w' (some b)) (hb : Off b A) : IsRw k cs w' A n l := ⟨h.1, h.2.grown hg hb⟩
end
structure PicA where
  key : Bool
  data : ByteArray
  power : Int
abbrev PicA.cells (p : PicA) : Array Value := #[.bool p.key, .string p.data, .int .i64 p.power]
abbrev PicA.val (p : PicA) : Value := .agg p.cells
def picZ : PicA := ⟨false, .empty, 0⟩
theorem PicA.cells_size (p : PicA) : p.cells.size = 3 := rfl
abbrev IsPics (w : World) (A : Option Addr) (n : Nat) (l : List PicA) : Prop := IsRw 3 PicA.cells w A n l
theorem IsPics.get {w : World} {A : Option Addr} {n : Nat} {l : List PicA} (h : IsPics w A n l) {i : Nat} (hi : i < n) :
    ∃ b off, A = some ⟨b, off, none⟩ ∧ b < w.heap.size ∧ w.cell? ⟨b, off + i * 3, none⟩ = some (.bool (l.getD i picZ).key) ∧ w.cell? ⟨b, off + i * 3 + 1, none⟩ = some (.string (l.getD i picZ).data) ∧ w.cell? ⟨b, off + i * 3 + 2, none⟩ = some (.int .i64 (l.getD i picZ).power) := by
  obtain ⟨b, off, e, rfl, hb, he, hc⟩ := IsRw.at_ PicA.cells_size h hi
  rw [show l.getD i picZ = e by simp [List.getD, he]]
  exact ⟨b, off, rfl, hb, hc 0 _ rfl, hc 1 _ rfl, hc 2 _ rfl⟩
structure AstA where
  item : Int
  A : Option Addr
  c : Nat
  pics : List PicA
abbrev AstA.cells (a : AstA) : Array Value := #[.int .i64 a.item, .slice a.A a.pics.length a.c]
abbrev AstA.val (a : AstA) : Value := .agg a.cells
theorem AstA.cells_size (a : AstA) : a.cells.size = 2 := rfl
def AstA.ok (w : World) (a : AstA) : Prop := IsPics w a.A a.pics.length a.pics ∧ a.pics.length ≤ a.c ∧ a.c ≤ maxLen ∧ (a.A = none → a.c = 0) ∧ True
def astZ : AstA := ⟨0, none, 0, []⟩
def IsAsts (w : World) (A : Option Addr) (n : Nat) (l : List AstA) : Prop := IsRw 2 AstA.cells w A n l ∧ ∀ a ∈ l, a.ok w
theorem AstA.ok.below {w w' : World} {a : AstA} (h : a.ok w) (hb : Below w.heap.size w w') : a.ok w' := ⟨h.1.below hb, h.2⟩
theorem IsAsts.below {w w' : World} {A : Option Addr} {n : Nat} {l : List AstA} (h : IsAsts w A n l) (hb : Below w.heap.size w w') : IsAsts w' A n l := ⟨h.1.below hb, fun e he => (h.2 e he).below hb⟩
theorem IsAsts.get {w : World} {A : Option Addr} {n : Nat} {l : List AstA} (h : IsAsts w A n l) {i : Nat} (hi : i < n) :
    ∃ b off, A = some ⟨b, off, none⟩ ∧ b < w.heap.size ∧ w.cell? ⟨b, off + i * 2, none⟩ = some (.int .i64 (l.getD i astZ).item) ∧ w.cell? ⟨b, off + i * 2 + 1, none⟩ = some (.slice (l.getD i astZ).A (l.getD i astZ).pics.length (l.getD i astZ).c) ∧ (l.getD i astZ).ok w ∧ l.getD i astZ ∈ l := by
  obtain ⟨b, off, e, rfl, hb, he, hc⟩ := IsRw.at_ AstA.cells_size h.1 hi
  have hm : e ∈ l := List.mem_of_getElem? he
  rw [show l.getD i astZ = e by simp [List.getD, he]]
  exact ⟨b, off, rfl, hb, hc 0 _ rfl, hc 1 _ rfl, h.2 e hm, hm⟩
theorem drop_at {α : Type} {l : List α} {k : Nat} {d : α} (hk : k < l.length) : l.drop k = l.getD k d :: l.drop (k + 1) := by
  rw [List.drop_eq_getElem_cons hk]
  simp [List.getD, List.getElem?_eq_getElem hk]
theorem take_at {α : Type} {l : List α} {k : Nat} {d : α} (hk : k < l.length) : l.take (k + 1) = l.take k ++ [l.getD k d] := by
  rw [List.take_succ_eq_append_getElem hk]
  simp [List.getD, List.getElem?_eq_getElem hk]
def findA (i : Int) : List AstA → Option AstA
  | [] => none
  | a :: l => if a.item = i then some a else findA i l
theorem findA_mem {i : Int} {l : List AstA} {a : AstA} (h : findA i l = some a) : a ∈ l ∧ a.item = i := by
  induction l with
  | nil => simp [findA] at h
  | cons x l ih =>
    simp only [findA] at h
    split at h
    · cases h; exact ⟨List.mem_cons_self .., by assumption⟩
    · exact ⟨List.mem_cons_of_mem _ (ih h).1, (ih h).2⟩
theorem ret_ast {fn : Func} {R : Ending → World → Prop} {a : Act} {w : World} {p q : Tmp} {b : Nat} {t : TypeId} {v0 v1 v : Value} (hr : fn.results = #[.cell p 91, .tmp q]) (hp : a.tmps.getD p undef = .pointer (some ⟨b, 0, none⟩)) (hq : a.tmps.getD q undef = v)
    (hb : Box w b t #[v0, v1]) (hd : a.defers = []) (h : R (.returned (.tuple #[.agg #[v0, v1], v])) w) : bodyPost Tryz.prog fn R .ret a w := by
  have c0 := hb.cell (i := 0) rfl
  have c1 := hb.cell (i := 1) rfl
  refine bodyPost_ret (v := .tuple #[.agg #[v0, v1], v]) ?_ hd h
  rw [Array.getD_eq_getD_getElem?] at hp hq
  simp [results, hr, hp, hq, go_sem, c0, c1]
abbrev sizesP (l : List PicA) : List Int := l.map fun p => (p.data.size : Int)
theorem infoInt : (Tryz.prog.info? 3).map (fun i => (i.zero, i.size, i.bytes)) = some (some (.int .i64 0), 1, 8) := by kernel_rfl
theorem infoInt' : ∃ i, Tryz.prog.info? 3 = some i ∧ i.zero = some (.int .i64 0) ∧ i.size = 1 ∧ i.bytes = 8 := by
  have hf := infoInt
  cases hh : Tryz.prog.info? 3 with
  | none => rw [hh] at hf; cases hf
  | some i =>
    rw [hh] at hf
    simp only [Option.map_some, Option.some.injEq, Prod.mk.injEq] at hf
    exact ⟨i, rfl, hf⟩
def picBad (p : PicA) : Bool := decide ((400 : Int) < p.data.size) || (decide (p.power < 0) || decide (1000000 < p.power))
def validA (it : Int) (l : List PicA) : Bool :=
  !(decide (it < 1) || decide (4611686018427387903 < it)) && (!(decide (l.length < 1) || decide (2000 < l.length)) && ((l.getD 0 picZ).key && l.all (fun p => !picBad p)))
set_option maxRecDepth 100000 in
set_option maxHeartbeats 2000000 in
theorem mvalid_any (it : Int) (A : Option Addr) (n c : Nat) (l : List PicA) (w : World) (h : IsPics w A n l) (hm : n ≤ maxLen) :
    Calls Tryz.prog 37 #[.agg #[.int .i64 it, .slice A n c]] w fun e w' => e = .returned (.bool (validA it l)) ∧ Below w.heap.size w w' := by
  have b0 := Lib.hid (balloc w (.cells #[.int .i64 it, .slice A n c] 91))
  have H := Lib.hid (IsRw.below h b0.out)
  have H0 := Lib.hid h
  have hl := h.1
  have hm' : n ≤ 9223372036854775807 := hm
  clear h
  go_enter Tryz.func37, Tryz.ntmps37
  by_cases h1 : it < 1
  · go_wp2_with fail
    go_ret
    exact ⟨by simp [validA, hl, h1], b0.out⟩
  by_cases h2 : 4611686018427387903 < it
  · go_wp2_with fail
    go_ret
    exact ⟨by simp [validA, hl, h2], b0.out⟩
  by_cases h3 : n < 1
  · go_wp2_with fail
    go_ret
    exact ⟨by simp [validA, hl, h3], b0.out⟩
  by_cases h4 : 2000 < n
  · go_wp2_with fail
    go_ret
    exact ⟨by simp [validA, hl, h4], b0.out⟩
  obtain ⟨b, off, rfl, hbl, p0, p1, p2⟩ := IsPics.get H0.out (i := 0) (by omega)
  simp only [Nat.zero_mul, Nat.add_zero] at p0 p1 p2
  cases h5 : (l.getD 0 picZ).key with
  | false =>
    have H5 := Lib.hid h5
    rw [h5] at p0
    clear h5
    go_wp2_with fail
    go_ret
    exact ⟨by simp [validA, H5.out, -List.getD_eq_getElem?_getD], b0.out⟩
  | true =>
    have HV : Hid (validA it l = l.all (fun p => !picBad p)) := Lib.hid (by simp [validA, h5, hl, h1, h2, h3, h4, -List.getD_eq_getElem?_getD])
    rw [h5] at p0
    clear h5
    go_wp2_with fail
    go_loopw [34] (fun i wr => ∃ (k : Nat), k ≤ n ∧ i = .int .i64 k ∧ l.all (fun p => !picBad p) = (l.drop k).all (fun p => !picBad p) ∧ Below w.heap.size w wr ∧ Below (w.heap.size + 1) (w.alloc (.cells #[.int .i64 it, .slice (some ⟨b, off, none⟩) n c] 91)) wr) (fun i _ => n - (intOf i).toNat)
    case atStart => exact ⟨0, Nat.zero_le _, rfl, rfl, b0.out, Below.refl _ _⟩
    case round =>
      obtain ⟨k, hk, rfl, hst, hB, hB1⟩ := hrel
      have hB1' := hB1
      rw [← World.size_alloc w (.cells #[.int .i64 it, .slice (some ⟨b, off, none⟩) n c] 91)] at hB1'
      have c0 := ((Box.new w 91 #[.int .i64 it, .slice (some ⟨b, off, none⟩) n c]).next hB1').cell (i := 1) rfl
      have hlx := hB1.size
      rw [World.size_alloc] at hlx
      have HST := Lib.hid hst
      clear hst
      by_cases hlt : k < n
      · obtain ⟨b', off', hbo, hbl', q0, q1, q2⟩ := IsPics.get (IsRw.below H.out hB1') hlt
        cases hbo
        rw [drop_at (d := picZ) (by omega)] at HST
        generalize l.getD k picZ = p at *
        obtain ⟨ky, S, pw⟩ := p
        simp only at q0 q1 q2
        by_cases j1 : (400 : Int) < S.size
        · go_wp2_with fail
          go_ret
          exact ⟨by rw [HV.out, HST.out]; simp [picBad, j1], (hB.alloc hB.size _)⟩
        by_cases j2 : pw < 0
        · go_wp2_with fail
          go_ret
          exact ⟨by rw [HV.out, HST.out]; simp [picBad, j2], (hB.alloc hB.size _)⟩
        by_cases j3 : 1000000 < pw
        · go_wp2_with fail
          go_ret
          exact ⟨by rw [HV.out, HST.out]; simp [picBad, j3], (hB.alloc hB.size _)⟩
        go_wp2_with fail
        go_roundw
        case rel => exact ⟨k + 1, by omega, by go_num, by rw [HST.out]; simp [picBad, j1, j2, j3], (hB.alloc hB.size _), (hB1.alloc hlx _)⟩
        case measure => simp [intOf]; omega
      · go_wp2_with fail
        go_ret
        exact ⟨by rw [HV.out, HST.out, List.drop_of_length_le (by omega)]; rfl, hB⟩
theorem Rd.set {w : World} {size : Nat} {A : Option Addr} {n : Nat} {xs : List Value} (h : Rd w size A n xs) {b i : Nat} (v : Value) (hb : ∀ b' off, A = some ⟨b', off, none⟩ → b < b') : Rd (w.setCell ⟨b, i, none⟩ v) size A n xs := by
  obtain ⟨h1, h2⟩ := h
  refine ⟨h1, ?_⟩
  rcases h2 with h2 | ⟨b', off, rfl, hlt, hc⟩
  · exact .inl h2
  · have hne := hb b' off rfl
    refine .inr ⟨b', off, rfl, by simpa [World.setCell] using hlt, fun j hj => ?_⟩
    rw [← hc j hj]
    exact World.cell?_of_block (Below.heap_setCell w ⟨b, i, none⟩ v b' (by show b' ≠ b; omega))
set_option maxRecDepth 100000 in
theorem find1_any (x it : Int) (A : Option Addr) (n c q : Nat) (w : World) (hq : w.cell? ⟨q, 0, none⟩ = some (.int .i64 it)) :
    Calls Tryz.prog 75 #[.agg #[.int .i64 x, .slice A n c], .pointer (some ⟨q, 0, none⟩)] w fun e w' => e = .returned (.bool (x == it)) ∧ Below w.heap.size w w' := by
  have b0 := Lib.hid (balloc w (.cells #[.int .i64 x, .slice A n c] 91))
  have hql := World.block_lt_of_cell? w _ hq
  simp only at hql
  go_enter Tryz.func75, Tryz.ntmps75
  go_wp2_with fail
  go_ret
  exact ⟨rfl, b0.out⟩
set_option maxRecDepth 100000 in
set_option maxHeartbeats 2000000 in
theorem idxA_any (A : Option Addr) (n c : Nat) (l : List AstA) (it : Int) (q : Nat) (w : World) (h : IsAsts w A n l) (hm : n ≤ maxLen) (hq : w.cell? ⟨q, 0, none⟩ = some (.int .i64 it)) :
    Calls Tryz.prog 74 #[.slice A n c, .func (.func 75) #[] #[.pointer (some ⟨q, 0, none⟩)]] w fun e w' =>
      ((e = .returned (.int .i64 (-1)) ∧ findA it l = none) ∨ ∃ k, k < n ∧ e = .returned (.int .i64 (k : Nat)) ∧ findA it l = some (l.getD k astZ)) ∧ Below w.heap.size w w' := by
  have H := Lib.hid h
  have HQ := Lib.hid hq
  have hql := World.block_lt_of_cell? w _ hq
  simp only at hql
  have hl := h.1.1
  have hm' : n ≤ 9223372036854775807 := hm
  clear h hq
  go_enter Tryz.func74, Tryz.ntmps74
  go_wp2_with fail
  go_loopw [8] (fun i wr => ∃ (k : Nat), k ≤ n ∧ i = .int .i64 k ∧ findA it l = findA it (l.drop k) ∧ Below w.heap.size w wr) (fun i _ => n - (intOf i).toNat)
  case atStart => exact ⟨0, Nat.zero_le _, rfl, rfl, Below.refl _ _⟩
  case round =>
    obtain ⟨k, hk, rfl, hst, hB⟩ := hrel
    have HST := Lib.hid hst
    clear hst
    by_cases hlt : k < n
    · obtain ⟨b, off, rfl, hbl, ca, cb, hok, hmem⟩ := (H.out.below hB).get hlt
      rw [drop_at (d := astZ) (by omega)] at HST
      have HE : Hid (∀ a, l.getD k astZ = a → l.getD k astZ = a) := Lib.hid (fun _ e => e)
      clear hok hmem
      generalize hga : l.getD k astZ = a at *
      have HGA := Lib.hid hga
      clear hga HE
      obtain ⟨x, AA, cc, pp⟩ := a
      simp only at ca cb
      have hcl := find1_any x it AA pp.length cc q wr ((hB.cell (p := ⟨q, 0, none⟩) hql).trans HQ.out)
      have HCL := Lib.hid hcl
      clear hcl
      by_cases j1 : x = it
      · subst j1
        go_wp2_with (go_at_call 75; refine HCL.out.mono ?_; rintro e w2 ⟨rfl, b2⟩; simp only [beq_self_eq_true])
        go_ret
        exact ⟨.inr ⟨k, hlt, rfl, by rw [HST.out, HGA.out]; simp [findA]⟩, bnext hB b2⟩
      · have j1' : (x == it) = false := by simpa using j1
        go_wp2_with (go_at_call 75; refine HCL.out.mono ?_; rintro e w2 ⟨rfl, b2⟩; rw [j1'])
        go_roundw
        case rel => exact ⟨k + 1, by omega, by go_num, by rw [HST.out]; simp [findA, j1], bnext hB b2⟩
        case measure => simp [intOf]; omega
    · go_wp2_with fail
      go_ret
      exact ⟨.inl ⟨rfl, by rw [HST.out, List.drop_of_length_le (by omega)]; rfl⟩, hB⟩
theorem infoPic : (Tryz.prog.info? 96).map (fun i => (i.zero, i.size, i.bytes)) = some (some (.agg #[.bool false, .string .empty, .int .i64 0]), 3, 32) := by kernel_rfl
theorem infoPic' : ∃ i, Tryz.prog.info? 96 = some i ∧ i.zero = some (.agg #[.bool false, .string .empty, .int .i64 0]) ∧ i.size = 3 ∧ i.bytes = 32 := by
  have hf := infoPic
  cases hh : Tryz.prog.info? 96 with
  | none => rw [hh] at hf; cases hf
  | some i =>
    rw [hh] at hf
    simp only [Option.map_some, Option.some.injEq, Prod.mk.injEq] at hf
    exact ⟨i, rfl, hf⟩
theorem pics_ones (l : List PicA) : ∀ u ∈ rowCells PicA.cells l, u.oneCell' = true := by
  intro u hu
  simp only [List.mem_flatMap] at hu
  obtain ⟨a, _, hu⟩ := hu
  simp only [List.mem_cons, List.not_mem_nil, or_false] at hu
  rcases hu with rfl | rfl | rfl <;> rfl
def RetFind (r : Option AstA) (w : World) (e : Ending) (w' : World) : Prop :=
  ∃ B c, e = .returned (.tuple #[.agg #[.int .i64 (r.getD astZ).item, .slice B (r.getD astZ).pics.length c], .bool r.isSome]) ∧ IsPics w' B (r.getD astZ).pics.length (r.getD astZ).pics ∧ (r.getD astZ).pics.length ≤ c ∧ c ≤ maxLen ∧ (B = none → c = 0) ∧ Below w.heap.size w w' ∧ (∀ b off, B = some ⟨b, off, none⟩ → w.heap.size ≤ b)
set_option maxRecDepth 100000 in
set_option maxHeartbeats 2000000 in
theorem mfind_any (A : Option Addr) (n c : Nat) (l : List AstA) (it : Int) (w : World) (h : IsAsts w A n l) (hm : n ≤ maxLen) (hp : ∀ a ∈ l, a.pics.length ≤ 2000000) :
    Calls Tryz.prog 43 #[.slice A n c, .int .i64 it] w fun e w' => RetFind (findA it l) w e w' := by
  obtain ⟨i0, hi0, hz0, hz1, hz2⟩ := infoPic'
  have l0 := balloc w (.cells #[.int .i64 it] 3)
  have L1 := Lib.hid (l0.alloc l0.size (.cells #[.int .i64 0, .slice none 0 0] 91))
  have X0 := Lib.hid ((Box.new w 3 #[.int .i64 it]).next (balloc _ (.cells #[.int .i64 0, .slice none 0 0] 91)))
  have X1 := Lib.hid (Box.new (w.alloc (.cells #[.int .i64 it] 3)) 91 #[.int .i64 0, .slice none 0 0])
  rw [World.size_alloc] at X1
  have HI := Lib.hid (idxA_any A n c l it w.heap.size _ (h.below L1.out) hm (X0.out.cell (i := 0) rfl))
  have H := Lib.hid h
  have HP := Lib.hid hp
  have hl := h.1.1
  have hm' : n ≤ 9223372036854775807 := hm
  clear h l0 hp
  go_enter Tryz.func43, Tryz.ntmps43
  go_wp2_with fail
  refine HI.out.mono ?_
  rintro e w1 ⟨hr, bw⟩
  have hx0 := X0.out.next bw
  have hx1 := X1.out.next bw
  have B1 := Lib.hid (bnext L1.out bw)
  have e0 := hx0.cell (i := 0) rfl
  have r0 := hx1.cell (i := 0) rfl
  have r1 := hx1.cell (i := 1) rfl
  have q0 := hx1.frozen 0
  have q1 := hx1.frozen 1
  have hlt0 := hx0.lt
  have hlt1 := hx1.lt
  have Y0 := Lib.hid hx0
  have Y1 := Lib.hid hx1
  clear hx0 hx1 HI
  rcases hr with ⟨rfl, hf⟩ | ⟨k, hk, rfl, hf⟩
  · have HF := Lib.hid hf
    clear hf
    go_wp2_with fail
    refine ret_ast (b := w.heap.size + 1) rfl rfl rfl (by simpa using (Y1.out.set (i := 0) (.int .i64 0)).set (i := 1) (.slice none 0 0)) rfl ?_
    rw [HF.out]
    exact ⟨none, 0, rfl, IsRw.nil _ _, Nat.zero_le _, Nat.zero_le _, fun _ => rfl, (B1.out.setCell (by simp) _).setCell (by simp) _, fun _ _ e => by cases e⟩
  · obtain ⟨b, off, rfl, hbl, ca0, cb0, hok0, hmem⟩ := H.out.get hk
    have hok := hok0.below B1.out
    have ca := (B1.out.cell (p := ⟨b, off + k * 2, none⟩) hbl).trans ca0
    have cb := (B1.out.cell (p := ⟨b, off + k * 2 + 1, none⟩) hbl).trans cb0
    clear ca0 cb0 hok0
    have hfm := (findA_mem hf).2
    have hpl := HP.out _ hmem
    have HF := Lib.hid hf
    obtain ⟨ok1, ok2, ok3, ok4, _⟩ := hok
    have HR := Lib.hid ok1.2
    have HN := Lib.hid ok4
    clear hf hmem ok1 ok4
    generalize l.getD k astZ = a at *
    obtain ⟨x, AA, cc, pp⟩ := a
    simp only at ca cb hfm hpl ok2 ok3 HR HN
    subst hfm
    have hne1 : b ≠ w.heap.size + 1 := by omega
    have hne2 : w.heap.size ≠ w.heap.size + 1 := by omega
    have HNN : Hid (AA = none → pp.length = 0 ∧ cc = 0) := Lib.hid (fun e => by have := HN.out e; omega)
    go_wp2_with fail
    go_region_held3 (fun w' => w'.cell? ⟨w.heap.size, 0, none⟩ = some (.int .i64 x) ∧ w'.cell? ⟨b, off + k * 2 + 1, none⟩ = some (.slice AA pp.length cc))
      (first
        | (exact ⟨gx0, gx1⟩)
        | (exact ⟨by rw [World.cell?_setCell_other _ _ _ _ (by simp), World.cell?_setCell_other _ _ _ _ (by simp)]; exact gx0, by rw [World.cell?_setCell_other _ _ _ _ (by simp), World.cell?_setCell_other _ _ _ _ (by simp)]; exact gx1⟩)
        | (refine ⟨?_, ?_⟩ <;> go_keep))
      (first
        | (refine step_append_rd (w1.drew) rfl (.const (.slice none 0 0)) (.tmp 18) 89 rfl w1.heap.size 96 i0 (.agg #[.bool false, .string .empty, .int .i64 0]) 3 32 Tryz.underlying89 hi0 hz0 hz1 hz2 rfl (by decide) (.slice none 0 0) 0 [] rfl (World.ownsRow_nil _ _ _ _) AA pp.length cc (rowCells PicA.cells pp) rfl HNN.out (HR.out.below ((Below.refl _ _).drew)) (pics_ones _) (by unfold maxLen; omega) (by omega) (by simp) ?_; intro BB c1 w4 hown1 hgrow1 hat1; have gx0 : w4.cell? ⟨w.heap.size, 0, none⟩ = some (.int .i64 x) := grown_cell hgrow1 (by go_keep) (by simp [Value.ownBlock]); have gx1 : w4.cell? ⟨b, off + k * 2 + 1, none⟩ = some (.slice AA pp.length cc) := grown_cell hgrow1 (by go_keep) (by simp [Value.ownBlock]); have ga0 : w4.cell? ⟨w.heap.size + 1, 0, none⟩ = some (.int .i64 0) := grown_cell hgrow1 (by go_keep) (by simp [Value.ownBlock]); have gf0 : w4.frozen? ⟨w.heap.size + 1, 0, none⟩ = false := (grown_frozen (v := .int .i64 0) hgrow1 (by go_keep) (by simp [Value.ownBlock])).trans (by go_keep); have ga1 : w4.cell? ⟨w.heap.size + 1, 1, none⟩ = some (.slice none 0 0) := grown_cell hgrow1 (by go_keep) (by simp [Value.ownBlock]); have gf1 : w4.frozen? ⟨w.heap.size + 1, 1, none⟩ = false := (grown_frozen (v := .slice none 0 0) hgrow1 (by go_keep) (by simp [Value.ownBlock])).trans (by go_keep); have HG := Lib.hid hgrow1; have HO := Lib.hid hown1; clear hgrow1 hown1 hat1))
    go_wp2_with fail
    simp only [Nat.zero_add, List.nil_append] at HO
    have hb : Below w.heap.size w w4 := (B1.out.drew).grown HG.out B1.out.size (fun k e => by cases e)
    have hx : Box w4 (w.heap.size + 1) 91 #[.int .i64 0, .slice none 0 0] := Box.grown (w := w1.drew) Y1.out HG.out (by simp [Value.ownBlock])
    have h6 : ∀ b' o', BB = some ⟨b', o', none⟩ → w.heap.size + 1 < b' := fun b' o' e => Nat.lt_of_lt_of_le hlt1 (own_base HO.out b' o' e)
    refine ret_ast (b := w.heap.size + 1) rfl rfl rfl (by simpa using (hx.set (i := 0) (.int .i64 x)).set (i := 1) (.slice BB pp.length c1)) rfl ?_
    rw [HF.out]
    have f := own_facts HO.out
    exact ⟨BB, c1, rfl, ⟨rfl, ((Rd.of_own HO.out).set _ h6).set _ h6⟩, f.1, f.2.1, f.2.2, (hb.setCell (by simp) _).setCell (by simp) _, fun b' o' e => by have := h6 b' o' e; omega⟩
theorem own_empty (w : World) (t : TypeId) (size : Nat) : (w.alloc (.cells #[] t)).ownsRow w.heap.size t size (.slice (some ⟨w.heap.size, 0, none⟩) 0 0) 0 [] :=
  ⟨by simp, .inr ⟨w.heap.size, 0, #[], rfl, Nat.le_refl _, heap_alloc_new w _, Nat.le_refl _, Nat.zero_le _, by simp, by simp⟩⟩
set_option maxRecDepth 100000 in
set_option maxHeartbeats 1000000 in
theorem clone_any (A : Option Addr) (n c : Nat) (l : List PicA) (w : World) (h : IsPics w A n l) (hA : A = none → c = 0) (hc : n ≤ c) (hm : n ≤ 2000000) :
    Calls Tryz.prog 38 #[.slice A n c] w fun e w' => ∃ B d, e = .returned (.slice B n d) ∧ IsPics w' B n l ∧ n ≤ d ∧ d ≤ maxLen ∧ (B = none → d = 0) ∧ Below w.heap.size w w' ∧ (∀ b off, B = some ⟨b, off, none⟩ → w.heap.size ≤ b) := by
  obtain ⟨i0, hi0, hz0, hz1, hz2⟩ := infoPic'
  have hl := h.1
  have H := Lib.hid (h.below (balloc w (.cells #[] 96))).2
  have HO := Lib.hid (own_empty w 96 3)
  have hB := Lib.hid (balloc w (.cells #[] 96))
  have qT : ∀ (w : World) (a : Option Addr) (n c : Nat), (binOp .eql 89 (.slice a n c) (.slice none 0 0)).run Tryz.prog w = .ok (.bool a.isNone) w := fun w a n c => Lib.run_eql_slice_nil w 89 96 a n c 0 0 Tryz.underlying89
  cases A with
  | none =>
    have := hA rfl
    subst this
    obtain rfl : n = 0 := by omega
    have hl0 : l = [] := List.eq_nil_of_length_eq_zero hl
    subst hl0
    clear h
    go_enter Tryz.func38, Tryz.ntmps38
    go_wp2_with fail
    go_ret
    exact ⟨none, 0, rfl, IsRw.nil _ _, Nat.zero_le _, fun _ => rfl, Below.refl _ _, fun _ _ e => by cases e⟩
  | some a =>
    clear h
    go_enter Tryz.func38, Tryz.ntmps38
    go_wp2_with (at_builtin; refine wpList_append_rd _ rfl (.tmp 5) (.tmp 6) 89 rfl w.heap.size 96 i0 (.agg #[.bool false, .string .empty, .int .i64 0]) 3 32 Tryz.underlying89 hi0 hz0 hz1 hz2 rfl (by decide) (.slice (some ⟨w.heap.size, 0, none⟩) 0 0) 0 [] rfl HO.out (some a) n c (rowCells PicA.cells l) rfl (fun e => by cases e) H.out (pics_ones _) (by unfold maxLen; omega) (by omega) (by simp) ?_; intro B1 c1 w4 hown1 hgrow1 hat1; have Hown1 := Lib.hid hown1; have Hg1 := Lib.hid hgrow1; clear hown1 hgrow1 hat1)
    go_ret
    simp only [Nat.zero_add, List.nil_append] at Hown1
    have f := own_facts Hown1.out
    exact ⟨B1, c1, by simp, ⟨hl, Rd.of_own Hown1.out⟩, f.1, f.2.1, f.2.2, hB.out.grown Hg1.out hB.out.size (own_ge HO.out), own_base Hown1.out⟩
set_option maxRecDepth 100000 in
theorem sizes1_any (p : PicA) (w : World) :
    Calls Tryz.prog 55 #[p.val] w fun e w' => e = .returned (.int .i64 (p.data.size : Int)) ∧ Below w.heap.size w w' := by
  obtain ⟨k, S, pw⟩ := p
  have b0 := Lib.hid (balloc w (.cells #[.bool k, .string S, .int .i64 pw] 96))
  go_enter Tryz.func55, Tryz.ntmps55
  go_wp2_with fail
  go_ret
  exact ⟨rfl, b0.out⟩
set_option maxRecDepth 100000 in
set_option maxHeartbeats 2000000 in
theorem column_any (A : Option Addr) (n c : Nat) (l : List PicA) (w : World) (h : IsPics w A n l) (hm : n ≤ 2000000) :
    Calls Tryz.prog 54 #[.slice A n c, .func (.func 55) #[] #[]] w fun e w' => RetInts (sizesP l) w e w' := by
  have H := Lib.hid h
  have hl := h.1
  clear h
  obtain ⟨i0, hi0, hz0, hz1, hz2⟩ := infoInt'
  obtain ⟨w0, hr0, ho0, hg0⟩ := run_make_own (P := Tryz.prog) w w.heap.size 22 3 i0 (.int .i64 0) 1 Tryz.underlying22 hi0 hz0 hz1 .i64 .i64 n (by rw [hz2]; omega) (by unfold maxLen; omega) (Nat.le_refl _)
  have b0 := Lib.hid ((Below.refl w.heap.size w).grown hg0 (Nat.le_refl _) (fun k e => by cases e))
  have o0 := Lib.hid ho0
  clear ho0 hg0
  go_enter Tryz.func54, Tryz.ntmps54
  go_wp2_with fail
  go_loopw [5, 13] (fun s i wr => ∃ (k : Nat) (B : Option Addr) (d : Nat), k ≤ n ∧ i = .int .i64 k ∧ s = .slice B k d ∧ wr.ownsRow w.heap.size 3 1 (.slice B k d) k (ints (sizesP (l.take k))) ∧ Below w.heap.size w wr) (fun _ i _ => n - (intOf i).toNat)
  case atStart => exact ⟨0, _, n, Nat.zero_le _, rfl, rfl, o0.out, b0.out⟩
  case round =>
    obtain ⟨k, B, d, hk, rfl, rfl, hown, hB⟩ := hrel
    have HO := Lib.hid hown
    clear hown
    by_cases hlt : k < n
    · obtain ⟨b, off, rfl, hbl, p0, p1, p2⟩ := IsPics.get (IsRw.below H.out hB) hlt
      have HT : Hid (ints (sizesP (l.take (k + 1))) = ints (sizesP (l.take k)) ++ ints [((l.getD k picZ).data.size : Int)]) := Lib.hid (by rw [take_at (d := picZ) (by omega)]; simp)
      generalize l.getD k picZ = p at *
      obtain ⟨ky, S, pw⟩ := p
      simp only at p0 p1 p2 HT
      obtain ⟨wa, hwa⟩ : ∃ wa, wr.alloc (.cells #[.bool ky, .string S, .int .i64 pw] 96) = wa := ⟨_, rfl⟩
      have hxa : Box wa wr.heap.size 96 #[.bool ky, .string S, .int .i64 pw] := by rw [← hwa]; exact Box.new _ _ _
      have hba : Below wr.heap.size wr wa := by rw [← hwa]; exact balloc _ _
      have a0 := hxa.cell (i := 0) rfl
      have a1 := hxa.cell (i := 1) rfl
      have a2 := hxa.cell (i := 2) rfl
      have HBA := Lib.hid hba
      clear hxa hba
      go_wp2_with (first
        | (go_at_call 55; refine (sizes1_any ⟨ky, S, pw⟩ _).mono ?_; rintro e w2 ⟨rfl, b2⟩; have HB2 := Lib.hid (bnext hB (bnext HBA.out b2)); have HO2 := Lib.hid (own_below HO.out (bnext HBA.out b2)); have HN : Hid (Rd (w2.alloc (Obj.cells #[.int .i64 (S.size : Int)] 3)) 1 (some ⟨w2.heap.size, 0, none⟩) 1 (ints [(S.size : Int)])) := Lib.hid (ofInts (isInts_new w2 3 [(S.size : Int)] (by simp [maxLen]))); have HOa := Lib.hid (HO2.out.alloc (Obj.cells #[.int .i64 (S.size : Int)] 3)); have HBa := Lib.hid (HB2.out.alloc HB2.out.size (Obj.cells #[.int .i64 (S.size : Int)] 3)); clear b2)
        | (at_builtin; refine wpList_append_rd (w2.alloc (Obj.cells #[.int .i64 (S.size : Int)] 3)) rfl (.tmp 17) (.tmp 21) 22 rfl w.heap.size 3 i0 (.int .i64 0) 1 8 Tryz.underlying22 hi0 hz0 hz1 hz2 rfl (by decide) (.slice B k d) k (ints (sizesP (l.take k))) rfl HOa.out _ 1 _ (ints [(S.size : Int)]) rfl (fun e => by cases e) HN.out (ints_ones _) (by unfold maxLen; omega) (by omega) HBa.out.size ?_; intro B1 c1 w4 hown1 hgrow1 hat1; have Hb1 := Lib.hid (HBa.out.grown hgrow1 HBa.out.size (own_ge HOa.out)); have Hown1 := Lib.hid hown1; clear hown1 hgrow1 hat1))
      go_roundw
      case rel => exact ⟨k + 1, B1, c1, by omega, by go_num, rfl, by rw [HT.out]; exact Hown1.out, Hb1.out⟩
      case measure => simp [intOf]; omega
    · obtain rfl : k = n := by omega
      go_wp2_with fail
      go_ret
      have ht : l.take k = l := List.take_of_length_le (by omega)
      have ho := HO.out
      rw [ht] at ho
      have f := own_facts ho
      have hll : (sizesP l).length = k := by simp [hl]
      unfold RetInts
      rw [hll]
      exact ⟨B, d, rfl, toInts (Rd.of_own ho), f.1, f.2.1, f.2.2, hB⟩
set_option maxRecDepth 100000 in
theorem msizes_any (it : Int) (A : Option Addr) (n c : Nat) (l : List PicA) (w : World) (h : IsPics w A n l) (hm : n ≤ 2000000) :
    Calls Tryz.prog 30 #[.agg #[.int .i64 it, .slice A n c]] w fun e w' => RetInts (sizesP l) w e w' := by
  have b0 := Lib.hid (balloc w (.cells #[.int .i64 it, .slice A n c] 91))
  have H := Lib.hid (IsRw.below h b0.out)
  clear h
  go_enter Tryz.func30, Tryz.ntmps30
  go_wp2_with fail
  refine (column_any A n c l _ H.out hm).mono ?_
  rintro e w1 ⟨B, d, rfl, h1, h2, h3, h4, b2⟩
  go_wp2_with fail
  go_ret
  exact ⟨B, d, by simp, h1, h2, h3, h4, bnext b0.out b2⟩
theorem Hp.ne {w0 w : World} {L : List HB} {K : List FK} (H : Hp w0 w L K) (i j : Nat) {b c t u : Nat} {vs us : List Value} {f f' : Bool} (hi : L[i]? = some (bx b t vs f)) (hj : L[j]? = some (bx c u us f')) (hne : i ≠ j) : b ≠ c := fun e => pairwise_at H.apart hi hj hne b rfl e
theorem Hp.same {w0 w : World} {L : List HB} {K : List FK} (H : Hp w0 w L K) (h : ∀ x ∈ L, x.fresh = true ∨ ∀ k, x.fp k → k < w0.heap.size → w.heap[k]? = w0.heap[k]?) : Below w0.heap.size w0 w :=
  ⟨H.os, H.tape, H.output, H.size, fun k hk => by
    by_cases hx : ∃ x ∈ L, x.fp k
    · obtain ⟨x, hx, hf⟩ := hx
      rcases h x hx with h | h
      · have := H.fresh x hx h k hf; omega
      · exact h k hf hk
    · exact H.old k hk fun x hx' hf => hx ⟨x, hx', hf⟩⟩
theorem bx_same {w0 w : World} {b t : Nat} {vs : List Value} {f : Bool} (h0 : Box w0 b t vs.toArray) (h : Box w b t vs.toArray) : ∀ k, (bx b t vs f).fp k → k < w0.heap.size → w.heap[k]? = w0.heap[k]? := fun k hk _ => by cases hk; exact h.trans h0.symm
theorem Rd.lt {w : World} {size n j : Nat} {A : Option Addr} {xs : List Value} (h : Rd w size A n xs) (hj : rowFp n A j) : j < w.heap.size := by
  obtain ⟨h1, h2⟩ := h
  obtain ⟨hn, off, rfl⟩ := hj
  rcases h2 with h2 | ⟨b, o, he, hlt, _⟩
  · omega
  · cases he; exact hlt
abbrev okT {α : Type} : α → World → Prop := fun _ _ => True
abbrev feF {α : Type} : α → Nat → Prop := fun _ _ => False
section
variable {α : Type} {k : Nat} {cs : α → Array Value}
theorem flat_len (hk : ∀ e, (cs e).size = k) (l : List α) : (flat cs l).length = l.length * k := by
  induction l with
  | nil => simp
  | cons a l ih => simp only [flat, List.flatMap_cons, List.length_append, List.length_cons] at *; rw [ih, Array.length_toList, hk, Nat.succ_mul, Nat.add_comm]
theorem flat_get (hk : ∀ e, (cs e).size = k) (l : List α) (i j : Nat) (h : i < l.length) (hj : j < k) : (flat cs l)[i * k + j]? = (cs l[i])[j]? := by
  induction l generalizing i with
  | nil => simp at h
  | cons a l ih =>
    have ha := hk a
    cases i with
    | zero => simp only [flat, List.flatMap_cons, Nat.zero_mul, Nat.zero_add]; rw [List.getElem?_append_left (by simpa [ha] using hj)]; simp
    | succ i =>
      have := ih i (by simpa using h)
      rw [show (i + 1) * k + j = (i * k + j) + k by rw [Nat.succ_mul]; omega]
      simp only [flat, List.flatMap_cons]
      rw [List.getElem?_append_right (by simp [ha])]
      simpa [ha] using this
def IsRow (k : Nat) (cs : α → Array Value) (w : World) (A : Option Addr) (l : List α) : Prop := Rd w k A l.length (flat cs l)
theorem IsRow.below {w w' : World} {A : Option Addr} {l : List α} (h : IsRow k cs w A l) (hb : Below w.heap.size w w') : IsRow k cs w' A l := Rd.below h hb
theorem IsRow.nil (w : World) (A : Option Addr) : IsRow k cs w A [] := Rd.nil _ _ _
theorem drop_get {α : Type} {l : List α} {i : Nat} (h : i < l.length) : l.drop i = l[i] :: l.drop (i + 1) := (List.getElem_cons_drop h).symm
theorem IsRow.get (hk : ∀ e, (cs e).size = k) {w : World} {A : Option Addr} {l : List α} (h : IsRow k cs w A l) {i : Nat} (hi : i < l.length) :
    ∃ b off x, A = some ⟨b, off, none⟩ ∧ b < w.heap.size ∧ l.drop i = x :: l.drop (i + 1) ∧ l[i]? = some x ∧ x ∈ l ∧ cellsAt w b (off + i * k) (cs x).toList := by
  obtain ⟨h1, h3⟩ := h
  obtain ⟨b, off, rfl, hb, hc⟩ := h3.resolve_left (by omega)
  refine ⟨b, off, l[i], rfl, hb, drop_get hi, List.getElem?_eq_getElem hi, List.getElem_mem hi, fun j v hv => ?_⟩
  have hj : j < k := by
    have := (List.getElem?_eq_some_iff.1 hv).1
    rwa [Array.length_toList, hk] at this
  have hm : i * k + j < l.length * k := by
    have : (i + 1) * k ≤ l.length * k := Nat.mul_le_mul_right _ (by omega)
    rw [Nat.succ_mul] at this
    omega
  rw [Nat.add_assoc, hc (i * k + j) hm, flat_get hk l i j hi hj]
  simpa using hv
theorem flat_take (hk : ∀ e, (cs e).size = k) (l : List α) (j : Nat) : (flat cs l).take (j * k) = flat cs (l.take j) := by
  induction l generalizing j with
  | nil => simp
  | cons a l ih =>
    cases j with
    | zero => simp
    | succ j =>
      simp only [flat, List.flatMap_cons, List.take_succ_cons] at *
      rw [List.take_append, ← ih j, Array.length_toList, hk, Nat.succ_mul, Nat.add_sub_cancel, List.take_of_length_le (by rw [Array.length_toList, hk]; omega)]
theorem IsRow.take (hk : ∀ e, (cs e).size = k) {w : World} {A : Option Addr} {l : List α} (h : IsRow k cs w A l) {j : Nat} (hj : j ≤ l.length) : IsRow k cs w A (l.take j) := by
  unfold IsRow
  rw [List.length_take, Nat.min_eq_left hj, ← flat_take hk]
  exact Rd.take h hj
theorem IsRow.keep {w w' : World} {A : Option Addr} {l : List α} (h : IsRow k cs w A l) (hk : ∀ b, rowFp l.length A b → w'.heap[b]? = w.heap[b]?) (hs : w.heap.size ≤ w'.heap.size) : IsRow k cs w' A l := Rd.keep h hk hs
theorem IsRow.lt {w : World} {A : Option Addr} {l : List α} (h : IsRow k cs w A l) : ∀ b, rowFp l.length A b → b < w.heap.size := fun b hb => Rd.lt h hb
end
theorem ex_indexA {P : Program} {ρ : Operand → Value} {w : World} {t e : TypeId} {x y : Operand} {dst : Option Tmp} {ty : TypeId} {pos : String} {af : Array Edge} {g : Option (Nat × Bool)} {A : Option Addr} {b off len cap m k : Nat} {i : Int} {ik : IntKind}
    (hA : A = some ⟨b, off, none⟩) (hx : ρ x = .slice A len cap) (hy : ρ y = .int ik i) (hm : i = m) (hlt : m < len) (hu : P.underlying t = some (.slice e)) (hs : sizeB P e = some k) : (execOp ρ ⟨dst, .indexAddr t x y, ty, pos, af, g⟩).run P w = .ok (.value (.pointer (some ⟨b, off + m * k, none⟩))) w := by
  subst hA; exact ex_index hx hy hm hlt hu hs
theorem IsRow.cells {α : Type} {k : Nat} {cs : α → Array Value} (hk : ∀ e, (cs e).size = k) {w : World} {b off : Nat} {A : Option Addr} {l : List α} (h : IsRow k cs w A l) (hA : A = some ⟨b, off, none⟩) {i : Nat} {x : α} (hx : l[i]? = some x) : cellsAt w b (off + i * k) (cs x).toList := by
  subst hA
  obtain ⟨b', off', x', hA, _, _, hx', _, hc⟩ := h.get hk (i := i) (List.getElem?_eq_some_iff.1 hx).1
  cases hA
  rw [hx] at hx'
  cases hx'
  exact hc
def rowF {α : Type} (k : Nat) (cs : α → Array Value) (A : Option Addr) (l : List α) : FK := ⟨rowFp l.length A, fun w => IsRow k cs w A l⟩
theorem rowF_ok {α : Type} (k : Nat) (cs : α → Array Value) (A : Option Addr) (l : List α) : (rowF k cs A l).ok := fun _ _ h hk hs => IsRow.keep h hk hs
section
variable {α : Type} {cs : α → Array Value} {size : Nat}
def dropA (A : Option Addr) (cap i sz : Nat) : Option Addr := if cap = i then A else A.map (·.add (i * sz))
theorem flat_drop (hk : ∀ x, (cs x).size = size) (l : List α) (j : Nat) : (flat cs l).drop (j * size) = flat cs (l.drop j) := by
  induction l generalizing j with
  | nil => simp
  | cons a l ih =>
    cases j with
    | zero => simp
    | succ j =>
      simp only [flat, List.flatMap_cons, List.drop_succ_cons] at *
      rw [List.drop_append, ← ih j, Array.length_toList, hk, Nat.succ_mul, Nat.add_sub_cancel, List.drop_of_length_le (by rw [Array.length_toList, hk]; omega), List.nil_append]
theorem IsRow.dropA (hk : ∀ x, (cs x).size = size) {w : World} {A : Option Addr} {l : List α} {cap i : Nat} (h : IsRow size cs w A l) (hc : l.length ≤ cap) (hi : i ≤ l.length) : Rd w size (dropA A cap i size) (l.length - i) (flat cs (l.drop i)) := by
  obtain ⟨h1, h2⟩ := h
  refine ⟨by rw [flat_len hk, List.length_drop], ?_⟩
  by_cases hz : l.length - i = 0
  · exact .inl hz
  · obtain ⟨b, off, rfl, hb, hcell⟩ := h2.resolve_left (by omega)
    refine .inr ⟨b, off + i * size, ?_, hb, fun j hj => ?_⟩
    · unfold Proofs.YthpbaaadkhdifaaGreatDoor.dropA
      rw [if_neg (by omega), Option.map_some, add_plain]
    · rw [Nat.add_assoc, hcell (i * size + j) (by rw [Nat.sub_mul] at hj; omega), ← flat_drop hk, List.getElem?_drop]
end
section
variable {P : Program} {ρ : Operand → Value} {w : World} {t e : TypeId} {x y : Operand} {dst : Option Tmp} {ty : TypeId} {pos : String} {af : Array Edge} {g : Option (Nat × Bool)}
theorem ex_sliceLo {A : Option Addr} {len cap i sz : Nat} {lo : Int} (hx : ρ x = .slice A len cap) (hy : ρ y = .int .i64 lo) (hu : P.underlying t = some (.slice (P.elem t))) (hs : sizeB P (P.elem t) = some sz) (h1 : lo = (i : Int)) (h2 : i ≤ len) :
    (execOp ρ ⟨dst, .slice t x (some y) none none, ty, pos, af, g⟩).run P w = .ok (.value (.slice (dropA A cap i sz) (len - i) (cap - i))) w := by
  subst h1
  have e : sliced A i len cap sz = .slice (dropA A cap i sz) (len - i) (cap - i) := rfl
  simp only [execOp, hx, hy, Option.map_none, Option.map_some, run_sliceAt_slice w t _ _ _ _ hu, run_slice_l w t A len cap hu .i64 (i : Int) (by omega) (by omega), run_sizeOf hs, Sem.run_bind, Result.andThen_ok, Sem.run_pure, Int.toNat_natCast, e]
end
section
variable {α : Type} {cs : α → Array Value} {size : Nat} {e : TypeId}
theorem Hp.rowBox {w0 w : World} {L : List HB} {K : List FK} (H : Hp w0 w L K) (i : Nat) {B : Option Addr} {n c : Nat} {l : List α} (hi : L[i]? = some (rowsR w0.heap.size e size cs okT feF (.slice B n c) l)) (hn : l.length = n) (h0 : 0 < n) :
    ∃ g tail, B = some ⟨g, 0, none⟩ ∧ n ≤ c ∧ Hp w0 w (L.set i (bx g e (flat cs l ++ tail) true)) K := by
  subst hn
  obtain ⟨⟨h1, h2⟩, _⟩ := H.held i hi
  rcases h2 with ⟨_, h2⟩ | ⟨g, cap, cur, hv, hg, hh, hc, hm, hs, ht⟩
  · omega
  · cases hv
    have hx : Box w g e cur := hh
    refine ⟨g, cur.toList.drop (l.length * size), rfl, hc, H.mut i hi _ _ rfl (Agree.of_below (Below.refl _ _)) ?_ (bx_ok _ _ _ _) (fun q hq => ?_) (fun q hq => ?_) (fun q hq hq' => ?_) rfl⟩
    · show Box w g e _
      rw [← ht, List.take_append_drop]
      exact hx
    · cases hq; exact hx.lt
    · cases hq; exact .inl (.inl rfl)
    · have := H.fresh _ (List.mem_of_getElem? hi) rfl q hq'
      omega
end
theorem flat_cell {α : Type} {cs : α → Array Value} {size : Nat} (hk : ∀ x, (cs x).size = size) {l : List α} {j : Nat} {x : α} (h : l[j]? = some x) {f : Nat} (hf : f < size) : (flat cs l)[j * size + f]? = (cs x).toList[f]? := by
  obtain ⟨hj, rfl⟩ := List.getElem?_eq_some_iff.1 h
  rw [flat_get hk l j f hj hf, Array.getElem?_toList]
theorem Hp.elem {α : Type} {cs : α → Array Value} {size : Nat} (hk : ∀ x, (cs x).size = size) {w0 w : World} {L : List HB} {K : List FK} (H : Hp w0 w L K) (i : Nat) {g : Nat} {e : TypeId} {l : List α} {tail : List Value} (hi : L[i]? = some (bx g e (flat cs l ++ tail) true)) {j : Nat} {x : α} (hj : l[j]? = some x) : cellsAt w g (j * size) (cs x).toList := by
  intro f v hv
  have hf : f < size := by
    have := (List.getElem?_eq_some_iff.1 hv).1
    rwa [Array.length_toList, hk] at this
  have hjl := (List.getElem?_eq_some_iff.1 hj).1
  have hm : j * size + size ≤ l.length * size := by rw [← Nat.succ_mul]; exact Nat.mul_le_mul_right _ hjl
  exact H.cell i hi (j * size + f) (by rw [List.getElem?_append_left (by rw [flat_len hk]; omega), flat_cell hk hj hf]; exact hv)
theorem IsRow.ofBox {α : Type} {cs : α → Array Value} {size : Nat} (hk : ∀ x, (cs x).size = size) {w : World} {g : Nat} {e : TypeId} {l : List α} {tail : List Value} (h : Box w g e (flat cs l ++ tail).toArray) : IsRow size cs w (some ⟨g, 0, none⟩) l := by
  refine ⟨flat_len hk l, .inr ⟨g, 0, rfl, h.lt, fun i hi => ?_⟩⟩
  have hi' : i < (flat cs l).length := by rw [flat_len hk l]; exact hi
  rw [Nat.zero_add, List.getElem?_eq_getElem hi']
  exact h.cell (by rw [List.getElem?_toArray, List.getElem?_append_left hi', List.getElem?_eq_getElem hi'])
theorem IsRow.ofOwn {α : Type} {cs : α → Array Value} {size base n c : Nat} {e : TypeId} {w : World} {B : Option Addr} {l : List α} (h : (rowsR base e size cs okT feF (.slice B n c) l).F w) (hn : l.length = n) : IsRow size cs w B l := by
  subst hn
  exact Rd.of_own h.1
theorem win_cell {w : World} {b t o k : Nat} {pre vs post : List Value} {v : Value} (h : Box w b t (pre ++ vs ++ post).toArray) (ho : pre.length = o) (hv : vs[k]? = some v) : w.cell? ⟨b, o + k, none⟩ = some v := by
  have hk := (List.getElem?_eq_some_iff.1 hv).1
  refine h.cell ?_
  rw [List.getElem?_toArray, List.append_assoc, List.getElem?_append_right (by omega), ho, show o + k - o = k by omega, List.getElem?_append_left hk]
  exact hv
theorem win_cells {w : World} {b t o : Nat} {pre vs post : List Value} (h : Box w b t (pre ++ vs ++ post).toArray) (ho : pre.length = o) (k n : Nat) : cellsAt w b (o + k) ((vs.drop k).take n) := fun i v hv => by
  rw [Nat.add_assoc]
  refine win_cell h ho (k := k + i) ?_
  rw [List.getElem?_take] at hv
  split at hv
  · rwa [List.getElem?_drop] at hv
  · cases hv
theorem win_set {pre vs post : List Value} {o k : Nat} {v : Value} (ho : pre.length = o) (hk : k < vs.length) : (pre ++ vs ++ post).set (o + k) v = pre ++ vs.set k v ++ post := by
  rw [List.append_assoc, List.set_append_right _ _ (by omega), ho, show o + k - o = k by omega, List.set_append_left _ _ hk, List.append_assoc]
section
variable {P : Program} {ops : Array Oper} {Q : Exit → Act → World → Prop} {a : Act} {w0 w : World} {LH : List HB} {K : List FK} {rest : List Oper} {n : Nat} {L : List (Nat × Value)} {t : TypeId} {x y : Operand} {ty : TypeId} {pos : String} {af : Array Edge} {g : Option (Nat × Bool)}
theorem one_of {v : Value} (h : one v = true) : v.cells.size = 1 ∧ oneCells v.cells.toList = true ∧ v.cells.toList = [v] := by
  obtain ⟨h1, h2⟩ := one_cells h
  refine ⟨h1, ?_, h2⟩
  rw [h2]
  cases v <;> first | rfl | cases h
theorem Sl.storeW (H : Sl n L a) (HP : Hp w0 w LH K) (i b o k tb : Nat) (pre vs post : List Value) (f : Bool) (v : Value) (LH' : List HB) (ho : pre.length = o)
    (hc : chk0 ops L ⟨none, .store t x y, ty, pos, af, g⟩ = true) (hx : ev L x = .pointer (some ⟨b, o + k, none⟩)) (hy : ev L y = v) (hi : LH[i]? = some (bx b tb (pre ++ vs ++ post) f)) (hs : sizeB P t = some 1) (h1 : one v = true) (hk' : Nat.blt k vs.length = true)
    (hL : LH.set i (bx b tb (pre ++ vs.set k v ++ post) f) = LH') (kk : ∀ w' a', Sl n L a' → Hp w0 w' LH' K → wpList P ops Q rest a' w') : wpList P ops Q (⟨none, .store t x y, ty, pos, af, g⟩ :: rest) a w := by
  obtain ⟨e1, e2, e3⟩ := one_of h1
  have hk : k < vs.length := Nat.le_of_ble_eq_true hk'
  refine H.store HP i b (o + k) 1 tb _ f v LH' hc hx hy hi hs e1 e2 ?_ ?_ kk
  · rw [e3, Nat.ble_eq]; simp only [List.length_append, List.length_singleton]; omega
  · rw [e3]; show LH.set i (bx b tb ((pre ++ vs ++ post).set (o + k) v) f) = LH'; rw [win_set ho hk]; exact hL
theorem Op.storeW {KB : List FK} {KK : Act → World → Prop} {i : Nat} (H : Sl n L a) (HP : Hp w0 w LH KB) (ib b o k tb : Nat) (pre vs post : List Value) (f : Bool) (v : Value) (LH' : List HB) (ho : pre.length = o)
    (hop : ops[i]? = some ⟨none, .store t x y, ty, pos, af, g⟩) (hc : chk0 ops L ⟨none, .store t x y, ty, pos, af, g⟩ = true) (hx : ev L x = .pointer (some ⟨b, o + k, none⟩)) (hy : ev L y = v) (hi : LH[ib]? = some (bx b tb (pre ++ vs ++ post) f)) (hs : sizeB P t = some 1) (h1 : one v = true) (hk' : Nat.blt k vs.length = true)
    (hL : LH.set ib (bx b tb (pre ++ vs.set k v ++ post) f) = LH') (kk : ∀ w' a', Sl n L a' → Hp w0 w' LH' KB → KK a' w') : wpOp P ops Q i KK a w := by
  obtain ⟨e1, e2, e3⟩ := one_of h1
  have hk : k < vs.length := Nat.le_of_ble_eq_true hk'
  refine Op.store H HP ib b (o + k) 1 tb _ f v LH' hop hc hx hy hi hs e1 e2 ?_ ?_ kk
  · rw [e3, Nat.ble_eq]; simp only [List.length_append, List.length_singleton]; omega
  · rw [e3]; show LH.set ib (bx b tb ((pre ++ vs ++ post).set (o + k) v) f) = LH'; rw [win_set ho hk]; exact hL
end
def boxK (b t : Nat) (vs : List Value) : FK := ⟨fun k => k = b, fun w => Box w b t vs.toArray⟩
theorem boxK_ok (b t : Nat) (vs : List Value) : (boxK b t vs).ok := fun w1 w2 h hk hs => (hk b rfl).trans h
theorem boxK_lt {w : World} {b t k : Nat} {vs : List Value} (h : Box w b t vs.toArray) (hk : (boxK b t vs).fp k) : k < w.heap.size := by cases hk; exact h.lt
def laidK : FK := ⟨fun k => k = 0 ∨ k = 1, Laid⟩
theorem laidK_ok : laidK.ok := fun w1 w2 h hk hs => ⟨fun i hi => (World.cell?_of_block (hk 1 (.inr rfl))).trans (h.tab i hi), fun i hi => (World.cell?_of_block (hk 0 (.inl rfl))).trans (h.rates i hi)⟩
theorem Laid.lt {w : World} (h : Laid w) (k : Nat) (hk : laidK.fp k) : k < w.heap.size := by
  rcases hk with rfl | rfl
  · exact World.block_lt_of_cell? w _ (h.rates 0 (by omega))
  · exact World.block_lt_of_cell? w _ (h.tab 0 (by omega))
def bareW (w : World) : World := { w with heap := #[] }
theorem Hp.bareN {w0 w : World} {L : List HB} {K : List FK} (H : Hp w0 w L K) (n : Nat) : Hp (bareW w0) w (L.drop n) K :=
  ⟨H.os, H.tape, H.output, Nat.zero_le _, fun k hk => absurd hk (Nat.not_lt_zero _), fun x hx => H.res x (List.mem_of_mem_drop hx), H.apart.sublist (List.drop_sublist _ _), fun _ _ _ _ _ => Nat.zero_le _, fun p hp => let ⟨h1, h2, h3⟩ := H.kept p hp; ⟨h1, h2, fun k hk => ⟨(h3 k hk).1, fun x hx => (h3 k hk).2 x (List.mem_of_mem_drop hx)⟩⟩⟩
def PicA.str (p : PicA) : List UInt8 := p.data.data.toList
theorem PicA.str_eq (p : PicA) : p.data = bstr p.str := by cases p; simp [PicA.str, bstr]
structure Ch where
  item : Int
  index : Int
  full : Int
  taken : Int
  number : Int
  num : Int
  den : Int
abbrev chL (c : Ch) : List Value := [.int .i64 c.item, .int .i64 c.index, .int .i64 c.full, .int .i64 c.taken, .int .i64 c.number, .int .i64 c.num, .int .i64 c.den]
abbrev selL (bc n cc : Nat) (LA : Option Addr) (ln lc : Nat) (hd : Bool) (at_ od : Int) : List Value := [.slice (some ⟨bc, 0, none⟩) n cc, .slice LA ln lc, .bool hd, .int .i64 at_, .int .i64 od]
def floorP (hd : Bool) (at_ od f : Int) : Option Int := if hd = true ∧ at_ ≤ f ∧ f - at_ ≤ 8 then some od else none
def genuineP (lib : List AstA) (u : Un) : Bool := if u.item = 0 then (u.index == 0) && (u.key && (u.data == [])) else
  match findA u.item lib with
  | none => false
  | some a => decide (0 ≤ u.index) && (decide (u.index < (a.pics.length : Int)) && (((a.pics.getD u.index.toNat picZ).key == u.key) && ((a.pics.getD u.index.toNat picZ).str == u.data)))
def contS (c : Ch) (u : Un) : Bool := (u.item == c.item) && ((u.index == c.index + 1) && (vstep c.full (u.data.length : Int)).isSome)
def entersS (lib : List AstA) (full : Int) (u : Un) : Bool :=
  match findA u.item lib with
  | none => false
  | some a => u.key && (decide (0 ≤ u.index) && (decide (u.index < (a.pics.length : Int)) &&
    match needOf ((sizesP a.pics).drop u.index.toNat) with
    | none => false
    | some nd => decide (nd ≤ full)))
def acceptP (lib : List AstA) (fl : Option Int) (c : Ch) (f : Int) (l : List UInt8) : Option Un :=
  match unpackP c.num c.den l with
  | none => none
  | some u => if ((u.channel == c.number) && (u.frame == f)) = true ∧ genuineP lib u = true ∧ (match fl with | none => false | some x => decide (x ≤ u.version)) = true ∧ ((u.item == 0) || (contS c u || entersS lib c.full u)) = true then some u else none
def preferP (x y : Un) (tk : Int) : Int := if y.version < x.version then 0 else if x.version < y.version then 1 else if x.item ≠ 0 ∧ y.item = 0 then 0 else if x.item = 0 ∧ y.item ≠ 0 then 1 else tk
def slateU (ch f : Int) : Un := ⟨ch, f, 0, 0, 0, true, [], 255, 1000, [64, 0, 0], 0, 0, none, 0, []⟩
def takeP (c : Ch) (f : Int) (x y : Option Un) : Un × Int :=
  match x, y with
  | none, none => (slateU c.number f, c.taken)
  | some x, some y => (if preferP x y c.taken = 1 then y else x, preferP x y c.taken)
  | some x, none => (x, 0)
  | none, some y => (y, 1)
def showC (c : Ch) (u : Un) (tk : Int) : Ch := { c with item := u.item, index := u.index, full := (vstep c.full (u.data.length : Int)).getD 0, taken := tk }
def chooseC (lib : List AstA) (fl : Option Int) (c : Ch) (f : Int) (a b : List UInt8) : Un × Ch :=
  let r := takeP c f (acceptP lib fl c f a) (acceptP lib fl c f b)
  (r.1, showC c r.1 r.2)
def floorV (x : Option Int) : Value := .tuple #[.int .i64 (x.getD 0), .bool x.isSome]
theorem floor_some {hd : Bool} {at_ od f : Int} (h1 : hd = true) (h2 : at_ ≤ f) (h3 : f - at_ ≤ 8) : Ending.returned (.tuple #[.int .i64 od, .bool true]) = .returned (floorV (floorP hd at_ od f)) := by
 unfold floorP; rw [if_pos ⟨h1, h2, h3⟩]; rfl
theorem floor_none {hd : Bool} {at_ od f : Int} (h : hd = false ∨ f < at_ ∨ 8 < f - at_) : Ending.returned (.tuple #[.int .i64 0, .bool false]) = .returned (floorV (floorP hd at_ od f)) := by
 unfold floorP; rw [if_neg (by rintro ⟨h1, h2, h3⟩; rcases h with h | h | h; (rw [h1] at h; cases h); omega; omega)]; rfl
set_option maxRecDepth 100000 in
set_option maxHeartbeats 4000000 in
theorem absentN_any (w : World) :
  Calls Tryz.prog 41 #[.pointer none] w fun e w' => e = .returned (.bool true) ∧ Below w.heap.size w w' := by
 have HP := Hp.start w
 refine w_enter 13 [(0, (.pointer none))] Tryz.func41 rfl Tryz.ntmps41 (by kernel_rfl) (by kernel_rfl) fun a H => ?_
 refine wp_seq (w_region ?_)
 refine H.ge HP [(2, (.bool false))] [] fun a H => ?_
 refine then_normal (wp_seq (w_region ?_))
 refine H.ge HP [(3, (.pointer none)), (4, (.bool true)), (5, (.bool true)), (2, (.bool true))] [] fun a H => ?_
 refine then_normal (wp_ret ?_)
 refine H.ret1 (fn := Tryz.f41) Tryz.results41 (RV.tmp_ (v := (.bool true)) (by kernel_rfl)) ?_
 exact ⟨rfl, HP.bl⟩
set_option maxRecDepth 100000 in
set_option maxHeartbeats 4000000 in
theorem absent_any (bs bc n cc : Nat) (v1 v2 v3 v4 : Value) (w : World) (hS : Box w bs 111 [.slice (some ⟨bc, 0, none⟩) n cc, v1, v2, v3, v4].toArray) (hn : 0 < n) :
  Calls Tryz.prog 41 #[.pointer (some ⟨bs, 0, none⟩)] w fun e w' => e = .returned (.bool false) ∧ Below w.heap.size w w' := by
 have HP := Hp.own (vs := [(.slice (some ⟨bc, 0, none⟩) n cc), v1, v2, v3, v4]) hS
 refine w_enter 13 [(0, (pt bs 0))] Tryz.func41 rfl Tryz.ntmps41 (by kernel_rfl) (by kernel_rfl) fun a H => ?_
 refine wp_seq (w_region ?_)
 refine H.ge HP [(2, (.bool false))] [] fun a H => ?_
 refine then_normal (wp_seq (w_region ?_))
 refine H.go HP 8 [(3, (pt bs 0)), (4, (.bool false)), (5, (.bool false)), (10, (ii n))] [0] fun a H => H.valE 11 (.bool ((n : Int) == 0)) (.bool false) (by kernel_rfl) (by kernel_rfl) ((congrArg Value.bool (beq_false_of_ne (by omega)))) fun a H => ?_
 refine H.ge HP [(2, (.bool false))] [] fun a H => ?_
 refine then_normal (wp_ret ?_)
 refine H.ret1 (fn := Tryz.f41) Tryz.results41 (RV.tmp_ (v := (.bool false)) (by kernel_rfl)) ?_
 exact ⟨rfl, (HP.same (by intro x hx; simp only [List.mem_cons, List.not_mem_nil, or_false] at hx; rcases hx with rfl; exact .inr (bx_same hS (HP.at_ 0 rfl))))⟩
set_option maxRecDepth 100000 in
set_option maxHeartbeats 4000000 in
theorem floor_any (bs bc n cc : Nat) (LA : Option Addr) (lib : List AstA) (lc : Nat) (hd : Bool) (at_ od : Int) (fr : Int) (w : World) (hS : Box w bs 111 (selL bc n cc LA lib.length lc hd at_ od).toArray) (hn : 0 < n) (hat : 0 ≤ at_ ∧ at_ ≤ 9223372036854775807) (hfr : -9223372036854775808 ≤ fr ∧ fr ≤ 9223372036854775807) :
  Calls Tryz.prog 25 #[.pointer (some ⟨bs, 0, none⟩), .int .i64 fr] w fun e w' => e = .returned (floorV (floorP hd at_ od fr)) ∧ Below w.heap.size w w' := by
 have HP := Hp.own (vs := [(.slice (some ⟨bc, 0, none⟩) n cc), (.slice LA lib.length lc), (.bool hd), (ii at_), (ii od)]) hS
 refine w_enter 36 [(0, (pt bs 0)), (1, (ii fr))] Tryz.func25 rfl Tryz.ntmps25 (by kernel_rfl) (by kernel_rfl) fun a H => ?_
 refine wp_seq (w_region ?_)
 refine H.ge HP [(4, (ii 0)), (5, (.bool false))] [] fun a H => ?_
 refine then_normal (wp_seq (wp_seq (w_region ?_)))
 refine H.go HP 1 [(6, (pt bs 0))] [] fun a H => ?_
 refine H.call 7 (by kernel_rfl) (Eq.trans (by kernel_rfl : _ = (callFunc 41 #[(pt bs 0)]).run Tryz.prog w) (Tryz.call41 _ _)) (absent_any bs bc n cc _ _ _ _ w (HP.at_ 0 rfl) hn) ?_
 rintro e w_1 ⟨rfl, hb⟩
 refine ⟨_, rfl, ?_⟩
 intro a H
 have HP := HP.next hb
 refine H.go HP 8 [(15, (.bool (!hd)))] [0] fun a H => ?_
 refine H.split 15 rfl (fun g15 H => ?_) (fun g15 H => ?_)
 ·have g15p := not_is_true g15
  refine H.ge HP [(31, (.bool true))] [] fun a H => ?_
  refine then_normal ?_
  refine w_ift H rfl ?_
  refine wp_seq (w_region ?_)
  refine H.ge HP [(4, (ii 0)), (5, (.bool false))] [] fun a H => ?_
  refine then_normal (wp_ret (then_ret ?_))
  refine H.ret2 (fn := Tryz.f25) Tryz.results25 (RV.tmp_ (v := (ii 0)) (by kernel_rfl)) (RV.tmp_ (v := (.bool false)) (by kernel_rfl)) ?_
  exact ⟨floor_none (by first | exact .inl g15p | exact .inr (.inl (by omega)) | exact .inr (.inr (by omega))), (HP.same (by intro x hx; simp only [List.mem_cons, List.not_mem_nil, or_false] at hx; rcases hx with rfl; exact .inr (bx_same hS (HP.at_ 0 rfl))))⟩
 have g15p := not_is_false g15
 refine H.go HP 8 [(23, (.bool (decide (fr < at_))))] [0] fun a H => ?_
 refine H.split 23 rfl (fun g23 H => ?_) (fun g23 H => ?_)
 ·have g23p := of_decide_eq_true g23
  refine H.ge HP [(31, (.bool true))] [] fun a H => ?_
  refine then_normal ?_
  refine w_ift H rfl ?_
  refine wp_seq (w_region ?_)
  refine H.ge HP [(4, (ii 0)), (5, (.bool false))] [] fun a H => ?_
  refine then_normal (wp_ret (then_ret ?_))
  refine H.ret2 (fn := Tryz.f25) Tryz.results25 (RV.tmp_ (v := (ii 0)) (by kernel_rfl)) (RV.tmp_ (v := (.bool false)) (by kernel_rfl)) ?_
  exact ⟨floor_none (by first | exact .inl g15p | exact .inr (.inl (by omega)) | exact .inr (.inr (by omega))), (HP.same (by intro x hx; simp only [List.mem_cons, List.not_mem_nil, or_false] at hx; rcases hx with rfl; exact .inr (bx_same hS (HP.at_ 0 rfl))))⟩
 have g23p := of_decide_eq_false g23
 refine H.go HP 5 [(24, (ii fr)), (28, (ii at_))] [0] fun a H => H.wi 29 (fr - at_) fun a H => ?_
 refine H.ge HP [(31, (.bool (decide ((fr - at_) > 8))))] [] fun a H => ?_
 refine then_normal ?_
 refine w_if H rfl (fun g31 => ?_) (fun g31 => ?_)
 ·have g31p := of_decide_eq_true g31
  refine wp_seq (w_region ?_)
  refine H.ge HP [(4, (ii 0)), (5, (.bool false))] [] fun a H => ?_
  refine then_normal (wp_ret (then_ret ?_))
  refine H.ret2 (fn := Tryz.f25) Tryz.results25 (RV.tmp_ (v := (ii 0)) (by kernel_rfl)) (RV.tmp_ (v := (.bool false)) (by kernel_rfl)) ?_
  exact ⟨floor_none (by first | exact .inl g15p | exact .inr (.inl (by omega)) | exact .inr (.inr (by omega))), (HP.same (by intro x hx; simp only [List.mem_cons, List.not_mem_nil, or_false] at hx; rcases hx with rfl; exact .inr (bx_same hS (HP.at_ 0 rfl))))⟩
 have g31p := of_decide_eq_false g31
 refine wp_skip (then_normal (wp_seq (w_region ?_)))
 refine H.ge HP [(4, (ii od)), (5, (.bool true))] [0] fun a H => ?_
 refine then_normal (wp_ret ?_)
 refine H.ret2 (fn := Tryz.f25) Tryz.results25 (RV.tmp_ (v := (ii od)) (by kernel_rfl)) (RV.tmp_ (v := (.bool true)) (by kernel_rfl)) ?_
 exact ⟨floor_some g15p (by omega) (by omega), (HP.same (by intro x hx; simp only [List.mem_cons, List.not_mem_nil, or_false] at hx; rcases hx with rfl; exact .inr (bx_same hS (HP.at_ 0 rfl))))⟩
set_option maxRecDepth 100000 in
set_option maxHeartbeats 4000000 in
theorem prefer_any (x y : Un) (tk : Int) (w : World) :
  Calls Tryz.prog 77 #[x.val, y.val, .int .i64 tk] w fun e w' => e = .returned (ii (preferP x y tk)) ∧ Below w.heap.size w w' := by
 have HP := Hp.start w
 refine w_enter 38 [(0, (.agg #[(ii x.channel), (ii x.frame), (ii x.version), (ii x.item), (ii x.index), (.bool x.key), (.string (bstr x.data)), (ii x.regions), (ii x.gain), (.string (bstr x.caption)), (ii x.os), (ii x.of), (.slice x.A x.al.length x.c)])), (1, (.agg #[(ii y.channel), (ii y.frame), (ii y.version), (ii y.item), (ii y.index), (.bool y.key), (.string (bstr y.data)), (ii y.regions), (ii y.gain), (.string (bstr y.caption)), (ii y.os), (ii y.of), (.slice y.A y.al.length y.c)])), (2, (ii tk))] Tryz.func77 rfl Tryz.ntmps77 (by kernel_rfl) (by kernel_rfl) fun a H => ?_
 refine wp_seq (w_region ?_)
 refine H.alloc HP 3 (fun b => (pt b 0)) 76 [(ii x.channel), (ii x.frame), (ii x.version), (ii x.item), (ii x.index), (.bool x.key), (.string (bstr x.data)), (ii x.regions), (ii x.gain), (.string (bstr x.caption)), (ii x.os), (ii x.of), (.slice x.A x.al.length x.c)] (by kernel_rfl) (fun w => by kernel_rfl) fun b_1 w_2 a H HP => H.alloc HP 4 (fun b => (pt b 0)) 76 [(ii y.channel), (ii y.frame), (ii y.version), (ii y.item), (ii y.index), (.bool y.key), (.string (bstr y.data)), (ii y.regions), (ii y.gain), (.string (bstr y.caption)), (ii y.os), (ii y.of), (.slice y.A y.al.length y.c)] (by kernel_rfl) (fun w => by kernel_rfl) fun b_3 w_4 a H HP => ?_
 refine H.ge HP [(6, (ii 0))] [] fun a H => ?_
 refine then_normal (wp_seq (wp_block (wp_seq (w_region ?_))))
 refine H.ge HP [(7, (.bool (decide (x.version > y.version))))] [1, 0] fun a H => ?_
 refine then_normal ?_
 refine w_if H rfl (fun g7 => ?_) (fun g7 => ?_)
 ·have g7p := of_decide_eq_true g7
  refine wp_seq (w_region ?_)
  refine H.ge HP [(6, (ii 0))] [] fun a H => ?_
  refine then_normal (wp_ret (inb_ret (then_ret ?_)))
  refine H.ret1 (fn := Tryz.f77) Tryz.results77 (RV.tmp_ (v := (ii 0)) (by kernel_rfl)) ?_
  exact ⟨congrArg (fun n => Ending.returned (ii n)) (by unfold preferP; (repeat' split) <;> omega), HP.bl⟩
 have g7p := of_decide_eq_false g7
 refine wp_seq (w_region ?_)
 refine H.ge HP [(13, (.bool (decide (x.version < y.version))))] [1, 0] fun a H => ?_
 refine then_normal ?_
 refine w_if H rfl (fun g13 => ?_) (fun g13 => ?_)
 ·have g13p := of_decide_eq_true g13
  refine wp_seq (w_region ?_)
  refine H.ge HP [(6, (ii 1))] [] fun a H => ?_
  refine then_normal (wp_ret (inb_ret (then_ret ?_)))
  refine H.ret1 (fn := Tryz.f77) Tryz.results77 (RV.tmp_ (v := (ii 1)) (by kernel_rfl)) ?_
  exact ⟨congrArg (fun n => Ending.returned (ii n)) (by unfold preferP; (repeat' split) <;> omega), HP.bl⟩
 have g13p := of_decide_eq_false g13
 refine wp_seq (w_region ?_)
 refine H.go HP 4 [(23, (.bool (x.item != 0)))] [1] fun a H => ?_
 refine H.split 23 rfl (fun g23 H => ?_) (fun g23 H => ?_)
 ·have g23p := bne_iff_ne.1 g23
  refine H.ge HP [(19, (.bool (y.item == 0)))] [0] fun a H => ?_
  refine then_normal ?_
  refine w_if H rfl (fun g19 => ?_) (fun g19 => ?_)
  ·have g19p := eq_of_beq g19
   refine wp_seq (w_region ?_)
   refine H.ge HP [(6, (ii 0))] [] fun a H => ?_
   refine then_normal (wp_ret (inb_ret (then_ret ?_)))
   refine H.ret1 (fn := Tryz.f77) Tryz.results77 (RV.tmp_ (v := (ii 0)) (by kernel_rfl)) ?_
   exact ⟨congrArg (fun n => Ending.returned (ii n)) (by unfold preferP; (repeat' split) <;> omega), HP.bl⟩
  have g19p := ne_of_beq_false g19
  refine wp_seq (w_region ?_)
  refine H.go HP 4 [(32, (.bool (x.item == 0)))] [1] fun a H => ?_
  refine H.split 32 rfl (fun g32 H => ?_) (fun g32 H => ?_)
  ·have g32p := eq_of_beq g32
   refine H.ge HP [(28, (.bool (y.item != 0)))] [0] fun a H => ?_
   refine then_normal ?_
   refine w_if H rfl (fun g28 => ?_) (fun g28 => ?_)
   ·have g28p := bne_iff_ne.1 g28
    refine wp_seq (w_region ?_)
    refine H.ge HP [(6, (ii 1))] [] fun a H => ?_
    refine then_normal (wp_ret (inb_ret (then_ret ?_)))
    refine H.ret1 (fn := Tryz.f77) Tryz.results77 (RV.tmp_ (v := (ii 1)) (by kernel_rfl)) ?_
    exact ⟨congrArg (fun n => Ending.returned (ii n)) (by unfold preferP; (repeat' split) <;> omega), HP.bl⟩
   have g28p := eq_of_bne_false g28
   refine wp_skip (inb_normal (then_normal (wp_seq (w_region ?_))))
   refine H.ge HP [(6, (ii tk))] [] fun a H => ?_
   refine then_normal (wp_ret ?_)
   refine H.ret1 (fn := Tryz.f77) Tryz.results77 (RV.tmp_ (v := (ii tk)) (by kernel_rfl)) ?_
   exact ⟨congrArg (fun n => Ending.returned (ii n)) (by unfold preferP; (repeat' split) <;> omega), HP.bl⟩
  have g32p := ne_of_beq_false g32
  refine H.ge HP [(28, (.bool false))] [] fun a H => ?_
  refine then_normal ?_
  refine w_iff H rfl ?_
  refine wp_skip (inb_normal (then_normal (wp_seq (w_region ?_))))
  refine H.ge HP [(6, (ii tk))] [] fun a H => ?_
  refine then_normal (wp_ret ?_)
  refine H.ret1 (fn := Tryz.f77) Tryz.results77 (RV.tmp_ (v := (ii tk)) (by kernel_rfl)) ?_
  exact ⟨congrArg (fun n => Ending.returned (ii n)) (by unfold preferP; (repeat' split) <;> omega), HP.bl⟩
 have g23p := eq_of_bne_false g23
 refine H.ge HP [(19, (.bool false))] [] fun a H => ?_
 refine then_normal ?_
 refine w_iff H rfl ?_
 refine wp_seq (w_region ?_)
 refine H.go HP 4 [(32, (.bool (x.item == 0)))] [1] fun a H => ?_
 refine H.split 32 rfl (fun g32 H => ?_) (fun g32 H => ?_)
 ·have g32p := eq_of_beq g32
  refine H.ge HP [(28, (.bool (y.item != 0)))] [0] fun a H => ?_
  refine then_normal ?_
  refine w_if H rfl (fun g28 => ?_) (fun g28 => ?_)
  ·have g28p := bne_iff_ne.1 g28
   refine wp_seq (w_region ?_)
   refine H.ge HP [(6, (ii 1))] [] fun a H => ?_
   refine then_normal (wp_ret (inb_ret (then_ret ?_)))
   refine H.ret1 (fn := Tryz.f77) Tryz.results77 (RV.tmp_ (v := (ii 1)) (by kernel_rfl)) ?_
   exact ⟨congrArg (fun n => Ending.returned (ii n)) (by unfold preferP; (repeat' split) <;> omega), HP.bl⟩
  have g28p := eq_of_bne_false g28
  refine wp_skip (inb_normal (then_normal (wp_seq (w_region ?_))))
  refine H.ge HP [(6, (ii tk))] [] fun a H => ?_
  refine then_normal (wp_ret ?_)
  refine H.ret1 (fn := Tryz.f77) Tryz.results77 (RV.tmp_ (v := (ii tk)) (by kernel_rfl)) ?_
  exact ⟨congrArg (fun n => Ending.returned (ii n)) (by unfold preferP; (repeat' split) <;> omega), HP.bl⟩
 have g32p := ne_of_beq_false g32
 refine H.ge HP [(28, (.bool false))] [] fun a H => ?_
 refine then_normal ?_
 refine w_iff H rfl ?_
 refine wp_skip (inb_normal (then_normal (wp_seq (w_region ?_))))
 refine H.ge HP [(6, (ii tk))] [] fun a H => ?_
 refine then_normal (wp_ret ?_)
 refine H.ret1 (fn := Tryz.f77) Tryz.results77 (RV.tmp_ (v := (ii tk)) (by kernel_rfl)) ?_
 exact ⟨congrArg (fun n => Ending.returned (ii n)) (by unfold preferP; (repeat' split) <;> omega), HP.bl⟩
set_option maxRecDepth 100000 in
set_option maxHeartbeats 4000000 in
theorem show_any (bc o : Nat) (pre post : List Value) (c : Ch) (u : Un) (w : World) (hC : Box w bc 115 (pre ++ chL c ++ post).toArray) (ho : pre.length = o) :
  Calls Tryz.prog 78 #[.pointer (some ⟨bc, o, none⟩), u.val] w fun e w' => e = .returned (.tuple #[]) ∧ Box w' bc 115 (pre ++ chL (showC c u c.taken) ++ post).toArray ∧ w.grownBy w' (some bc) := by
 have HP := Hp.own (vs := pre ++ [(ii c.item), (ii c.index), (ii c.full), (ii c.taken), (ii c.number), (ii c.num), (ii c.den)] ++ post) hC
 refine w_enter 28 [(0, (pt bc o)), (1, (.agg (ua u u.A u.c)))] Tryz.func78 rfl Tryz.ntmps78 (by kernel_rfl) (by kernel_rfl) fun a H => ?_
 refine wp_seq (w_region ?_)
 refine H.alloc HP 3 (fun b => (pt b 0)) 76 (ul u u.A u.c) (by kernel_rfl) (fun w => by kernel_rfl) fun b_1 w_2 a H HP => ?_
 refine wpList_nil (then_normal (wp_seq ?_))
 have HP := HP.front 1 rfl [bx bc 115 (pre ++ [(ii c.item), (ii c.index), (ii c.full), (ii c.taken), (ii c.number), (ii c.num), (ii c.den)] ++ post) false, bx b_1 76 (ul u u.A u.c) true] (by kernel_rfl)
 refine An.start (fun v => Hp (bareW w) v [bx b_1 76 (ul u u.A u.c) true] []) 11 12 HP wide_follows rfl fun w_3 HP => ?_
 refine An.go H (.inr ((HP.bareN 1))) 4 [0, 1, 2, 3, 4, 5, 6, 7] [(4, (pt bc o)), (5, (pt bc o)), (6, (pt b_1 3)), (7, (ii u.item)), (9, (ii u.index)), (11, (pt bc o))] [0, 0] fun a H => ?_
 refine An.one 8 (by kernel_rfl) ?_
 refine Op.storeW H HP 0 bc o 0 115 pre [(ii c.item), (ii c.index), (ii c.full), (ii c.taken), (ii c.number), (ii c.num), (ii c.den)] post false (ii u.item) [bx bc 115 (pre ++ [(ii u.item), (ii c.index), (ii c.full), (ii c.taken), (ii c.number), (ii c.num), (ii c.den)] ++ post) false, bx b_1 76 (ul u u.A u.c) true] ho rfl (by kernel_rfl) (by kernel_rfl) (by kernel_rfl) rfl (by kernel_rfl) rfl (by kernel_rfl) rfl fun w_4 a H HP => ?_
 refine ⟨.inr ((HP.bareN 1)), ?_⟩
 refine An.go H (.inr ((HP.bareN 1))) 1 [9, 10] [(13, (.pointer (some ⟨bc, o + 1, none⟩)))] [] fun a H => ?_
 refine An.one 11 (by kernel_rfl) ?_
 refine Op.storeW H HP 0 bc o 1 115 pre [(ii u.item), (ii c.index), (ii c.full), (ii c.taken), (ii c.number), (ii c.num), (ii c.den)] post false (ii u.index) [bx bc 115 (pre ++ [(ii u.item), (ii u.index), (ii c.full), (ii c.taken), (ii c.number), (ii c.num), (ii c.den)] ++ post) false, bx b_1 76 (ul u u.A u.c) true] ho rfl (by kernel_rfl) (by kernel_rfl) (by kernel_rfl) rfl (by kernel_rfl) rfl (by kernel_rfl) rfl fun w_5 a H HP => ?_
 refine ⟨.inl (by kernel_rfl), ?_⟩
 refine An.done (by kernel_rfl) ?_
 refine then_normal ?_
 refine An.start (fun v => Hp w v [bx bc 115 (pre ++ [(ii u.item), (ii u.index), (ii c.full), (ii c.taken), (ii c.number), (ii c.num), (ii c.den)] ++ post) false, bx b_1 76 (ul u u.A u.c) true] []) 14 15 HP wide_follows rfl fun w_6 HP => ?_
 refine An.go H (.inr (HP)) 11 [0, 1, 2, 3] [(15, (pt bc o)), (18, (.pointer (some ⟨bc, o + 2, none⟩)))] [] fun a H => ?_
 refine An.val H (HP) 4 19 (ii c.full) rfl (by kernel_rfl) (by kernel_rfl) (fun _ _ _ h => h) (fun _ hS => ex_l1 (win_cell (k := 2) (hS.at_ 0 rfl) ho rfl)) fun a H => ?_
 refine An.go H (.inr (HP)) 7 [5, 6, 7] [(22, (ii u.data.length))] [1] fun a H => ?_
 refine An.one 8 (by kernel_rfl) ?_
 refine Op.call H 23 rfl (by kernel_rfl) (Eq.trans (by kernel_rfl : _ = (callFunc 29 #[(ii c.full), (ii u.data.length)]).run Tryz.prog w_6) (Tryz.call29 _ _)) (vbvStep_any c.full (u.data.length : Int) w_6) ?_
 rintro e w_7 ⟨rfl, hw⟩
 refine ⟨_, rfl, ?_⟩
 intro a H
 have HP := hw ▸ HP
 refine ⟨.inr (HP), ?_⟩
 refine An.go H (.inr (HP)) 1 [9, 10, 11, 12, 13] [(24, (ii ((vstep c.full (u.data.length : Int)).getD 0))), (27, (.pointer (some ⟨bc, o + 2, none⟩)))] [] fun a H => ?_
 refine An.one 14 (by kernel_rfl) ?_
 refine Op.storeW H HP 0 bc o 2 115 pre [(ii u.item), (ii u.index), (ii c.full), (ii c.taken), (ii c.number), (ii c.num), (ii c.den)] post false (ii ((vstep c.full (u.data.length : Int)).getD 0)) [bx bc 115 (pre ++ [(ii u.item), (ii u.index), (ii ((vstep c.full (u.data.length : Int)).getD 0)), (ii c.taken), (ii c.number), (ii c.num), (ii c.den)] ++ post) false, bx b_1 76 (ul u u.A u.c) true] ho rfl (by kernel_rfl) (by kernel_rfl) (by kernel_rfl) rfl (by kernel_rfl) rfl (by kernel_rfl) rfl fun w_8 a H HP => ?_
 refine ⟨.inl (by kernel_rfl), ?_⟩
 refine An.done (by kernel_rfl) ?_
 refine H.end0 (fn := Tryz.f78) Tryz.results78  ?_
 exact ⟨rfl, HP.at_ 0 rfl, HP.only bc (by intro x hx; simp only [List.mem_cons, List.not_mem_nil, or_false] at hx; rcases hx with rfl | rfl; exact .inr (fun k hk => hk); exact .inl rfl)⟩
set_option maxRecDepth 100000 in
set_option maxHeartbeats 4000000 in
theorem cont_any (bc o : Nat) (pre post : List Value) (c : Ch) (u : Un) (w : World) (hC : Box w bc 115 (pre ++ chL c ++ post).toArray) (ho : pre.length = o) (hix : -1 ≤ c.index ∧ c.index ≤ 1000000000) :
  Calls Tryz.prog 127 #[.pointer (some ⟨bc, o, none⟩), u.val] w fun e w' => e = .returned (.bool (contS c u)) ∧ Below w.heap.size w w' := by
 have HP := Hp.own (vs := pre ++ [(ii c.item), (ii c.index), (ii c.full), (ii c.taken), (ii c.number), (ii c.num), (ii c.den)] ++ post) hC
 refine w_enter 36 [(0, (pt bc o)), (1, (.agg (ua u u.A u.c)))] Tryz.func127 rfl Tryz.ntmps127 (by kernel_rfl) (by kernel_rfl) fun a H => ?_
 refine wp_seq (w_region ?_)
 refine H.alloc HP 3 (fun b => (pt b 0)) 76 (ul u u.A u.c) (by kernel_rfl) (fun w => by kernel_rfl) fun b_1 w_2 a H HP => ?_
 refine H.ge HP [(4, (.bool false))] [] fun a H => ?_
 refine then_normal (wp_seq (wp_seq ?_))
 refine An.start (fun v => Hp w v [bx b_1 76 (ul u u.A u.c) true, bx bc 115 (pre ++ [(ii c.item), (ii c.index), (ii c.full), (ii c.taken), (ii c.number), (ii c.num), (ii c.den)] ++ post) false] []) 17 17 HP wide_follows rfl fun w_3 HP => ?_
 refine An.go H (.inr (HP)) 12 [0, 1, 2, 3, 4] [(8, (ii u.item)), (11, (pt bc o))] [0] fun a H => ?_
 refine An.val H (HP) 5 12 (ii c.item) rfl (by kernel_rfl) (by kernel_rfl) (fun _ _ _ h => h) (fun _ hS => ex_l1 (win_cell (k := 0) (hS.at_ 1 rfl) ho rfl)) fun a H => ?_
 refine An.go H (.inr (HP)) 9 [6, 7] [(14, (.bool (u.item != c.item)))] [] fun a H => ?_
 refine H.split 14 rfl (fun g14 H => ?_) (fun g14 H => ?_)
 ·have g14p := bne_iff_ne.1 g14
  refine An.go H (.inr (HP)) 0 [8, 9, 10, 11, 12, 13, 14, 15, 16] [(23, (.bool true))] [] fun a H => ?_
  refine An.done (by kernel_rfl) ?_
  refine then_normal ?_
  refine w_ift H rfl ?_
  refine wp_seq (w_region ?_)
  refine H.ge HP [(4, (.bool false))] [] fun a H => ?_
  refine then_normal (wp_ret (then_ret ?_))
  refine H.ret1 (fn := Tryz.f127) Tryz.results127 (RV.tmp_ (v := (.bool false)) (by kernel_rfl)) ?_
  exact ⟨congrArg (fun b => Ending.returned (.bool b)) (by unfold contS; simp_all), (HP.same (by intro x hx; simp only [List.mem_cons, List.not_mem_nil, or_false] at hx; rcases hx with rfl | rfl; exact .inl rfl; exact .inr (bx_same hC (HP.at_ 1 rfl))))⟩
 have g14p := eq_of_bne_false g14
 refine An.go H (.inr (HP)) 4 [8, 9, 10, 11, 12] [(16, (ii u.index)), (19, (.pointer (some ⟨bc, o + 1, none⟩)))] [0] fun a H => ?_
 refine An.val H (HP) 13 20 (ii c.index) rfl (by kernel_rfl) (by kernel_rfl) (fun _ _ _ h => h) (fun _ hS => ex_l1 (win_cell (k := 1) (hS.at_ 1 rfl) ho rfl)) fun a H => ?_
 refine An.pureE H (.inr (HP)) 14 21 (ii (IntKind.i64.wrap (c.index + 1))) (ii (c.index + 1)) rfl (by kernel_rfl) (by kernel_rfl) (fun _ _ _ h => h) (fun _ => by kernel_rfl) ((by rw [wrap_ini64 _ (by omega)])) fun a H => ?_
 refine An.go H (.inr (HP)) 0 [15, 16] [(23, (.bool (u.index != (c.index + 1))))] [] fun a H => ?_
 refine An.done (by kernel_rfl) ?_
 refine then_normal ?_
 refine w_if H rfl (fun g23 => ?_) (fun g23 => ?_)
 ·have g23p := bne_iff_ne.1 g23
  refine wp_seq (w_region ?_)
  refine H.ge HP [(4, (.bool false))] [] fun a H => ?_
  refine then_normal (wp_ret (then_ret ?_))
  refine H.ret1 (fn := Tryz.f127) Tryz.results127 (RV.tmp_ (v := (.bool false)) (by kernel_rfl)) ?_
  exact ⟨congrArg (fun b => Ending.returned (.bool b)) (by unfold contS; simp_all), (HP.same (by intro x hx; simp only [List.mem_cons, List.not_mem_nil, or_false] at hx; rcases hx with rfl | rfl; exact .inl rfl; exact .inr (bx_same hC (HP.at_ 1 rfl))))⟩
 have g23p := eq_of_bne_false g23
 refine wp_skip (then_normal (wp_seq ?_))
 refine An.start (fun v => Hp w v [bx b_1 76 (ul u u.A u.c) true, bx bc 115 (pre ++ [(ii c.item), (ii c.index), (ii c.full), (ii c.taken), (ii c.number), (ii c.num), (ii c.den)] ++ post) false] []) 13 13 HP wide_follows rfl fun w_4 HP => ?_
 refine An.go H (.inr (HP)) 10 [0, 1, 2] [(27, (.pointer (some ⟨bc, o + 2, none⟩)))] [] fun a H => ?_
 refine An.val H (HP) 3 28 (ii c.full) rfl (by kernel_rfl) (by kernel_rfl) (fun _ _ _ h => h) (fun _ hS => ex_l1 (win_cell (k := 2) (hS.at_ 1 rfl) ho rfl)) fun a H => ?_
 refine An.go H (.inr (HP)) 6 [4, 5, 6] [(31, (ii u.data.length))] [0] fun a H => ?_
 refine An.one 7 (by kernel_rfl) ?_
 refine Op.call H 32 rfl (by kernel_rfl) (Eq.trans (by kernel_rfl : _ = (callFunc 29 #[(ii c.full), (ii u.data.length)]).run Tryz.prog w_4) (Tryz.call29 _ _)) (vbvStep_any c.full (u.data.length : Int) w_4) ?_
 rintro e w_5 ⟨rfl, hw⟩
 refine ⟨_, rfl, ?_⟩
 intro a H
 have HP := hw ▸ HP
 refine ⟨.inr (HP), ?_⟩
 refine An.go H (.inr (HP)) 0 [8, 9, 10, 11, 12] [(5, (ii ((vstep c.full (u.data.length : Int)).getD 0))), (6, (.bool ((vstep c.full (u.data.length : Int)).isSome)))] [] fun a H => ?_
 refine An.done (by kernel_rfl) ?_
 refine then_normal (wp_seq (w_region ?_))
 refine H.ge HP [(4, (.bool ((vstep c.full (u.data.length : Int)).isSome)))] [] fun a H => ?_
 refine then_normal (wp_ret ?_)
 refine H.ret1 (fn := Tryz.f127) Tryz.results127 (RV.tmp_ (v := (.bool ((vstep c.full (u.data.length : Int)).isSome))) (by kernel_rfl)) ?_
 exact ⟨congrArg (fun b => Ending.returned (.bool b)) (by unfold contS; simp_all), (HP.same (by intro x hx; simp only [List.mem_cons, List.not_mem_nil, or_false] at hx; rcases hx with rfl | rfl; exact .inl rfl; exact .inr (bx_same hC (HP.at_ 1 rfl))))⟩
def libFp (A : Option Addr) (l : List AstA) (k : Nat) : Prop := rowFp l.length A k ∨ ∃ a ∈ l, rowFp a.pics.length a.A k
def astsK (A : Option Addr) (l : List AstA) : FK := ⟨libFp A l, fun w => IsAsts w A l.length l⟩
theorem IsAsts.keep {w1 w2 : World} {A : Option Addr} {l : List AstA} (h : IsAsts w1 A l.length l) (hk : ∀ k, libFp A l k → w2.heap[k]? = w1.heap[k]?) (hs : w1.heap.size ≤ w2.heap.size) : IsAsts w2 A l.length l :=
 ⟨⟨h.1.1, h.1.2.keep (fun k hf => hk k (.inl hf)) hs⟩, fun a ha => ⟨⟨(h.2 a ha).1.1, (h.2 a ha).1.2.keep (fun k hf => hk k (.inr ⟨a, ha, hf⟩)) hs⟩, (h.2 a ha).2⟩⟩
theorem IsAsts.lt {w : World} {A : Option Addr} {l : List AstA} (h : IsAsts w A l.length l) {k : Nat} (hk : libFp A l k) : k < w.heap.size := by
 rcases hk with hk | ⟨a, ha, hk⟩
 ·exact Rd.lt h.1.2 hk
 ·exact Rd.lt (h.2 a ha).1.2 hk
theorem findA_len {i : Int} {l : List AstA} {r : Option AstA} (hp : ∀ a ∈ l, a.pics.length ≤ 2000000) (h : findA i l = r) : (r.getD astZ).pics.length ≤ 2000000 := by
 cases r with
 | none => exact Nat.zero_le _
 | some a => exact hp a (findA_mem h).1
theorem pic_cells {w : World} {A : Option Addr} {n : Nat} {l : List PicA} (h : IsPics w A n l) {i : Nat} (hi : i < n) : ∃ b off, A = some ⟨b, off, none⟩ ∧ b < w.heap.size ∧ cellsAt w b (off + i * 3) [.bool (l.getD i picZ).key, .string (bstr (l.getD i picZ).str), .int .i64 (l.getD i picZ).power] := by
 obtain ⟨b, off, rfl, hb, h1, h2, h3⟩ := IsPics.get h hi
 refine ⟨b, off, rfl, hb, ?_⟩
 rw [(l.getD i picZ).str_eq] at h2
 exact cells3 h1 h2 h3
theorem enters_no {lib : List AstA} {full : Int} {u : Un} {fa : Option AstA} (hfa : findA u.item lib = fa) (h : fa.isSome = false ∨ u.key = false ∨ u.index < 0 ∨ (((fa.getD astZ).pics.length : Nat) : Int) ≤ u.index) : entersS lib full u = false := by
 unfold entersS
 rw [hfa]
 cases fa with
 | none => rfl
 | some a =>
  simp only [Option.isSome_some, Bool.true_eq_false, false_or, Option.getD_some] at h
  rcases h with h | h | h
  ·simp [h]
  ·simp only; rw [decide_eq_false (show ¬ 0 ≤ u.index by omega)]; simp
  ·simp only; rw [decide_eq_false (show ¬ u.index < ((a.pics.length : Nat) : Int) by omega)]; simp
theorem enters_yes {lib : List AstA} {full : Int} {u : Un} {fa : Option AstA} {kx : Nat} (hfa : findA u.item lib = fa) (h1 : fa.isSome = true) (h2 : u.key = true) (h3 : 0 ≤ u.index) (h4 : u.index < (((fa.getD astZ).pics.length : Nat) : Int)) (hk : u.index = ((kx : Nat) : Int)) :
  entersS lib full u = ((needOf ((sizesP (fa.getD astZ).pics).drop kx)).isSome && decide ((needOf ((sizesP (fa.getD astZ).pics).drop kx)).getD 0 ≤ full)) := by
 unfold entersS
 rw [hfa]
 cases fa with
 | none => cases h1
 | some a =>
  simp only [Option.getD_some] at *
  rw [h2, decide_eq_true h3, decide_eq_true h4, show u.index.toNat = kx by omega]
  simp only [Bool.true_and]
  split <;> rename_i hq <;> simp [hq]
theorem ints_drop {w : World} {A : Option Addr} {l : List Int} {c i : Nat} (h : IsInts w A l.length l) (hc : l.length ≤ c) (hi : i ≤ l.length) : IsInts w (dropA A c i 1) (l.length - i) (l.drop i) := by
 have e : ∀ m : List Int, flat (fun z : Int => (#[.int .i64 z] : Array Value)) m = ints m := fun m => by
  induction m with
  | nil => rfl
  | cons z m ih => simp only [flat, List.flatMap_cons, ints, List.map_cons] at *; rw [ih]; rfl
 have h2 : IsRow 1 (fun z : Int => (#[.int .i64 z] : Array Value)) w A l := by
  show Rd w 1 A l.length (flat _ l)
  rw [e]; exact ofInts h
 have h3 := IsRow.dropA (cs := fun z : Int => (#[.int .i64 z] : Array Value)) (size := 1) (fun _ => rfl) h2 hc hi
 rw [e] at h3
 exact toInts h3
set_option maxRecDepth 100000 in
set_option maxHeartbeats 4000000 in
theorem genuine_any (LA : Option Addr) (lc : Nat) (lib : List AstA) (u : Un) (w : World) (hlib : IsAsts w LA lib.length lib) (hln : lib.length ≤ maxLen) (hlp : ∀ a ∈ lib, a.pics.length ≤ 2000000) :
  Calls Tryz.prog 27 #[.slice LA lib.length lc, u.val] w fun e w' => e = .returned (.bool (genuineP lib u)) ∧ Below w.heap.size w w' := by
 obtain ⟨fa, hfa⟩ : ∃ r, findA u.item lib = r := ⟨_, rfl⟩
 have hpl : (fa.getD astZ).pics.length ≤ 2000000 := findA_len hlp hfa
 have HP := (Hp.start w).keepF (astsK LA lib) hlib (fun _ _ h hk hs => IsAsts.keep h hk hs) fun k hk => ⟨IsAsts.lt hlib hk, fun x hx => by cases hx⟩
 refine w_enter 63 [(0, (.slice LA lib.length lc)), (1, (.agg (ua u u.A u.c)))] Tryz.func27 rfl Tryz.ntmps27 (by kernel_rfl) (by kernel_rfl) fun a H => ?_
 refine wp_seq (w_region ?_)
 refine H.alloc HP 3 (fun b => (pt b 0)) 76 (ul u u.A u.c) (by kernel_rfl) (fun w => by kernel_rfl) fun b_1 w_2 a H HP => ?_
 refine H.ge HP [(4, (.bool false))] [] fun a H => ?_
 refine then_normal (wp_seq (wp_seq (w_region ?_)))
 refine H.ge HP [(10, (.bool (u.item == 0)))] [0] fun a H => ?_
 refine then_normal ?_
 refine w_if H rfl (fun g10 => ?_) (fun g10 => ?_)
 ·have g10p := eq_of_beq g10
  refine wp_seq (w_region ?_)
  refine H.go HP 4 [(14, (.bool (u.index == 0)))] [0] fun a H => ?_
  refine H.split 14 rfl (fun g14 H => ?_) (fun g14 H => ?_)
  ·have g14p := eq_of_beq g14
   refine H.go HP 4 [(18, (.bool u.key))] [0] fun a H => ?_
   refine H.split 18 rfl (fun g18 H => ?_) (fun g18 H => ?_)
   ·have g18p := g18
    refine H.go HP 2 [(20, (.string (bstr u.data)))] [0] fun a H => H.valE 21 (.bool ((bstr u.data).toList == (bstr ([])).toList)) (.bool (u.data == ([]))) (by kernel_rfl) (by kernel_rfl) ((congrArg Value.bool (bstr_eq _ _))) fun a H => ?_
    refine H.ge HP [(4, (.bool (u.data == ([]))))] [] fun a H => ?_
    refine then_normal (wp_ret (then_ret ?_))
    refine H.ret1 (fn := Tryz.f27) Tryz.results27 (RV.tmp_ (v := (.bool (u.data == ([])))) (by kernel_rfl)) ?_
    exact ⟨congrArg (fun b => Ending.returned (.bool b)) (by unfold genuineP; first | (rw [if_pos g10p]; simp_all) | (rw [if_neg g10p]; cases fa <;> simp_all <;> omega)), HP.bl⟩
   have g18p := g18
   refine H.ge HP [(4, (.bool false))] [] fun a H => ?_
   refine then_normal (wp_ret (then_ret ?_))
   refine H.ret1 (fn := Tryz.f27) Tryz.results27 (RV.tmp_ (v := (.bool false)) (by kernel_rfl)) ?_
   exact ⟨congrArg (fun b => Ending.returned (.bool b)) (by unfold genuineP; first | (rw [if_pos g10p]; simp_all) | (rw [if_neg g10p]; cases fa <;> simp_all <;> omega)), HP.bl⟩
  have g14p := ne_of_beq_false g14
  refine H.ge HP [(4, (.bool false))] [] fun a H => ?_
  refine then_normal (wp_ret (then_ret ?_))
  refine H.ret1 (fn := Tryz.f27) Tryz.results27 (RV.tmp_ (v := (.bool false)) (by kernel_rfl)) ?_
  exact ⟨congrArg (fun b => Ending.returned (.bool b)) (by unfold genuineP; first | (rw [if_pos g10p]; simp_all) | (rw [if_neg g10p]; cases fa <;> simp_all <;> omega)), HP.bl⟩
 have g10p := ne_of_beq_false g10
 refine wp_skip (then_normal (wp_seq (w_region ?_)))
 refine H.go HP 3 [(24, (.slice LA lib.length lc)), (26, (ii u.item))] [0] fun a H => ?_
 refine H.call 27 (by kernel_rfl) (Eq.trans (by kernel_rfl : _ = (callFunc 43 #[(.slice LA lib.length lc), (ii u.item)]).run Tryz.prog w_2) (Tryz.call43 _ _)) ((by have hh := mfind_any LA lib.length lc lib u.item w_2 (HP.fact 0 rfl) hln hlp; rw [hfa] at hh; exact hh)) ?_
 rintro e w_3 ⟨FB, fc, rfl, hfp, hfc1, hfc2, hfc3, hbf, hfr⟩
 refine ⟨_, rfl, ?_⟩
 intro a H
 have HP := (HP.next hbf).keepF ⟨rowFp (fa.getD astZ).pics.length FB, fun w => IsPics w FB (fa.getD astZ).pics.length (fa.getD astZ).pics⟩ hfp (fun _ _ h hk hs => ⟨h.1, h.2.keep hk hs⟩) (fun j hj => row_sep HP hfp.2 hfr hj)
 refine H.go HP 3 [(28, (.agg #[(ii ((fa.getD astZ).item)), (.slice FB ((fa.getD astZ).pics.length) fc)])), (29, (.bool fa.isSome))] [] fun a H => H.alloc HP 5 (fun b => (pt b 0)) 91 [(ii 0), (.slice none 0 0)] (by kernel_rfl) (fun w => by kernel_rfl) fun b_4 w_5 a H HP => H.sh HP 0 0 (.agg #[(ii ((fa.getD astZ).item)), (.slice FB ((fa.getD astZ).pics.length) fc)]) rfl fun w_6 a H HP => ?_
 refine H.ge HP [(6, (.bool fa.isSome))] [] fun a H => ?_
 refine then_normal (wp_seq (wp_seq (w_region ?_)))
 refine H.go HP 3 [(32, (.bool (!fa.isSome)))] [] fun a H => ?_
 refine H.split 32 rfl (fun g32 H => ?_) (fun g32 H => ?_)
 ·have g32p := not_is_true g32
  refine H.ge HP [(44, (.bool true))] [] fun a H => ?_
  refine then_normal ?_
  refine w_ift H rfl ?_
  refine wp_seq (w_region ?_)
  refine H.ge HP [(4, (.bool false))] [] fun a H => ?_
  refine then_normal (wp_ret (then_ret ?_))
  refine H.ret1 (fn := Tryz.f27) Tryz.results27 (RV.tmp_ (v := (.bool false)) (by kernel_rfl)) ?_
  exact ⟨congrArg (fun b => Ending.returned (.bool b)) (by unfold genuineP; first | (rw [if_pos g10p]; simp_all) | (rw [if_neg g10p]; cases fa <;> simp_all <;> omega)), HP.bl⟩
 have g32p := not_is_false g32
 refine H.go HP 5 [(37, (.bool (decide (u.index < 0))))] [1] fun a H => ?_
 refine H.split 37 rfl (fun g37 H => ?_) (fun g37 H => ?_)
 ·have g37p := of_decide_eq_true g37
  refine H.ge HP [(44, (.bool true))] [] fun a H => ?_
  refine then_normal ?_
  refine w_ift H rfl ?_
  refine wp_seq (w_region ?_)
  refine H.ge HP [(4, (.bool false))] [] fun a H => ?_
  refine then_normal (wp_ret (then_ret ?_))
  refine H.ret1 (fn := Tryz.f27) Tryz.results27 (RV.tmp_ (v := (.bool false)) (by kernel_rfl)) ?_
  exact ⟨congrArg (fun b => Ending.returned (.bool b)) (by unfold genuineP; first | (rw [if_pos g10p]; simp_all) | (rw [if_neg g10p]; cases fa <;> simp_all <;> omega)), HP.bl⟩
 have g37p := of_decide_eq_false g37
 refine H.ge HP [(44, (.bool (decide (u.index ≥ (((fa.getD astZ).pics.length : Nat) : Int)))))] [1, 0] fun a H => ?_
 refine then_normal ?_
 refine w_if H rfl (fun g44 => ?_) (fun g44 => ?_)
 ·have g44p := of_decide_eq_true g44
  refine wp_seq (w_region ?_)
  refine H.ge HP [(4, (.bool false))] [] fun a H => ?_
  refine then_normal (wp_ret (then_ret ?_))
  refine H.ret1 (fn := Tryz.f27) Tryz.results27 (RV.tmp_ (v := (.bool false)) (by kernel_rfl)) ?_
  exact ⟨congrArg (fun b => Ending.returned (.bool b)) (by unfold genuineP; first | (rw [if_pos g10p]; simp_all) | (rw [if_neg g10p]; cases fa <;> simp_all <;> omega)), HP.bl⟩
 have g44p := of_decide_eq_false g44
 refine wp_skip (then_normal (wp_seq (w_region ?_)))
 refine H.go HP 4 [(46, (.slice FB ((fa.getD astZ).pics.length) fc)), (48, (ii u.index))] [0, 1] fun a H => ?_
 obtain ⟨kx, hkx⟩ : ∃ kx : Nat, u.index = (kx : Int) := ⟨u.index.toNat, by omega⟩
 obtain ⟨bu, ou, hA, hbu, hpc⟩ := pic_cells (HP.fact 0 rfl : IsPics _ FB _ _) (i := kx) (by omega)
 refine H.u 49 (.pointer (some ⟨bu, ou + kx * 3, none⟩)) (ex_indexA (b := bu) (off := ou) (len := (fa.getD astZ).pics.length) (cap := fc) (e := 96) (k := 3) (ik := .i64) (i := u.index) (m := kx) hA (by kernel_rfl) (by kernel_rfl) hkx (by omega) (by kernel_rfl) (by kernel_rfl)) fun a H => H.u 50 (.agg #[(.bool (((fa.getD astZ).pics.getD kx picZ).key)), (.string (bstr (((fa.getD astZ).pics.getD kx picZ).str))), (ii (((fa.getD astZ).pics.getD kx picZ).power))]) (ex_loadN (b := bu) (off := ou + kx * 3) (vs := [(.bool (((fa.getD astZ).pics.getD kx picZ).key)), (.string (bstr (((fa.getD astZ).pics.getD kx picZ).str))), (ii (((fa.getD astZ).pics.getD kx picZ).power))]) (by kernel_rfl) (by kernel_rfl) (by kernel_rfl) rfl (hpc)) fun a H => H.alloc HP 7 (fun b => (pt b 0)) 96 [(.bool false), (.string (bstr ([]))), (ii 0)] (by kernel_rfl) (fun w => by kernel_rfl) fun b_7 w_8 a H HP => H.sh HP 0 0 (.agg #[(.bool (((fa.getD astZ).pics.getD kx picZ).key)), (.string (bstr (((fa.getD astZ).pics.getD kx picZ).str))), (ii (((fa.getD astZ).pics.getD kx picZ).power))]) rfl fun w_9 a H HP => ?_
 refine wpList_nil (then_normal (wp_seq (w_region ?_)))
 refine H.go HP 6 [(56, (.bool ((((fa.getD astZ).pics.getD kx picZ).key) == u.key)))] [0, 2] fun a H => ?_
 refine H.split 56 rfl (fun g56 H => ?_) (fun g56 H => ?_)
 ·have g56p := eq_of_beq g56
  refine H.go HP 4 [(58, (.string (bstr (((fa.getD astZ).pics.getD kx picZ).str)))), (60, (.string (bstr u.data)))] [0, 2] fun a H => H.valE 61 (.bool ((bstr (((fa.getD astZ).pics.getD kx picZ).str)).toList == (bstr u.data).toList)) (.bool ((((fa.getD astZ).pics.getD kx picZ).str) == u.data)) (by kernel_rfl) (by kernel_rfl) ((congrArg Value.bool (bstr_eq _ _))) fun a H => ?_
  refine H.ge HP [(4, (.bool ((((fa.getD astZ).pics.getD kx picZ).str) == u.data)))] [] fun a H => ?_
  refine then_normal (wp_ret ?_)
  refine H.ret1 (fn := Tryz.f27) Tryz.results27 (RV.tmp_ (v := (.bool ((((fa.getD astZ).pics.getD kx picZ).str) == u.data))) (by kernel_rfl)) ?_
  exact ⟨congrArg (fun b => Ending.returned (.bool b)) (by unfold genuineP; first | (rw [if_pos g10p]; simp_all) | (rw [if_neg g10p]; cases fa <;> simp_all <;> omega)), HP.bl⟩
 have g56p := ne_of_beq_false g56
 refine H.ge HP [(4, (.bool false))] [] fun a H => ?_
 refine then_normal (wp_ret ?_)
 refine H.ret1 (fn := Tryz.f27) Tryz.results27 (RV.tmp_ (v := (.bool false)) (by kernel_rfl)) ?_
 exact ⟨congrArg (fun b => Ending.returned (.bool b)) (by unfold genuineP; first | (rw [if_pos g10p]; simp_all) | (rw [if_neg g10p]; cases fa <;> simp_all <;> omega)), HP.bl⟩
set_option maxRecDepth 100000 in
set_option maxHeartbeats 4000000 in
theorem enters_any (bs bc n cc o : Nat) (lc : Nat) (LA : Option Addr) (lib : List AstA) (hd : Bool) (at_ od : Int) (pre post : List Value) (c : Ch) (u : Un) (w : World) (ho : pre.length = o) (hlib : IsAsts w LA lib.length lib) (hln : lib.length ≤ maxLen) (hlp : ∀ a ∈ lib, a.pics.length ≤ 2000000) (hS : Box w bs 111 [(.slice (some ⟨bc, 0, none⟩) n cc), (.slice LA lib.length lc), (.bool hd), (ii at_), (ii od)].toArray) (hC : Box w bc 115 (pre ++ [(ii c.item), (ii c.index), (ii c.full), (ii c.taken), (ii c.number), (ii c.num), (ii c.den)] ++ post).toArray) :
  Calls Tryz.prog 128 #[.pointer (some ⟨bs, 0, none⟩), .pointer (some ⟨bc, o, none⟩), u.val] w fun e w' => e = .returned (.bool (entersS lib c.full u)) ∧ Below w.heap.size w w' := by
 obtain ⟨fa, hfa⟩ : ∃ r, findA u.item lib = r := ⟨_, rfl⟩
 have hpl : (fa.getD astZ).pics.length ≤ 2000000 := findA_len hlp hfa
 have HP := ((((Hp.start w).keepF (boxK bc 115 (pre ++ [(ii c.item), (ii c.index), (ii c.full), (ii c.taken), (ii c.number), (ii c.num), (ii c.den)] ++ post)) hC (boxK_ok _ _ _) (fun k hk => ⟨boxK_lt hC hk, fun x hx => by cases hx⟩)).keepF (boxK bs 111 [(.slice (some ⟨bc, 0, none⟩) n cc), (.slice LA lib.length lc), (.bool hd), (ii at_), (ii od)]) hS (boxK_ok _ _ _) (fun k hk => ⟨boxK_lt hS hk, fun x hx => by cases hx⟩)).keepF (astsK LA lib) hlib (fun _ _ h hk hs => IsAsts.keep h hk hs) (fun k hk => ⟨IsAsts.lt hlib hk, fun x hx => by cases hx⟩))
 refine w_enter 59 [(0, (pt bs 0)), (1, (pt bc o)), (2, (.agg (ua u u.A u.c)))] Tryz.func128 rfl Tryz.ntmps128 (by kernel_rfl) (by kernel_rfl) fun a H => ?_
 refine wp_seq (w_region ?_)
 refine H.alloc HP 5 (fun b => (pt b 0)) 76 (ul u u.A u.c) (by kernel_rfl) (fun w => by kernel_rfl) fun b_1 w_2 a H HP => ?_
 refine H.ge HP [(6, (.bool false))] [] fun a H => ?_
 refine then_normal (wp_seq ?_)
 refine An.start (fun v => Hp w v [bx b_1 76 (ul u u.A u.c) true] [astsK LA lib, boxK bs 111 [(.slice (some ⟨bc, 0, none⟩) n cc), (.slice LA lib.length lc), (.bool hd), (ii at_), (ii od)], boxK bc 115 (pre ++ [(ii c.item), (ii c.index), (ii c.full), (ii c.taken), (ii c.number), (ii c.num), (ii c.den)] ++ post)]) 13 13 HP wide_follows rfl fun w_3 HP => ?_
 refine An.go H (.inr (HP)) 10 [0, 1, 2] [(13, (pt bs 1))] [] fun a H => ?_
 refine An.val H (HP) 3 14 (.slice LA lib.length lc) rfl (by kernel_rfl) (by kernel_rfl) (fun _ _ _ h => h) (fun _ hS => ex_l1 (Box.cell (i := 1) (hS.fact 1 rfl : Box _ bs 111 _) rfl)) fun a H => ?_
 refine An.go H (.inr (HP)) 7 [4, 5] [(16, (ii u.item))] [0] fun a H => ?_
 refine An.two 6 10 (by kernel_rfl) ?_ ?_
 ·refine Op.call H 17 rfl (by kernel_rfl) (Eq.trans (by kernel_rfl : _ = (callFunc 43 #[(.slice LA lib.length lc), (ii u.item)]).run Tryz.prog w_3) (Tryz.call43 _ _)) ((by have hh := mfind_any LA lib.length lc lib u.item w_3 (HP.fact 0 rfl) hln hlp; rw [hfa] at hh; exact hh)) ?_
  rintro e w_4 ⟨FB, fc, rfl, hfp, hfc1, hfc2, hfc3, hbf, hfr⟩
  refine ⟨_, rfl, ?_⟩
  intro a H
  have HP := (HP.next hbf).keepF ⟨rowFp (fa.getD astZ).pics.length FB, fun w => IsPics w FB (fa.getD astZ).pics.length (fa.getD astZ).pics⟩ hfp (fun _ _ h hk hs => ⟨h.1, h.2.keep hk hs⟩) (fun j hj => row_sep HP hfp.2 hfr hj)
  refine ⟨.inr (HP.untop), ?_⟩
  refine An.go H (.inr (HP.untop)) 3 [7, 8, 9] [(18, (.agg #[(ii ((fa.getD astZ).item)), (.slice FB ((fa.getD astZ).pics.length) fc)])), (19, (.bool fa.isSome))] [] fun a H => ?_
  refine An.one 10 (by kernel_rfl) ?_
  refine Op.alloc H HP 7 (fun b => (pt b 0)) 91 [(ii 0), (.slice none 0 0)] rfl (by kernel_rfl) (fun w => by kernel_rfl) fun b_5 w_6 a H HP => ?_
  refine ⟨.inr ((HP.tail rfl).untop), ?_⟩
  refine An.one 11 (by kernel_rfl) ?_
  refine Op.sh H HP 0 0 (.agg #[(ii ((fa.getD astZ).item)), (.slice FB ((fa.getD astZ).pics.length) fc)]) rfl rfl fun w_7 a H HP => ?_
  refine ⟨.inr ((HP.tail rfl).untop), ?_⟩
  refine An.go H (.inr ((HP.tail rfl).untop)) 0 [12] [(8, (.bool fa.isSome))] [] fun a H => ?_
  refine An.done (by kernel_rfl) ?_
  refine then_normal (wp_seq (wp_seq (w_region ?_)))
  refine H.go HP 3 [(22, (.bool (!fa.isSome)))] [] fun a H => ?_
  refine H.split 22 rfl (fun g22 H => ?_) (fun g22 H => ?_)
  ·have g22p := not_is_true g22
   refine H.ge HP [(39, (.bool true))] [] fun a H => ?_
   refine then_normal ?_
   refine w_ift H rfl ?_
   refine wp_seq (w_region ?_)
   refine H.ge HP [(6, (.bool false))] [] fun a H => ?_
   refine then_normal (wp_ret (then_ret ?_))
   refine H.ret1 (fn := Tryz.f128) Tryz.results128 (RV.tmp_ (v := (.bool false)) (by kernel_rfl)) ?_
   exact ⟨congrArg (fun b => Ending.returned (.bool b)) (enters_no hfa (.inl g22p)).symm, HP.bl⟩
  have g22p := not_is_false g22
  refine H.go HP 5 [(27, (.bool (!u.key)))] [1] fun a H => ?_
  refine H.split 27 rfl (fun g27 H => ?_) (fun g27 H => ?_)
  ·have g27p := not_is_true g27
   refine H.ge HP [(39, (.bool true))] [] fun a H => ?_
   refine then_normal ?_
   refine w_ift H rfl ?_
   refine wp_seq (w_region ?_)
   refine H.ge HP [(6, (.bool false))] [] fun a H => ?_
   refine then_normal (wp_ret (then_ret ?_))
   refine H.ret1 (fn := Tryz.f128) Tryz.results128 (RV.tmp_ (v := (.bool false)) (by kernel_rfl)) ?_
   exact ⟨congrArg (fun b => Ending.returned (.bool b)) (enters_no hfa (.inr (.inl g27p))).symm, HP.bl⟩
  have g27p := not_is_false g27
  refine H.go HP 5 [(32, (.bool (decide (u.index < 0))))] [1] fun a H => ?_
  refine H.split 32 rfl (fun g32 H => ?_) (fun g32 H => ?_)
  ·have g32p := of_decide_eq_true g32
   refine H.ge HP [(39, (.bool true))] [] fun a H => ?_
   refine then_normal ?_
   refine w_ift H rfl ?_
   refine wp_seq (w_region ?_)
   refine H.ge HP [(6, (.bool false))] [] fun a H => ?_
   refine then_normal (wp_ret (then_ret ?_))
   refine H.ret1 (fn := Tryz.f128) Tryz.results128 (RV.tmp_ (v := (.bool false)) (by kernel_rfl)) ?_
   exact ⟨congrArg (fun b => Ending.returned (.bool b)) (enters_no hfa (.inr (.inr (.inl g32p)))).symm, HP.bl⟩
  have g32p := of_decide_eq_false g32
  refine H.ge HP [(39, (.bool (decide (u.index ≥ (((fa.getD astZ).pics.length : Nat) : Int)))))] [1, 0] fun a H => ?_
  refine then_normal ?_
  refine w_if H rfl (fun g39 => ?_) (fun g39 => ?_)
  ·have g39p := of_decide_eq_true g39
   refine wp_seq (w_region ?_)
   refine H.ge HP [(6, (.bool false))] [] fun a H => ?_
   refine then_normal (wp_ret (then_ret ?_))
   refine H.ret1 (fn := Tryz.f128) Tryz.results128 (RV.tmp_ (v := (.bool false)) (by kernel_rfl)) ?_
   exact ⟨congrArg (fun b => Ending.returned (.bool b)) (enters_no hfa (.inr (.inr (.inr (by omega))))).symm, HP.bl⟩
  have g39p := of_decide_eq_false g39
  refine wp_skip (then_normal (wp_seq ?_))
  obtain ⟨kx, hkx⟩ : ∃ kx : Nat, u.index = (kx : Int) := ⟨u.index.toNat, by omega⟩
  refine An.start (fun v => Hp w v [bx b_5 91 [(ii ((fa.getD astZ).item)), (.slice FB ((fa.getD astZ).pics.length) fc)] true, bx b_1 76 (ul u u.A u.c) true] [⟨rowFp (fa.getD astZ).pics.length FB, fun w => IsPics w FB (fa.getD astZ).pics.length (fa.getD astZ).pics⟩, astsK LA lib, boxK bs 111 [(.slice (some ⟨bc, 0, none⟩) n cc), (.slice LA lib.length lc), (.bool hd), (ii at_), (ii od)], boxK bc 115 (pre ++ [(ii c.item), (ii c.index), (ii c.full), (ii c.taken), (ii c.number), (ii c.num), (ii c.den)] ++ post)]) 11 11 HP wide_follows rfl fun w_8 HP => ?_
  refine An.go H (.inr (HP)) 8 [0, 2, 3] [(41, (.agg #[(ii ((fa.getD astZ).item)), (.slice FB ((fa.getD astZ).pics.length) fc)])), (44, (ii u.index))] [0, 1] fun a H => ?_
  refine An.one 1 (by kernel_rfl) ?_
  refine Op.call H 42 rfl (by kernel_rfl) (Eq.trans (by kernel_rfl : _ = (callFunc 30 #[(.agg #[(ii ((fa.getD astZ).item)), (.slice FB ((fa.getD astZ).pics.length) fc)])]).run Tryz.prog w_8) (Tryz.call30 _ _)) (msizes_any _ FB _ fc (fa.getD astZ).pics w_8 (HP.fact 0 rfl) hpl) ?_
  rintro e w_9 ⟨ZB, zc, rfl, hzi, hzc1, hzc2, hzc3, hbz⟩
  refine ⟨_, rfl, ?_⟩
  intro a H
  have HP := HP.next hbz
  have hzl : (sizesP (fa.getD astZ).pics).length = (fa.getD astZ).pics.length := by unfold sizesP; exact List.length_map ..
  have hkl : kx ≤ (sizesP (fa.getD astZ).pics).length := by omega
  refine ⟨.inr (HP), ?_⟩
  refine An.pure H (.inr (HP)) 4 45 (.slice (dropA ZB zc kx 1) ((sizesP (fa.getD astZ).pics).length - kx) (zc - kx)) rfl (by kernel_rfl) (by kernel_rfl) (fun _ _ _ h => h) (fun _ => ex_sliceLo (A := ZB) (len := (sizesP (fa.getD astZ).pics).length) (cap := zc) (i := kx) (sz := 1) (lo := u.index) (by kernel_rfl) (by kernel_rfl) (by kernel_rfl) (by kernel_rfl) hkx hkl) fun a H => ?_
  refine An.one 5 (by kernel_rfl) ?_
  refine Op.call H 46 rfl (by kernel_rfl) (Eq.trans (by kernel_rfl : _ = (callFunc 171 #[(.slice (dropA ZB zc kx 1) ((sizesP (fa.getD astZ).pics).length - kx) (zc - kx))]).run Tryz.prog w_9) (Tryz.call171 _ _)) ((by have hh := vbvNeed_any (dropA ZB zc kx 1) ((sizesP (fa.getD astZ).pics).length - kx) (zc - kx) ((sizesP (fa.getD astZ).pics).drop kx) w_9 (ints_drop hzi hzc1 hkl) (by omega); exact hh)) ?_
  rintro e w_10 ⟨rfl, hbn⟩
  refine ⟨_, rfl, ?_⟩
  intro a H
  have HP := HP.next hbn
  refine ⟨.inr (HP), ?_⟩
  refine An.go H (.inr (HP)) 0 [6, 7, 8, 9, 10] [(9, (ii ((needOf ((sizesP (fa.getD astZ).pics).drop kx)).getD 0))), (8, (.bool ((needOf ((sizesP (fa.getD astZ).pics).drop kx)).isSome)))] [] fun a H => ?_
  refine An.done (by kernel_rfl) ?_
  refine then_normal (wp_seq (w_region ?_))
  refine H.go HP 2 [(50, (.bool ((needOf ((sizesP (fa.getD astZ).pics).drop kx)).isSome)))] [] fun a H => ?_
  refine H.split 50 rfl (fun g50 H => ?_) (fun g50 H => ?_)
  ·have g50p := g50
   refine H.go HP 4 [(54, (.pointer (some ⟨bc, o + 2, none⟩)))] [] fun a H => H.u 55 (ii c.full) (ex_l1 (win_cell (k := 2) (HP.fact 3 rfl : Box _ bc 115 _) ho rfl)) fun a H => ?_
   refine H.ge HP [(6, (.bool (decide (c.full ≥ ((needOf ((sizesP (fa.getD astZ).pics).drop kx)).getD 0)))))] [] fun a H => ?_
   refine then_normal (wp_ret ?_)
   refine H.ret1 (fn := Tryz.f128) Tryz.results128 (RV.tmp_ (v := (.bool (decide (c.full ≥ ((needOf ((sizesP (fa.getD astZ).pics).drop kx)).getD 0))))) (by kernel_rfl)) ?_
   exact ⟨congrArg (fun b => Ending.returned (.bool b)) (by rw [enters_yes hfa g22p g27p (by omega) (by omega) hkx, g50p]; simp), HP.bl⟩
  have g50p := g50
  refine H.ge HP [(6, (.bool false))] [] fun a H => ?_
  refine then_normal (wp_ret ?_)
  refine H.ret1 (fn := Tryz.f128) Tryz.results128 (RV.tmp_ (v := (.bool false)) (by kernel_rfl)) ?_
  exact ⟨congrArg (fun b => Ending.returned (.bool b)) (by rw [enters_yes hfa g22p g27p (by omega) (by omega) hkx, g50p]; simp), HP.bl⟩
 refine Op.alloc H HP 7 (fun b => (pt b 0)) 91 [(ii 0), (.slice none 0 0)] rfl (by kernel_rfl) (fun w => by kernel_rfl) fun b_11 w_12 a H HP => ?_
 refine ⟨.inr ((HP.tail rfl)), ?_⟩
 refine An.one 6 (by kernel_rfl) ?_
 refine Op.call H 17 rfl (by kernel_rfl) (Eq.trans (by kernel_rfl : _ = (callFunc 43 #[(.slice LA lib.length lc), (ii u.item)]).run Tryz.prog w_12) (Tryz.call43 _ _)) ((by have hh := mfind_any LA lib.length lc lib u.item w_12 (HP.fact 0 rfl) hln hlp; rw [hfa] at hh; exact hh)) ?_
 rintro e w_13 ⟨FB, fc, rfl, hfp, hfc1, hfc2, hfc3, hbf, hfr⟩
 refine ⟨_, rfl, ?_⟩
 intro a H
 have HP := (HP.next hbf).keepF ⟨rowFp (fa.getD astZ).pics.length FB, fun w => IsPics w FB (fa.getD astZ).pics.length (fa.getD astZ).pics⟩ hfp (fun _ _ h hk hs => ⟨h.1, h.2.keep hk hs⟩) (fun j hj => row_sep HP hfp.2 hfr hj)
 refine ⟨.inr ((HP.tail rfl).untop), ?_⟩
 refine An.go H (.inr ((HP.tail rfl).untop)) 2 [7, 8, 9] [(18, (.agg #[(ii ((fa.getD astZ).item)), (.slice FB ((fa.getD astZ).pics.length) fc)])), (19, (.bool fa.isSome))] [] fun a H => ?_
 refine An.one 11 (by kernel_rfl) ?_
 refine Op.sh H HP 0 0 (.agg #[(ii ((fa.getD astZ).item)), (.slice FB ((fa.getD astZ).pics.length) fc)]) rfl rfl fun w_14 a H HP => ?_
 refine ⟨.inr ((HP.tail rfl).untop), ?_⟩
 refine An.go H (.inr ((HP.tail rfl).untop)) 0 [12] [(8, (.bool fa.isSome))] [] fun a H => ?_
 refine An.done (by kernel_rfl) ?_
 refine then_normal (wp_seq (wp_seq (w_region ?_)))
 refine H.go HP 3 [(22, (.bool (!fa.isSome)))] [] fun a H => ?_
 refine H.split 22 rfl (fun g22 H => ?_) (fun g22 H => ?_)
 ·have g22p := not_is_true g22
  refine H.ge HP [(39, (.bool true))] [] fun a H => ?_
  refine then_normal ?_
  refine w_ift H rfl ?_
  refine wp_seq (w_region ?_)
  refine H.ge HP [(6, (.bool false))] [] fun a H => ?_
  refine then_normal (wp_ret (then_ret ?_))
  refine H.ret1 (fn := Tryz.f128) Tryz.results128 (RV.tmp_ (v := (.bool false)) (by kernel_rfl)) ?_
  exact ⟨congrArg (fun b => Ending.returned (.bool b)) (enters_no hfa (.inl g22p)).symm, HP.bl⟩
 have g22p := not_is_false g22
 refine H.go HP 5 [(27, (.bool (!u.key)))] [1] fun a H => ?_
 refine H.split 27 rfl (fun g27 H => ?_) (fun g27 H => ?_)
 ·have g27p := not_is_true g27
  refine H.ge HP [(39, (.bool true))] [] fun a H => ?_
  refine then_normal ?_
  refine w_ift H rfl ?_
  refine wp_seq (w_region ?_)
  refine H.ge HP [(6, (.bool false))] [] fun a H => ?_
  refine then_normal (wp_ret (then_ret ?_))
  refine H.ret1 (fn := Tryz.f128) Tryz.results128 (RV.tmp_ (v := (.bool false)) (by kernel_rfl)) ?_
  exact ⟨congrArg (fun b => Ending.returned (.bool b)) (enters_no hfa (.inr (.inl g27p))).symm, HP.bl⟩
 have g27p := not_is_false g27
 refine H.go HP 5 [(32, (.bool (decide (u.index < 0))))] [1] fun a H => ?_
 refine H.split 32 rfl (fun g32 H => ?_) (fun g32 H => ?_)
 ·have g32p := of_decide_eq_true g32
  refine H.ge HP [(39, (.bool true))] [] fun a H => ?_
  refine then_normal ?_
  refine w_ift H rfl ?_
  refine wp_seq (w_region ?_)
  refine H.ge HP [(6, (.bool false))] [] fun a H => ?_
  refine then_normal (wp_ret (then_ret ?_))
  refine H.ret1 (fn := Tryz.f128) Tryz.results128 (RV.tmp_ (v := (.bool false)) (by kernel_rfl)) ?_
  exact ⟨congrArg (fun b => Ending.returned (.bool b)) (enters_no hfa (.inr (.inr (.inl g32p)))).symm, HP.bl⟩
 have g32p := of_decide_eq_false g32
 refine H.ge HP [(39, (.bool (decide (u.index ≥ (((fa.getD astZ).pics.length : Nat) : Int)))))] [1, 0] fun a H => ?_
 refine then_normal ?_
 refine w_if H rfl (fun g39 => ?_) (fun g39 => ?_)
 ·have g39p := of_decide_eq_true g39
  refine wp_seq (w_region ?_)
  refine H.ge HP [(6, (.bool false))] [] fun a H => ?_
  refine then_normal (wp_ret (then_ret ?_))
  refine H.ret1 (fn := Tryz.f128) Tryz.results128 (RV.tmp_ (v := (.bool false)) (by kernel_rfl)) ?_
  exact ⟨congrArg (fun b => Ending.returned (.bool b)) (enters_no hfa (.inr (.inr (.inr (by omega))))).symm, HP.bl⟩
 have g39p := of_decide_eq_false g39
 refine wp_skip (then_normal (wp_seq ?_))
 obtain ⟨kx, hkx⟩ : ∃ kx : Nat, u.index = (kx : Int) := ⟨u.index.toNat, by omega⟩
 refine An.start (fun v => Hp w v [bx b_11 91 [(ii ((fa.getD astZ).item)), (.slice FB ((fa.getD astZ).pics.length) fc)] true, bx b_1 76 (ul u u.A u.c) true] [⟨rowFp (fa.getD astZ).pics.length FB, fun w => IsPics w FB (fa.getD astZ).pics.length (fa.getD astZ).pics⟩, astsK LA lib, boxK bs 111 [(.slice (some ⟨bc, 0, none⟩) n cc), (.slice LA lib.length lc), (.bool hd), (ii at_), (ii od)], boxK bc 115 (pre ++ [(ii c.item), (ii c.index), (ii c.full), (ii c.taken), (ii c.number), (ii c.num), (ii c.den)] ++ post)]) 11 11 HP wide_follows rfl fun w_15 HP => ?_
 refine An.go H (.inr (HP)) 8 [0, 2, 3] [(41, (.agg #[(ii ((fa.getD astZ).item)), (.slice FB ((fa.getD astZ).pics.length) fc)])), (44, (ii u.index))] [0, 1] fun a H => ?_
 refine An.one 1 (by kernel_rfl) ?_
 refine Op.call H 42 rfl (by kernel_rfl) (Eq.trans (by kernel_rfl : _ = (callFunc 30 #[(.agg #[(ii ((fa.getD astZ).item)), (.slice FB ((fa.getD astZ).pics.length) fc)])]).run Tryz.prog w_15) (Tryz.call30 _ _)) (msizes_any _ FB _ fc (fa.getD astZ).pics w_15 (HP.fact 0 rfl) hpl) ?_
 rintro e w_16 ⟨ZB, zc, rfl, hzi, hzc1, hzc2, hzc3, hbz⟩
 refine ⟨_, rfl, ?_⟩
 intro a H
 have HP := HP.next hbz
 have hzl : (sizesP (fa.getD astZ).pics).length = (fa.getD astZ).pics.length := by unfold sizesP; exact List.length_map ..
 have hkl : kx ≤ (sizesP (fa.getD astZ).pics).length := by omega
 refine ⟨.inr (HP), ?_⟩
 refine An.pure H (.inr (HP)) 4 45 (.slice (dropA ZB zc kx 1) ((sizesP (fa.getD astZ).pics).length - kx) (zc - kx)) rfl (by kernel_rfl) (by kernel_rfl) (fun _ _ _ h => h) (fun _ => ex_sliceLo (A := ZB) (len := (sizesP (fa.getD astZ).pics).length) (cap := zc) (i := kx) (sz := 1) (lo := u.index) (by kernel_rfl) (by kernel_rfl) (by kernel_rfl) (by kernel_rfl) hkx hkl) fun a H => ?_
 refine An.one 5 (by kernel_rfl) ?_
 refine Op.call H 46 rfl (by kernel_rfl) (Eq.trans (by kernel_rfl : _ = (callFunc 171 #[(.slice (dropA ZB zc kx 1) ((sizesP (fa.getD astZ).pics).length - kx) (zc - kx))]).run Tryz.prog w_16) (Tryz.call171 _ _)) ((by have hh := vbvNeed_any (dropA ZB zc kx 1) ((sizesP (fa.getD astZ).pics).length - kx) (zc - kx) ((sizesP (fa.getD astZ).pics).drop kx) w_16 (ints_drop hzi hzc1 hkl) (by omega); exact hh)) ?_
 rintro e w_17 ⟨rfl, hbn⟩
 refine ⟨_, rfl, ?_⟩
 intro a H
 have HP := HP.next hbn
 refine ⟨.inr (HP), ?_⟩
 refine An.go H (.inr (HP)) 0 [6, 7, 8, 9, 10] [(9, (ii ((needOf ((sizesP (fa.getD astZ).pics).drop kx)).getD 0))), (8, (.bool ((needOf ((sizesP (fa.getD astZ).pics).drop kx)).isSome)))] [] fun a H => ?_
 refine An.done (by kernel_rfl) ?_
 refine then_normal (wp_seq (w_region ?_))
 refine H.go HP 2 [(50, (.bool ((needOf ((sizesP (fa.getD astZ).pics).drop kx)).isSome)))] [] fun a H => ?_
 refine H.split 50 rfl (fun g50 H => ?_) (fun g50 H => ?_)
 ·have g50p := g50
  refine H.go HP 4 [(54, (.pointer (some ⟨bc, o + 2, none⟩)))] [] fun a H => H.u 55 (ii c.full) (ex_l1 (win_cell (k := 2) (HP.fact 3 rfl : Box _ bc 115 _) ho rfl)) fun a H => ?_
  refine H.ge HP [(6, (.bool (decide (c.full ≥ ((needOf ((sizesP (fa.getD astZ).pics).drop kx)).getD 0)))))] [] fun a H => ?_
  refine then_normal (wp_ret ?_)
  refine H.ret1 (fn := Tryz.f128) Tryz.results128 (RV.tmp_ (v := (.bool (decide (c.full ≥ ((needOf ((sizesP (fa.getD astZ).pics).drop kx)).getD 0))))) (by kernel_rfl)) ?_
  exact ⟨congrArg (fun b => Ending.returned (.bool b)) (by rw [enters_yes hfa g22p g27p (by omega) (by omega) hkx, g50p]; simp), HP.bl⟩
 have g50p := g50
 refine H.ge HP [(6, (.bool false))] [] fun a H => ?_
 refine then_normal (wp_ret ?_)
 refine H.ret1 (fn := Tryz.f128) Tryz.results128 (RV.tmp_ (v := (.bool false)) (by kernel_rfl)) ?_
 exact ⟨congrArg (fun b => Ending.returned (.bool b)) (by rw [enters_yes hfa g22p g27p (by omega) (by omega) hkx, g50p]; simp), HP.bl⟩
def rule3 (fl : Option Int) (u : Un) : Bool := match fl with
 | none => false
 | some x => decide (x ≤ u.version)
set_option maxRecDepth 100000 in
set_option maxHeartbeats 4000000 in
theorem rule1_any (be bu bcp bf bc o : Nat) (err fr : Int) (pre post : List Value) (c : Ch) (u : Un) (w : World) (ho : pre.length = o) (hE : Box w be 30 [(ii err)].toArray) (hU : Box w bu 76 (ul u u.A u.c).toArray) (hP : Box w bcp 129 [(pt bc o)].toArray) (hF : Box w bf 3 [(ii fr)].toArray) (hC : Box w bc 115 (pre ++ [(ii c.item), (ii c.index), (ii c.full), (ii c.taken), (ii c.number), (ii c.num), (ii c.den)] ++ post).toArray) :
  Calls Tryz.prog 123 #[(pt be 0), (pt bu 0), (pt bcp 0), (pt bf 0)] w fun e w' => e = .returned (.bool ((err == 0) && ((u.channel == c.number) && (u.frame == fr)))) ∧ Below w.heap.size w w' := by
 have HP := ((((((Hp.start w).keepF (boxK bc 115 (pre ++ [(ii c.item), (ii c.index), (ii c.full), (ii c.taken), (ii c.number), (ii c.num), (ii c.den)] ++ post)) hC (boxK_ok _ _ _) (fun k hk => ⟨boxK_lt hC hk, fun x hx => by cases hx⟩)).keepF (boxK bf 3 [(ii fr)]) hF (boxK_ok _ _ _) (fun k hk => ⟨boxK_lt hF hk, fun x hx => by cases hx⟩)).keepF (boxK bcp 129 [(pt bc o)]) hP (boxK_ok _ _ _) (fun k hk => ⟨boxK_lt hP hk, fun x hx => by cases hx⟩)).keepF (boxK bu 76 (ul u u.A u.c)) hU (boxK_ok _ _ _) (fun k hk => ⟨boxK_lt hU hk, fun x hx => by cases hx⟩)).keepF (boxK be 30 [(ii err)]) hE (boxK_ok _ _ _) (fun k hk => ⟨boxK_lt hE hk, fun x hx => by cases hx⟩))
 refine w_enter 22 [(0, (pt be 0)), (1, (pt bu 0)), (2, (pt bcp 0)), (3, (pt bf 0))] Tryz.func123 rfl Tryz.ntmps123 (by kernel_rfl) (by kernel_rfl) fun a H => ?_
 refine wp_seq (w_region ?_)
 refine H.ge HP [(4, (.bool false))] [] fun a H => ?_
 refine then_normal (wp_seq ?_)
 refine An.start (fun v => Hp w v [] [boxK be 30 [(ii err)], boxK bu 76 (ul u u.A u.c), boxK bcp 129 [(pt bc o)], boxK bf 3 [(ii fr)], boxK bc 115 (pre ++ [(ii c.item), (ii c.index), (ii c.full), (ii c.taken), (ii c.number), (ii c.num), (ii c.den)] ++ post)]) 18 18 HP wide_follows rfl fun w_1 HP => ?_
 refine An.val H (HP) 0 5 (ii err) rfl (by kernel_rfl) (by kernel_rfl) (fun _ _ _ h => h) (fun _ hS => ex_l1 (Box.cell (i := 0) (hS.fact 0 rfl : Box _ be 30 _) rfl)) fun a H => ?_
 refine An.go H (.inr (HP)) 15 [1, 2] [(7, (.bool (err == 0)))] [] fun a H => ?_
 refine H.split 7 rfl (fun g7 H => ?_) (fun g7 H => ?_)
 ·have g7p := eq_of_beq g7
  refine An.go H (.inr (HP)) 14 [3] [(8, (pt bu 0))] [] fun a H => ?_
  refine An.val H (HP) 4 9 (ii u.channel) rfl (by kernel_rfl) (by kernel_rfl) (fun _ _ _ h => h) (fun _ hS => ex_l1 (Box.cell (i := 0) (hS.fact 1 rfl : Box _ bu 76 _) rfl)) fun a H => ?_
  refine An.val H (HP) 5 10 (pt bc o) rfl (by kernel_rfl) (by kernel_rfl) (fun _ _ _ h => h) (fun _ hS => ex_l1 (Box.cell (i := 0) (hS.fact 2 rfl : Box _ bcp 129 _) rfl)) fun a H => ?_
  refine An.go H (.inr (HP)) 10 [6, 7] [(12, (.pointer (some ⟨bc, o + 4, none⟩)))] [] fun a H => ?_
  refine An.val H (HP) 8 13 (ii c.number) rfl (by kernel_rfl) (by kernel_rfl) (fun _ _ _ h => h) (fun _ hS => ex_l1 (win_cell (k := 4) (hS.fact 4 rfl : Box _ bc 115 _) ho rfl)) fun a H => ?_
  refine An.go H (.inr (HP)) 6 [9, 10, 11] [(16, (.bool (u.channel == c.number)))] [] fun a H => ?_
  refine H.split 16 rfl (fun g16 H => ?_) (fun g16 H => ?_)
  ·have g16p := eq_of_beq g16
   refine An.go H (.inr (HP)) 5 [12] [(17, (pt bu 1))] [] fun a H => ?_
   refine An.val H (HP) 13 18 (ii u.frame) rfl (by kernel_rfl) (by kernel_rfl) (fun _ _ _ h => h) (fun _ hS => ex_l1 (Box.cell (i := 1) (hS.fact 1 rfl : Box _ bu 76 _) rfl)) fun a H => ?_
   refine An.val H (HP) 14 19 (ii fr) rfl (by kernel_rfl) (by kernel_rfl) (fun _ _ _ h => h) (fun _ hS => ex_l1 (Box.cell (i := 0) (hS.fact 3 rfl : Box _ bf 3 _) rfl)) fun a H => ?_
   refine An.go H (.inr (HP)) 0 [15, 16, 17] [(4, (.bool (u.frame == fr)))] [] fun a H => ?_
   refine An.done (by kernel_rfl) ?_
   refine then_normal (wp_ret ?_)
   refine H.ret1 (fn := Tryz.f123) Tryz.results123 (RV.tmp_ (v := (.bool (u.frame == fr))) (by kernel_rfl)) ?_
   exact ⟨congrArg (fun b => Ending.returned (.bool b)) (by simp_all), HP.bl⟩
  have g16p := ne_of_beq_false g16
  refine An.go H (.inr (HP)) 0 [12, 13, 14, 15, 16, 17] [(4, (.bool false))] [] fun a H => ?_
  refine An.done (by kernel_rfl) ?_
  refine then_normal (wp_ret ?_)
  refine H.ret1 (fn := Tryz.f123) Tryz.results123 (RV.tmp_ (v := (.bool false)) (by kernel_rfl)) ?_
  exact ⟨congrArg (fun b => Ending.returned (.bool b)) (by simp_all), HP.bl⟩
 have g7p := ne_of_beq_false g7
 refine An.go H (.inr (HP)) 0 [3, 4, 5, 6, 7, 8, 9, 10, 11, 12, 13, 14, 15, 16, 17] [(4, (.bool false))] [] fun a H => ?_
 refine An.done (by kernel_rfl) ?_
 refine then_normal (wp_ret ?_)
 refine H.ret1 (fn := Tryz.f123) Tryz.results123 (RV.tmp_ (v := (.bool false)) (by kernel_rfl)) ?_
 exact ⟨congrArg (fun b => Ending.returned (.bool b)) (by simp_all), HP.bl⟩
set_option maxRecDepth 100000 in
set_option maxHeartbeats 4000000 in
theorem rule2_any (bsp bu bs bc n cc : Nat) (lc : Nat) (LA : Option Addr) (lib : List AstA) (hd : Bool) (at_ od : Int) (u : Un) (w : World) (hlib : IsAsts w LA lib.length lib) (hln : lib.length ≤ maxLen) (hlp : ∀ a ∈ lib, a.pics.length ≤ 2000000) (hS : Box w bs 111 [(.slice (some ⟨bc, 0, none⟩) n cc), (.slice LA lib.length lc), (.bool hd), (ii at_), (ii od)].toArray) (hB : Box w bsp 29 [(pt bs 0)].toArray) (hU : Box w bu 76 (ul u u.A u.c).toArray) :
  Calls Tryz.prog 124 #[(pt bsp 0), (pt bu 0)] w fun e w' => e = .returned (.bool (genuineP lib u)) ∧ Below w.heap.size w w' := by
 have HP := (((((Hp.start w).keepF (boxK bu 76 (ul u u.A u.c)) hU (boxK_ok _ _ _) (fun k hk => ⟨boxK_lt hU hk, fun x hx => by cases hx⟩)).keepF (boxK bsp 29 [(pt bs 0)]) hB (boxK_ok _ _ _) (fun k hk => ⟨boxK_lt hB hk, fun x hx => by cases hx⟩)).keepF (boxK bs 111 [(.slice (some ⟨bc, 0, none⟩) n cc), (.slice LA lib.length lc), (.bool hd), (ii at_), (ii od)]) hS (boxK_ok _ _ _) (fun k hk => ⟨boxK_lt hS hk, fun x hx => by cases hx⟩)).keepF (astsK LA lib) hlib (fun _ _ h hk hs => IsAsts.keep h hk hs) (fun k hk => ⟨IsAsts.lt hlib hk, fun x hx => by cases hx⟩))
 refine w_enter 9 [(0, (pt bsp 0)), (1, (pt bu 0))] Tryz.func124 rfl Tryz.ntmps124 (by kernel_rfl) (by kernel_rfl) fun a H => ?_
 refine wp_seq (w_region ?_)
 refine H.ge HP [(2, (.bool false))] [] fun a H => ?_
 refine then_normal (wp_seq ?_)
 refine An.start (fun v => Hp w v [] [astsK LA lib, boxK bs 111 [(.slice (some ⟨bc, 0, none⟩) n cc), (.slice LA lib.length lc), (.bool hd), (ii at_), (ii od)], boxK bsp 29 [(pt bs 0)], boxK bu 76 (ul u u.A u.c)]) 7 7 HP wide_follows rfl fun w_1 HP => ?_
 refine An.val H (HP) 0 3 (pt bs 0) rfl (by kernel_rfl) (by kernel_rfl) (fun _ _ _ h => h) (fun _ hS => ex_l1 (Box.cell (i := 0) (hS.fact 2 rfl : Box _ bsp 29 _) rfl)) fun a H => ?_
 refine An.go H (.inr (HP)) 4 [1, 2] [(4, (pt bs 0)), (5, (pt bs 1))] [] fun a H => ?_
 refine An.val H (HP) 3 6 (.slice LA lib.length lc) rfl (by kernel_rfl) (by kernel_rfl) (fun _ _ _ h => h) (fun _ hS => ex_l1 (Box.cell (i := 1) (hS.fact 1 rfl : Box _ bs 111 _) rfl)) fun a H => ?_
 refine An.val H (HP) 4 7 (.agg (ua u u.A u.c)) rfl (by kernel_rfl) (by kernel_rfl) (fun _ _ _ h => h) (fun _ hS => ex_loadN (b := bu) (off := 0) (vs := (ul u u.A u.c)) (by kernel_rfl) (by kernel_rfl) (by kernel_rfl) rfl (boxCells (hS.fact 3 rfl : Box _ bu 76 _))) fun a H => ?_
 refine An.one 5 (by kernel_rfl) ?_
 refine Op.call H 8 rfl (by kernel_rfl) (Eq.trans (by kernel_rfl : _ = (callFunc 27 #[(.slice LA lib.length lc), (.agg (ua u u.A u.c))]).run Tryz.prog w_1) (Tryz.call27 _ _)) (genuine_any LA lc lib u w_1 (HP.fact 0 rfl) hln hlp) ?_
 rintro e w_2 ⟨rfl, hb⟩
 refine ⟨_, rfl, ?_⟩
 intro a H
 have HP := HP.next hb
 refine ⟨.inr (HP), ?_⟩
 refine An.go H (.inr (HP)) 0 [6] [(2, (.bool (genuineP lib u)))] [] fun a H => ?_
 refine An.done (by kernel_rfl) ?_
 refine then_normal (wp_ret ?_)
 refine H.ret1 (fn := Tryz.f124) Tryz.results124 (RV.tmp_ (v := (.bool (genuineP lib u))) (by kernel_rfl)) ?_
 exact ⟨rfl, HP.bl⟩
set_option maxRecDepth 100000 in
set_option maxHeartbeats 4000000 in
theorem rule3_any (bsp bf bu bs bc n cc : Nat) (lc : Nat) (LA : Option Addr) (lib : List AstA) (hd : Bool) (at_ od fr : Int) (u : Un) (w : World) (hn : 0 < n) (hat : 0 ≤ at_ ∧ at_ ≤ 9223372036854775807) (hfr : -9223372036854775808 ≤ fr ∧ fr ≤ 9223372036854775807) (hS : Box w bs 111 [(.slice (some ⟨bc, 0, none⟩) n cc), (.slice LA lib.length lc), (.bool hd), (ii at_), (ii od)].toArray) (hB : Box w bsp 29 [(pt bs 0)].toArray) (hF : Box w bf 3 [(ii fr)].toArray) (hU : Box w bu 76 (ul u u.A u.c).toArray) :
  Calls Tryz.prog 125 #[(pt bsp 0), (pt bf 0), (pt bu 0)] w fun e w' => e = .returned (.bool (rule3 (floorP hd at_ od fr) u)) ∧ Below w.heap.size w w' := by
 have HP := (((((Hp.start w).keepF (boxK bu 76 (ul u u.A u.c)) hU (boxK_ok _ _ _) (fun k hk => ⟨boxK_lt hU hk, fun x hx => by cases hx⟩)).keepF (boxK bf 3 [(ii fr)]) hF (boxK_ok _ _ _) (fun k hk => ⟨boxK_lt hF hk, fun x hx => by cases hx⟩)).keepF (boxK bsp 29 [(pt bs 0)]) hB (boxK_ok _ _ _) (fun k hk => ⟨boxK_lt hB hk, fun x hx => by cases hx⟩)).keepF (boxK bs 111 [(.slice (some ⟨bc, 0, none⟩) n cc), (.slice LA lib.length lc), (.bool hd), (ii at_), (ii od)]) hS (boxK_ok _ _ _) (fun k hk => ⟨boxK_lt hS hk, fun x hx => by cases hx⟩))
 refine w_enter 19 [(0, (pt bsp 0)), (1, (pt bf 0)), (2, (pt bu 0))] Tryz.func125 rfl Tryz.ntmps125 (by kernel_rfl) (by kernel_rfl) fun a H => ?_
 refine wp_seq (w_region ?_)
 refine H.ge HP [(3, (.bool false))] [] fun a H => ?_
 refine then_normal (wp_seq (w_region ?_))
 refine H.u 7 (pt bs 0) (ex_l1 (Box.cell (i := 0) (HP.fact 1 rfl : Box _ bsp 29 _) rfl)) fun a H => H.u 8 (ii fr) (ex_l1 (Box.cell (i := 0) (HP.fact 2 rfl : Box _ bf 3 _) rfl)) fun a H => ?_
 refine H.call 9 (by kernel_rfl) (Eq.trans (by kernel_rfl : _ = (callFunc 25 #[(pt bs 0), (ii fr)]).run Tryz.prog w) (Tryz.call25 _ _)) (floor_any bs bc n cc LA lib lc hd at_ od fr w (HP.fact 0 rfl) hn hat hfr) ?_
 rintro e w_1 ⟨rfl, hb⟩
 refine ⟨_, rfl, ?_⟩
 intro a H
 have HP := HP.next hb
 refine H.ge HP [(4, (ii ((floorP hd at_ od fr).getD 0))), (5, (.bool ((floorP hd at_ od fr).isSome)))] [] fun a H => ?_
 refine then_normal (wp_seq (w_region ?_))
 refine H.go HP 2 [(13, (.bool ((floorP hd at_ od fr).isSome)))] [] fun a H => ?_
 refine H.split 13 rfl (fun g13 H => ?_) (fun g13 H => ?_)
 ·have g13p := g13
  refine H.go HP 1 [(14, (pt bu 2))] [] fun a H => H.u 15 (ii u.version) (ex_l1 (Box.cell (i := 2) (HP.fact 3 rfl : Box _ bu 76 _) rfl)) fun a H => ?_
  refine H.ge HP [(3, (.bool (decide (u.version ≥ ((floorP hd at_ od fr).getD 0)))))] [] fun a H => ?_
  refine then_normal (wp_ret ?_)
  refine H.ret1 (fn := Tryz.f125) Tryz.results125 (RV.tmp_ (v := (.bool (decide (u.version ≥ ((floorP hd at_ od fr).getD 0))))) (by kernel_rfl)) ?_
  exact ⟨congrArg (fun b => Ending.returned (.bool b)) (by unfold rule3; cases hx : floorP hd at_ od fr <;> simp_all), HP.bl⟩
 have g13p := g13
 refine H.ge HP [(3, (.bool false))] [] fun a H => ?_
 refine then_normal (wp_ret ?_)
 refine H.ret1 (fn := Tryz.f125) Tryz.results125 (RV.tmp_ (v := (.bool false)) (by kernel_rfl)) ?_
 exact ⟨congrArg (fun b => Ending.returned (.bool b)) (by unfold rule3; cases hx : floorP hd at_ od fr <;> simp_all), HP.bl⟩
set_option maxRecDepth 100000 in
set_option maxHeartbeats 4000000 in
theorem rule4_any (bu bcp bsp bs bc n cc o : Nat) (lc : Nat) (LA : Option Addr) (lib : List AstA) (hd : Bool) (at_ od : Int) (pre post : List Value) (c : Ch) (u : Un) (w : World) (ho : pre.length = o) (hix : -1 ≤ c.index ∧ c.index ≤ 1000000000) (hlib : IsAsts w LA lib.length lib) (hln : lib.length ≤ maxLen) (hlp : ∀ a ∈ lib, a.pics.length ≤ 2000000) (hS : Box w bs 111 [(.slice (some ⟨bc, 0, none⟩) n cc), (.slice LA lib.length lc), (.bool hd), (ii at_), (ii od)].toArray) (hB : Box w bsp 29 [(pt bs 0)].toArray) (hC : Box w bc 115 (pre ++ [(ii c.item), (ii c.index), (ii c.full), (ii c.taken), (ii c.number), (ii c.num), (ii c.den)] ++ post).toArray) (hP : Box w bcp 129 [(pt bc o)].toArray) (hU : Box w bu 76 (ul u u.A u.c).toArray) :
  Calls Tryz.prog 126 #[(pt bu 0), (pt bcp 0), (pt bsp 0)] w fun e w' => e = .returned (.bool ((u.item == 0) || (contS c u || entersS lib c.full u))) ∧ Below w.heap.size w w' := by
 have HP := (((((((Hp.start w).keepF (boxK bu 76 (ul u u.A u.c)) hU (boxK_ok _ _ _) (fun k hk => ⟨boxK_lt hU hk, fun x hx => by cases hx⟩)).keepF (boxK bcp 129 [(pt bc o)]) hP (boxK_ok _ _ _) (fun k hk => ⟨boxK_lt hP hk, fun x hx => by cases hx⟩)).keepF (boxK bc 115 (pre ++ [(ii c.item), (ii c.index), (ii c.full), (ii c.taken), (ii c.number), (ii c.num), (ii c.den)] ++ post)) hC (boxK_ok _ _ _) (fun k hk => ⟨boxK_lt hC hk, fun x hx => by cases hx⟩)).keepF (boxK bsp 29 [(pt bs 0)]) hB (boxK_ok _ _ _) (fun k hk => ⟨boxK_lt hB hk, fun x hx => by cases hx⟩)).keepF (boxK bs 111 [(.slice (some ⟨bc, 0, none⟩) n cc), (.slice LA lib.length lc), (.bool hd), (ii at_), (ii od)]) hS (boxK_ok _ _ _) (fun k hk => ⟨boxK_lt hS hk, fun x hx => by cases hx⟩)).keepF (astsK LA lib) hlib (fun _ _ h hk hs => IsAsts.keep h hk hs) (fun k hk => ⟨IsAsts.lt hlib hk, fun x hx => by cases hx⟩))
 refine w_enter 20 [(0, (pt bu 0)), (1, (pt bcp 0)), (2, (pt bsp 0))] Tryz.func126 rfl Tryz.ntmps126 (by kernel_rfl) (by kernel_rfl) fun a H => ?_
 refine wp_seq (w_region ?_)
 refine H.ge HP [(3, (.bool false))] [] fun a H => ?_
 refine then_normal (wp_seq ?_)
 refine An.start (fun v => Hp w v [] [astsK LA lib, boxK bs 111 [(.slice (some ⟨bc, 0, none⟩) n cc), (.slice LA lib.length lc), (.bool hd), (ii at_), (ii od)], boxK bsp 29 [(pt bs 0)], boxK bc 115 (pre ++ [(ii c.item), (ii c.index), (ii c.full), (ii c.taken), (ii c.number), (ii c.num), (ii c.den)] ++ post), boxK bcp 129 [(pt bc o)], boxK bu 76 (ul u u.A u.c)]) 17 17 HP wide_follows rfl fun w_1 HP => ?_
 refine An.go H (.inr (HP)) 16 [0] [(4, (pt bu 3))] [] fun a H => ?_
 refine An.val H (HP) 1 5 (ii u.item) rfl (by kernel_rfl) (by kernel_rfl) (fun _ _ _ h => h) (fun _ hS => ex_l1 (Box.cell (i := 3) (hS.fact 5 rfl : Box _ bu 76 _) rfl)) fun a H => ?_
 refine An.go H (.inr (HP)) 13 [2, 3] [(7, (.bool (u.item == 0)))] [] fun a H => ?_
 refine H.split 7 rfl (fun g7 H => ?_) (fun g7 H => ?_)
 ·have g7p := eq_of_beq g7
  refine An.go H (.inr (HP)) 0 [4, 5, 6, 7, 8, 9, 10, 11, 12, 13, 14, 15, 16] [(3, (.bool true))] [] fun a H => ?_
  refine An.done (by kernel_rfl) ?_
  refine then_normal (wp_ret ?_)
  refine H.ret1 (fn := Tryz.f126) Tryz.results126 (RV.tmp_ (v := (.bool true)) (by kernel_rfl)) ?_
  exact ⟨congrArg (fun b => Ending.returned (.bool b)) (by simp_all), HP.bl⟩
 have g7p := ne_of_beq_false g7
 refine An.val H (HP) 4 8 (pt bc o) rfl (by kernel_rfl) (by kernel_rfl) (fun _ _ _ h => h) (fun _ hS => ex_l1 (Box.cell (i := 0) (hS.fact 4 rfl : Box _ bcp 129 _) rfl)) fun a H => ?_
 refine An.go H (.inr (HP)) 10 [5, 6] [(10, (pt bc o))] [] fun a H => ?_
 refine An.val H (HP) 7 11 (.agg (ua u u.A u.c)) rfl (by kernel_rfl) (by kernel_rfl) (fun _ _ _ h => h) (fun _ hS => ex_loadN (b := bu) (off := 0) (vs := (ul u u.A u.c)) (by kernel_rfl) (by kernel_rfl) (by kernel_rfl) rfl (boxCells (hS.fact 5 rfl : Box _ bu 76 _))) fun a H => ?_
 refine An.one 8 (by kernel_rfl) ?_
 refine Op.call H 12 rfl (by kernel_rfl) (Eq.trans (by kernel_rfl : _ = (callFunc 127 #[(pt bc o), (.agg (ua u u.A u.c))]).run Tryz.prog w_1) (Tryz.call127 _ _)) (cont_any bc o pre post c u w_1 (HP.fact 3 rfl) ho hix) ?_
 rintro e w_2 ⟨rfl, hb⟩
 refine ⟨_, rfl, ?_⟩
 intro a H
 have HP := HP.next hb
 refine ⟨.inr (HP), ?_⟩
 refine An.go H (.inr (HP)) 6 [9, 10] [(14, (.bool (contS c u)))] [] fun a H => ?_
 refine H.split 14 rfl (fun g14 H => ?_) (fun g14 H => ?_)
 ·have g14p := g14
  refine An.go H (.inr (HP)) 0 [11, 12, 13, 14, 15, 16] [(3, (.bool true))] [] fun a H => ?_
  refine An.done (by kernel_rfl) ?_
  refine then_normal (wp_ret ?_)
  refine H.ret1 (fn := Tryz.f126) Tryz.results126 (RV.tmp_ (v := (.bool true)) (by kernel_rfl)) ?_
  exact ⟨congrArg (fun b => Ending.returned (.bool b)) (by simp_all), HP.bl⟩
 have g14p := g14
 refine An.val H (HP) 11 15 (pt bs 0) rfl (by kernel_rfl) (by kernel_rfl) (fun _ _ _ h => h) (fun _ hS => ex_l1 (Box.cell (i := 0) (hS.fact 2 rfl : Box _ bsp 29 _) rfl)) fun a H => ?_
 refine An.val H (HP) 12 16 (pt bc o) rfl (by kernel_rfl) (by kernel_rfl) (fun _ _ _ h => h) (fun _ hS => ex_l1 (Box.cell (i := 0) (hS.fact 4 rfl : Box _ bcp 129 _) rfl)) fun a H => ?_
 refine An.val H (HP) 13 17 (.agg (ua u u.A u.c)) rfl (by kernel_rfl) (by kernel_rfl) (fun _ _ _ h => h) (fun _ hS => ex_loadN (b := bu) (off := 0) (vs := (ul u u.A u.c)) (by kernel_rfl) (by kernel_rfl) (by kernel_rfl) rfl (boxCells (hS.fact 5 rfl : Box _ bu 76 _))) fun a H => ?_
 refine An.one 14 (by kernel_rfl) ?_
 refine Op.call H 18 rfl (by kernel_rfl) (Eq.trans (by kernel_rfl : _ = (callFunc 128 #[(pt bs 0), (pt bc o), (.agg (ua u u.A u.c))]).run Tryz.prog w_2) (Tryz.call128 _ _)) (enters_any bs bc n cc o lc LA lib hd at_ od pre post c u w_2 ho (HP.fact 0 rfl) hln hlp (HP.fact 1 rfl) (HP.fact 3 rfl)) ?_
 rintro e w_3 ⟨rfl, hb⟩
 refine ⟨_, rfl, ?_⟩
 intro a H
 have HP := HP.next hb
 refine ⟨.inr (HP), ?_⟩
 refine An.go H (.inr (HP)) 0 [15, 16] [(3, (.bool (entersS lib c.full u)))] [] fun a H => ?_
 refine An.done (by kernel_rfl) ?_
 refine then_normal (wp_ret ?_)
 refine H.ret1 (fn := Tryz.f126) Tryz.results126 (RV.tmp_ (v := (.bool (entersS lib c.full u))) (by kernel_rfl)) ?_
 exact ⟨congrArg (fun b => Ending.returned (.bool b)) (by simp_all), HP.bl⟩
theorem rd_box {w : World} {b t : Nat} {vs : List Value} (h : Box w b t vs.toArray) : Rd w 1 (some ⟨b, 0, none⟩) vs.length vs :=
 ⟨(Nat.mul_one _).symm, .inr ⟨b, 0, rfl, h.lt, fun i hi => by
  have hi' : i < vs.length := by omega
  rw [Nat.zero_add, List.getElem?_eq_getElem hi']
  exact h.cell (by simp [List.getElem?_eq_getElem hi'])⟩⟩
set_option maxRecDepth 100000 in
set_option maxHeartbeats 4000000 in
theorem codeC_any (w : World) :
  Calls Tryz.prog 97 #[.int .i64 1, .int .i64 0, .int .u8 0, .int .u8 0] w fun e w' => e = .returned (.string (bstr [64, 0, 0])) ∧ Below w.heap.size w w' := by
 have HP := Hp.start w
 refine w_enter 18 [(0, (ii 1)), (1, (ii 0)), (2, (.int .u8 0)), (3, (.int .u8 0))] Tryz.func97 rfl Tryz.ntmps97 (by kernel_rfl) (by kernel_rfl) fun a H => ?_
 refine wp_seq (w_region ?_)
 refine H.ge HP [(8, (.string (bstr ([]))))] [] fun a H => ?_
 refine then_normal (wp_seq (w_region ?_))
 refine H.go HP 1 [(9, (ii 1))] [] fun a H => H.valE 10 (ii (IntKind.i64.wrap (1 * 64))) (ii 64) (by kernel_rfl) (by kernel_rfl) (by kernel_rfl) fun a H => H.go HP 1 [(11, (ii 0))] [] fun a H => H.valE 12 (ii (IntKind.i64.wrap (64 + 0))) (ii 64) (by kernel_rfl) (by kernel_rfl) (by kernel_rfl) fun a H => H.valE 13 (.int .u8 (IntKind.u8.wrap 64)) (.int .u8 64) (by kernel_rfl) (by kernel_rfl) (by kernel_rfl) fun a H => H.go HP 2 [(14, (.int .u8 0)), (15, (.int .u8 0))] [] fun a H => H.alloc HP 16 (fun b => (.slice (some ⟨b, 0, none⟩) 3 3)) 5 [(.int .u8 64), (.int .u8 0), (.int .u8 0)] (by kernel_rfl) (fun w => by kernel_rfl) fun b_1 w_2 a H HP => H.u 17 (.string (bstr [64, 0, 0])) (ex_b2sR (l := [64, 0, 0]) (e := 5) (m := 3) (c := 3) (by kernel_rfl) (rd_box (HP.at_ 0 rfl)) (by kernel_rfl) (by kernel_rfl) (by kernel_rfl)) fun a H => ?_
 refine H.ge HP [(8, (.string (bstr ([64, 0, 0]))))] [] fun a H => ?_
 refine then_normal (wp_ret ?_)
 refine H.ret1 (fn := Tryz.f97) Tryz.results97 (RV.tmp_ (v := (.string (bstr ([64, 0, 0])))) (by kernel_rfl)) ?_
 exact ⟨rfl, HP.bl⟩
set_option maxRecDepth 100000 in
set_option maxHeartbeats 4000000 in
theorem codeI_any (w : World) :
  Calls Tryz.prog 97 #[.int .i64 0, .int .i64 0, .int .u8 0, .int .u8 0] w fun e w' => e = .returned (.string (bstr [0, 0, 0])) ∧ Below w.heap.size w w' := by
 have HP := Hp.start w
 refine w_enter 18 [(0, (ii 0)), (1, (ii 0)), (2, (.int .u8 0)), (3, (.int .u8 0))] Tryz.func97 rfl Tryz.ntmps97 (by kernel_rfl) (by kernel_rfl) fun a H => ?_
 refine wp_seq (w_region ?_)
 refine H.ge HP [(8, (.string (bstr ([]))))] [] fun a H => ?_
 refine then_normal (wp_seq (w_region ?_))
 refine H.go HP 1 [(9, (ii 0))] [] fun a H => H.valE 10 (ii (IntKind.i64.wrap (0 * 64))) (ii 0) (by kernel_rfl) (by kernel_rfl) (by kernel_rfl) fun a H => H.go HP 1 [(11, (ii 0))] [] fun a H => H.valE 12 (ii (IntKind.i64.wrap (0 + 0))) (ii 0) (by kernel_rfl) (by kernel_rfl) (by kernel_rfl) fun a H => H.valE 13 (.int .u8 (IntKind.u8.wrap 0)) (.int .u8 0) (by kernel_rfl) (by kernel_rfl) (by kernel_rfl) fun a H => H.go HP 2 [(14, (.int .u8 0)), (15, (.int .u8 0))] [] fun a H => H.alloc HP 16 (fun b => (.slice (some ⟨b, 0, none⟩) 3 3)) 5 [(.int .u8 0), (.int .u8 0), (.int .u8 0)] (by kernel_rfl) (fun w => by kernel_rfl) fun b_1 w_2 a H HP => H.u 17 (.string (bstr [0, 0, 0])) (ex_b2sR (l := [0, 0, 0]) (e := 5) (m := 3) (c := 3) (by kernel_rfl) (rd_box (HP.at_ 0 rfl)) (by kernel_rfl) (by kernel_rfl) (by kernel_rfl)) fun a H => ?_
 refine H.ge HP [(8, (.string (bstr ([0, 0, 0]))))] [] fun a H => ?_
 refine then_normal (wp_ret ?_)
 refine H.ret1 (fn := Tryz.f97) Tryz.results97 (RV.tmp_ (v := (.string (bstr ([0, 0, 0])))) (by kernel_rfl)) ?_
 exact ⟨rfl, HP.bl⟩
set_option maxRecDepth 100000 in
set_option maxHeartbeats 4000000 in
theorem codeN_any (fr : Int) (w : World) :
  Calls Tryz.prog 59 #[.slice none 0 0, .int .i64 fr, .int .i64 fr] w fun e w' => e = .returned (.string (bstr [64, 0, 0])) ∧ Below w.heap.size w w' := by
 have HP := Hp.start w
 refine w_enter 51 [(0, (.slice none 0 0)), (1, (ii fr)), (2, (ii fr))] Tryz.func59 rfl Tryz.ntmps59 (by kernel_rfl) (by kernel_rfl) fun a H => ?_
 refine wp_seq (w_region ?_)
 refine H.ge HP [(6, (.string (bstr ([]))))] [] fun a H => ?_
 refine then_normal (wp_seq (w_region ?_))
 refine H.call 14 (by kernel_rfl) (Eq.trans (by kernel_rfl : _ = (callFunc 97 #[(ii 1), (ii 0), (.int .u8 0), (.int .u8 0)]).run Tryz.prog w) (Tryz.call97 _ _)) (codeC_any w) ?_
 rintro e w_1 ⟨rfl, hb⟩
 refine ⟨_, rfl, ?_⟩
 intro a H
 have HP := HP.next hb
 refine H.ge HP [(7, (.string (bstr ([64, 0, 0]))))] [] fun a H => ?_
 refine then_normal (wp_seq (wp_seq (w_region ?_)))
 refine H.ge HP [(17, (.bool (decide (fr ≤ fr))))] [] fun a H => ?_
 refine then_normal ?_
 have H := H.as 17 (.bool true) rfl (congrArg Value.bool (decide_eq_true (Int.le_refl _)))
 refine w_ift H rfl ?_
 refine wp_seq (w_region ?_)
 refine H.ge HP [(6, (.string (bstr ([64, 0, 0]))))] [] fun a H => ?_
 refine then_normal (wp_ret (then_ret ?_))
 refine H.ret1 (fn := Tryz.f59) Tryz.results59 (RV.tmp_ (v := (.string (bstr ([64, 0, 0])))) (by kernel_rfl)) ?_
 exact ⟨rfl, HP.bl⟩
set_option maxRecDepth 100000 in
set_option maxHeartbeats 4000000 in
theorem slate_any (ch fr : Int) (w : World) :
  Calls Tryz.prog 42 #[.int .i64 ch, .int .i64 fr] w fun e w' => e = .returned (slateU ch fr).val ∧ Below w.heap.size w w' := by
 have HP := Hp.start w
 refine w_enter 11 [(0, (ii ch)), (1, (ii fr))] Tryz.func42 rfl Tryz.ntmps42 (by kernel_rfl) (by kernel_rfl) fun a H => ?_
 refine wp_seq (w_region ?_)
 refine H.alloc HP 4 (fun b => (pt b 0)) 76 [(ii 0), (ii 0), (ii 0), (ii 0), (ii 0), (.bool false), (.string (bstr ([]))), (ii 0), (ii 0), (.string (bstr ([]))), (ii 0), (ii 0), (.slice none 0 0)] (by kernel_rfl) (fun w => by kernel_rfl) fun b_1 w_2 a H HP => ?_
 refine wpList_nil (then_normal (wp_seq (w_region ?_)))
 refine H.go HP 4 [(5, (ii ch)), (6, (ii fr)), (7, (ii fr)), (8, (ii fr))] [] fun a H => ?_
 refine H.call 9 (by kernel_rfl) (Eq.trans (by kernel_rfl : _ = (callFunc 59 #[(.slice none 0 0), (ii fr), (ii fr)]).run Tryz.prog w_2) (Tryz.call59 _ _)) (codeN_any fr w_2) ?_
 rintro e w_3 ⟨rfl, hb⟩
 refine ⟨_, rfl, ?_⟩
 intro a H
 have HP := HP.next hb
 refine H.go HP 1 [(10, (.agg #[(ii ch), (ii fr), (ii 0), (ii 0), (ii 0), (.bool true), (.string (bstr ([]))), (ii 255), (ii 1000), (.string (bstr ([64, 0, 0]))), (ii 0), (ii 0), (.slice none 0 0)]))] [] fun a H => H.sh HP 0 0 (.agg #[(ii ch), (ii fr), (ii 0), (ii 0), (ii 0), (.bool true), (.string (bstr ([]))), (ii 255), (ii 1000), (.string (bstr ([64, 0, 0]))), (ii 0), (ii 0), (.slice none 0 0)]) rfl fun w_4 a H HP => ?_
 refine wpList_nil (then_normal (wp_ret ?_))
 refine H.ret1 (fn := Tryz.f42) Tryz.results42 (RV.cellN (vs := [(ii ch), (ii fr), (ii 0), (ii 0), (ii 0), (.bool true), (.string (bstr ([]))), (ii 255), (ii 1000), (.string (bstr ([64, 0, 0]))), (ii 0), (ii 0), (.slice none 0 0)]) (b := b_1) (off := 0) (k := 13) (by kernel_rfl) (by kernel_rfl) (by kernel_rfl) rfl (HP.cells 0 rfl 0 13 (by kernel_rfl))) ?_
 exact ⟨rfl, HP.bl⟩
end Go.Proofs.YthpbaaadkhdifaaGreatDoor
