/- A range over a function whose iterator may itself range over a function: the iterator's contract, and the caller's law. Nothing here is about one function. -/
import Derived.RangeFuncNested
import Derived.RangeFuncBound
import Derived.RangeFuncCalls
import Derived.RangeFuncLeaves
import Derived.Shelf.Abstract
import Derived.Shelf.RegionOpen
import Derived.WalkKit
import Derived.OwnWalkIn
import Derived.TacticsInMore
import Derived.LoopNIn
import Derived.LoopIn
import Derived.Scope
import Derived.Test.YtgdjpaeclicdfaaDoorBase2
namespace Go.Proofs.YtgdjpaeclicdfaaDoor
open Go.ChangeShapes Go.WideShapes Go.ChangeAt Go.RowKit Go.Shelf
set_option linter.unusedVariables false

/-- What the body of a round keeps: all below n₀; from n₁ on every block of cells; from n₂ on every block. -/
def KeepC (n₀ n₁ n₂ : Nat) (W W' : World) : Prop := Below n₀ W W' ∧ ∀ (b : Nat) (o : Obj), n₁ ≤ b → W.heap[b]? = some o → (o.isCells = true ∨ n₂ ≤ b) → W'.heap[b]? = some o
theorem KeepC.refl (n₀ n₁ n₂ : Nat) (W : World) : KeepC n₀ n₁ n₂ W W := ⟨Below.refl _ _, fun _ _ _ h _ => h⟩
theorem KeepC.trans {n₀ n₁ n₂ : Nat} {A B C : World} (h : KeepC n₀ n₁ n₂ A B) (k : KeepC n₀ n₁ n₂ B C) : KeepC n₀ n₁ n₂ A C := ⟨h.1.trans k.1, fun b o hb ho hc => k.2 b o hb (h.2 b o hb ho hc) hc⟩
theorem KeepC.put {n₀ n₁ n₂ : Nat} {w : World} (hn : n₀ ≤ w.heap.size) (hn₂ : n₂ = w.heap.size + 2) (W : World) (l : Nat) (o o' : Obj) (hl : w.heap.size ≤ l) (hl2 : l < w.heap.size + 2) (h : W.heap[l]? = some o) (h1 : o.isCells = false) (h2 : o.isWalk = false) : KeepC n₀ n₁ n₂ W (W.putObj l o') :=
  ⟨belowK_b hn W l o o' hl h h1 h2, fun b o2 _ hb hc => by
    refine (World.putObj_heap_other ?_).trans hb
    intro e
    subst e
    rcases hc with hc | hc
    · rw [h] at hb
      cases hb
      rw [h1] at hc
      cases hc
    · omega⟩
theorem KeepC.below {n₀ n₁ n₂ : Nat} {W W' : World} (h : Below W.heap.size W W') (hn : n₀ ≤ W.heap.size) : KeepC n₀ n₁ n₂ W W' :=
  ⟨h.mono hn, fun b o _ ho _ => (h.block b (Array.getElem?_eq_some_iff.1 ho).1).trans ho⟩
theorem KeepC.set {n₀ n₁ n₂ : Nat} (W : World) {b i : Nat} (v : Value) (h0 : n₀ ≤ b) (h1 : b < n₁) : KeepC n₀ n₁ n₂ W (W.setCell ⟨b, i, none⟩ v) :=
  ⟨(Below.refl _ _).setCell h0 _, fun b' o hb ho _ => (Below.heap_setCell W ⟨b, i, none⟩ v b' (by show b' ≠ b; omega)).trans ho⟩
theorem KeepC.mono {n₀ n₁ n₂ m₁ m₂ : Nat} {W W' : World} (h : KeepC n₀ n₁ n₂ W W') (hm : n₁ ≤ m₁) (hm2 : n₂ ≤ m₂) : KeepC n₀ m₁ m₂ W W' := ⟨h.1, fun b o hb ho hc => h.2 b o (Nat.le_trans hm hb) ho (hc.imp id (Nat.le_trans hm2))⟩
theorem KeepC.box {n₀ n₁ n₂ : Nat} {W W' : World} (h : KeepC n₀ n₁ n₂ W W') {b : Nat} {t : TypeId} {vs : Array Value} (hb : n₁ ≤ b) (hx : Box W b t vs) : Box W' b t vs := h.2 b _ hb hx (.inl rfl)
theorem KeepC.from {n₀ n₁ n₂ B : Nat} {W W' : World} (h : KeepC n₀ n₁ n₂ W W') (h1 : n₁ ≤ B) (h2 : n₂ ≤ B) : KeepsFrom B W W' := ⟨h.1.size, fun k o hk ho _ => h.2 k o (by omega) ho (.inr (by omega))⟩
theorem keepC_own {β : Type} {B n₀ n₁ n₂ : Nat} {w₀ : World} (h0 : n₀ ≤ w₀.heap.size) (hB : n₀ ≤ B) (hw : w₀.heap.size ≤ B) : OwnFrom B (fun (_ : β) W => KeepC n₀ n₁ n₂ w₀ W) := fun s X Y row hs hg hr =>
  ⟨ownFrom_below (β := Unit) h0 hB () X Y row hs.1 hg hr, fun b o hb ho hc => by
    have hX := hs.2 b o hb ho hc
    refine (hg.block b (Array.getElem?_eq_some_iff.1 hX).1 (fun e => ?_)).trans hX
    have := (hr b e.symm).1
    have := (Array.getElem?_eq_some_iff.1 ho).1
    omega⟩
theorem keepsFrom_below {B : Nat} {W W' : World} (h : Below W.heap.size W W') : KeepsFrom B W W' := ⟨h.size, fun k o _ hk _ => (h.block k (Array.getElem?_eq_some_iff.1 hk).1).trans hk⟩
theorem box_own {β : Type} (B b : Nat) (t : TypeId) (f : β → Array Value) : OwnFrom B (fun s W => Box W b t (f s)) := fun s X Y row hs hg hr =>
  hs.grown hg (fun e => by
    obtain ⟨_, o, ho, hc⟩ := hr b e
    rw [show X.heap[b]? = _ from hs] at ho
    cases ho
    cases hc)
theorem rd_own {β : Type} (B size : Nat) (A : β → Option Addr) (n : β → Nat) (xs : β → List Value) : OwnFrom B (fun s W => Rd W size (A s) (n s) (xs s)) := fun s X Y row hs hg hr => by
  obtain ⟨h1, h2⟩ := hs
  refine ⟨h1, ?_⟩
  rcases h2 with h2 | ⟨b, off, he, hlt, hc⟩
  · exact .inl h2
  · by_cases hn : n s * size = 0
    · exact .inr ⟨b, off, he, Nat.lt_of_lt_of_le hlt hg.size, fun i hi => by omega⟩
    · refine .inr ⟨b, off, he, Nat.lt_of_lt_of_le hlt hg.size, fun i hi => ?_⟩
      rw [← hc i hi]
      refine World.cell?_of_block (hg.block b hlt fun e => ?_)
      obtain ⟨_, o, ho, hk⟩ := hr b e.symm
      have h0 := hc 0 (by omega)
      rw [List.getElem?_eq_getElem (by omega)] at h0
      unfold World.cell? at h0
      simp only [ho] at h0
      cases o <;> simp_all [Obj.isCells]
theorem OwnFrom.imp {β : Type} {B B' : Nat} {I : β → World → Prop} (h : OwnFrom B I) (hb : B ≤ B') : OwnFrom B' I := fun s W W' row hs hg hr => h s W W' row hs hg (fun r e => ⟨Nat.le_trans hb (hr r e).1, (hr r e).2⟩)
theorem OwnFrom.ex {β γ : Type} {B : Nat} {I : γ → β → World → Prop} (h : ∀ c, OwnFrom B (I c)) : OwnFrom B (fun s W => ∃ c, I c s W) := fun s W W' row hs hg hr => by
  obtain ⟨c, hc⟩ := hs
  exact ⟨c, h c s W W' row hc hg hr⟩

/-- The contract of an iterator: as the kit's, but the round's word abides the turn of whatever is no cells and was laid since the call began (a loop of the iterator's own, too). -/
def SeqO {α : Type} (F : Fence) (n : Nat) (P : Program) (g : Nat) (lb : Array Value) (encs : α → Array Value) (Kp : World → World → Prop) (S Sp : List α → Prop) (N : Nat) (w : World) : Prop :=
  ∀ (l : Nat) (J Jx : List α → World → Prop) (W : World), Below w.heap.size w W → w.heap.size + 2 ≤ W.heap.size → OwnFrom W.heap.size J → OwnFrom W.heap.size Jx →
    (∀ pre x W1, J pre W1 → pre.length < N → YieldAt F (n - 1) P l (encs x) W1 fun e W' =>
      (e = .returned (.bool true) ∧ J (pre ++ [x]) W' ∧ Kp W1 W') ∨ (e = .returned (.bool false) ∧ Jx (pre ++ [x]) W' ∧ Kp W1 W')) →
    J [] W →
    CallsIn F n P g (#[.func (.yield l) #[] #[]] ++ lb) W fun e W' => (∃ v, e = .returned v) ∧ ((∃ xs, S xs ∧ J xs W') ∨ (∃ pre, Sp pre ∧ Jx pre W'))

/-- How the body of a round may be left. -/
def rdPost {α : Type} (B : Nat) (Kp : World → World → Prop) (I : List α → World → Prop) (Ix : Code → List α → World → Prop) (xs : List α) (W : World) : Exit → Act → World → Prop
  | .normal, _, W' => KeepsFrom B W W' ∧ Kp W W' ∧ I xs W'
  | .ret, _, W' => KeepsFrom B W W' ∧ Kp W W' ∧ Ix .ret xs W'
  | .exit id, _, W' => KeepsFrom B W W' ∧ Kp W W' ∧ Ix (.exit id) xs W'
  | .goto t, _, W' => KeepsFrom B W W' ∧ Kp W W' ∧ Ix (.goto t) xs W'
  | .panic _, _, _ => False
  | .outgrown, _, _ => False
theorem OwnFrom.at {β γ : Type} {B : Nat} {I : β → World → Prop} (h : OwnFrom B I) (s : β) : OwnFrom B (fun (_ : γ) W => I s W) := fun _ W W' row hs hg hr => h s W W' row hs hg hr
theorem OwnFrom.below {β : Type} {B : Nat} {I : β → World → Prop} (h : OwnFrom B I) {s : β} {W W' : World} (hs : I s W) (hb : Below W.heap.size W W') : I s W' :=
  h s W W' none hs ⟨hb.os, hb.tape, hb.output, hb.size, fun k hk _ => hb.block k hk⟩ (fun r e => by cases e)

theorem wpIn_scope {n : Nat} {P : Program} {c : Code} {Q : Exit → Act → World → Prop} {a : Act} {w : World} (h : c.wpIn Fence.wide n P (Exit.noGoto Q) a w) : (Code.scope c).wpIn Fence.wide n P Q a w := wpIn_wide.2 (wp_scope_straight (wpIn_wide.1 h))
/-- Where the fence bounds no depth, a round serves at every depth, and within a round. -/
theorem round_any {m m' : Nat} {P : Program} {l l' : Nat} {f : FuncId} {tmps : Array Value} {assign body : Code} {w : World} {R : Ending → World → Prop} (h : RoundIn Fence.wide m P l f tmps assign body w R) : RoundIn (Fence.wide.inRound l') m' P l f tmps assign body w R :=
  ⟨h.1, fun c cs _ => h.2 c cs (by simp [Fence.room, Fence.wide])⟩

section
variable {F : Fence} {n : Nat} {P : Program}
theorem own_block {β : Type} {B b : Nat} {o : Obj} (hb : b < B) : OwnFrom B (fun (_ : β) W => W.heap[b]? = some o) := fun _ X Y row hs hg hr =>
  (hg.block b (Array.getElem?_eq_some_iff.1 hs).1 (fun e => by have := (hr b e.symm).1; omega)).trans hs

/-- A round, from its two walks. -/
theorem yieldO {α : Type} {ps : Array Tmp} {assign body : Code} {tmps : Array Value} {fn : FuncId} {encs : α → Array Value} {Kp : World → World → Prop} {D l B : Nat} (hD : B = D) (hl : l = D + 1)
    (hfn : F.fn fn) (hKt : ∀ {A B C : World}, Kp A B → Kp B C → Kp A C) (hKb : ∀ (W : World) (l : Nat) (o o' : Obj), B ≤ l → l < B + 2 → W.heap[l]? = some o → o.isCells = false → o.isWalk = false → Kp W (W.putObj l o')) (hps : ∀ x, (encs x).size = ps.size)
    {I : List α → World → Prop} {Ix : Code → List α → World → Prop} (hI : OwnFrom B I) (hIx : ∀ c, OwnFrom B (Ix c)) {Ax : α → Act → World → Prop} (hAx : ∀ x a', OwnFrom B (fun (_ : Unit) W => Ax x a' W))
    (rec : LoopState → Option Code → Loop) (hrec : rec = fun st pe => { state := st, pending := pe, fn, tmps, params := ps, assign, body, defers := D })
    {pre : List α} {x : α} {W : World}
    (hassign : ∀ (K : Act → World → Prop), I pre W → (∀ a' W', KeepsFrom B W W' → Kp W W' → I pre W' → Ax x a' W' → K a' W') →
      assign.wpIn (F.inRound l) n P (Exit.then K (fun _ _ _ => False)) { tmps := (ps.zip (encs x)).foldl (fun t (p, v) => t.setIfInBounds p v) tmps, defers := [] } W)
    (hbody : ∀ (a' : Act) (W : World), I pre W → Ax x a' W → body.wpIn (F.inRound l) n P (rdPost B Kp I Ix (pre ++ [x]) W) a' W)
    (hi : I pre W) (hr : W.heap[l]? = some (.loop (rec .ready none))) (hd : W.heap[D]? = some (.deferred (some []))) :
    YieldAt F n P l (encs x) W fun e W' => (e = .returned (.bool true) ∧ (I (pre ++ [x]) W' ∧ W'.heap[l]? = some (.loop (rec .ready none)) ∧ W'.heap[D]? = some (.deferred (some []))) ∧ Kp W W') ∨
      (e = .returned (.bool false) ∧ (∃ c, Ix c (pre ++ [x]) W' ∧ W'.heap[l]? = some (.loop (rec .done (some c))) ∧ W'.heap[D]? = some (.deferred (some []))) ∧ Kp W W') := by
  have hy := run_yield (P := P) (args := encs x) hr (by rw [hrec]; exact hps x)
  rw [hrec] at hy
  refine ⟨fn, _, assign, body, hy, roundIn_of_wpIn hfn (hassign _ hi ?_)⟩
  intro a' Wa kf kp ia ax
  have r1 := kf.same l _ (by omega) hr rfl
  have d1 := kf.same D _ (by omega) hd rfl
  have hlt := (Array.getElem?_eq_some_iff.1 r1).1
  refine ⟨_, run_beginRound r1 (by rw [hrec]), ?_⟩
  have k1 : Kp Wa (Wa.putObj l (.loop { rec .ready none with state := .busy })) := hKb _ _ _ _ (by omega) (by omega) r1 rfl rfl
  have r2 : (Wa.putObj l (.loop { rec .ready none with state := .busy })).heap[l]? = some (.loop { rec .ready none with state := .busy }) := World.putObj_heap_same hlt
  have d2 : (Wa.putObj l (.loop { rec .ready none with state := .busy })).heap[D]? = some (.deferred (some [])) := (World.putObj_heap_other (by omega)).trans d1
  refine wpIn_mono (hbody a' _ (hI.putObj _ ia (by omega) r1 rfl) ((hAx x a').putObj (s := ()) _ ax (by omega) r1 rfl)) ?_
  generalize Wa.putObj l (.loop { rec .ready none with state := .busy }) = Wc at k1 r2 d2 ⊢
  have fin : ∀ (jump : Option Code) (W3 : World), KeepsFrom B Wc W3 →
      (Instr.endRound l jump).run P W3 = .ok (.bool jump.isNone) (W3.putObj l (.loop (rec (if jump.isNone then .ready else .done) jump))) ∧
      W3.heap[l]? = some (.loop { rec .ready none with state := .busy }) ∧
      (W3.putObj l (.loop (rec (if jump.isNone then .ready else .done) jump))).heap[l]? = some (.loop (rec (if jump.isNone then .ready else .done) jump)) ∧
      (W3.putObj l (.loop (rec (if jump.isNone then .ready else .done) jump))).heap[D]? = some (.deferred (some [])) := fun jump W3 k3 => by
    have r3 := k3.same l _ (by omega) r2 rfl
    have := run_endRound (P := P) jump r3
    rw [hrec] at this ⊢
    exact ⟨this, by rw [hrec] at r3; exact r3, World.putObj_heap_same (Array.getElem?_eq_some_iff.1 r3).1, (World.putObj_heap_other (by omega)).trans (k3.same D _ (by omega) d2 rfl)⟩
  rintro e a3 W3 hp
  cases e with
  | normal =>
    obtain ⟨k3, kp3, i3⟩ := hp
    obtain ⟨hrun, r3, r4, d4⟩ := fin none W3 k3
    exact ⟨_, _, hrun, .inl ⟨rfl, ⟨hI.putObj _ i3 (by omega) r3 rfl, r4, d4⟩, hKt kp (hKt (hKt k1 kp3) (hKb _ _ _ _ (by omega) (by omega) r3 rfl rfl))⟩⟩
  | ret =>
    obtain ⟨k3, kp3, i3⟩ := hp
    obtain ⟨hrun, r3, r4, d4⟩ := fin (some .ret) W3 k3
    exact ⟨_, _, hrun, .inr ⟨rfl, ⟨.ret, (hIx _).putObj _ i3 (by omega) r3 rfl, r4, d4⟩, hKt kp (hKt (hKt k1 kp3) (hKb _ _ _ _ (by omega) (by omega) r3 rfl rfl))⟩⟩
  | exit id =>
    obtain ⟨k3, kp3, i3⟩ := hp
    obtain ⟨hrun, r3, r4, d4⟩ := fin (some (.exit id)) W3 k3
    exact ⟨_, _, hrun, .inr ⟨rfl, ⟨.exit id, (hIx _).putObj _ i3 (by omega) r3 rfl, r4, d4⟩, hKt kp (hKt (hKt k1 kp3) (hKb _ _ _ _ (by omega) (by omega) r3 rfl rfl))⟩⟩
  | goto t =>
    obtain ⟨k3, kp3, i3⟩ := hp
    obtain ⟨hrun, r3, r4, d4⟩ := fin (some (.goto t)) W3 k3
    exact ⟨_, _, hrun, .inr ⟨rfl, ⟨.goto t, (hIx _).putObj _ i3 (by omega) r3 rfl, r4, d4⟩, hKt kp (hKt (hKt k1 kp3) (hKb _ _ _ _ (by omega) (by omega) r3 rfl rfl))⟩⟩
  | panic ch => exact hp.elim
  | outgrown => exact hp.elim

/-- The caller's law. -/
theorem wpIn_rangeO {α : Type} {g : Operand} {ps : Array Tmp} {assign body : Code} {Q : Exit → Act → World → Prop} {a : Act} {w : World}
    (hro : F.round = none) (h1 : 1 ≤ n) {gf : Nat} {lb : Array Value} (hg : a.eval g = .func (.func gf) #[] lb) (hFg : F.fn gf) (eg : ∀ args w, (callFunc gf args).run P w = .ok (.enter gf args) w)
    {encs : α → Array Value} {Kp : World → World → Prop} {S Sp : List α → Prop} {N : Nat} (hseq : SeqO F (n - 1) P gf lb encs Kp S Sp N w)
    (hKt : ∀ {A B C : World}, Kp A B → Kp B C → Kp A C) (hKb : ∀ (W : World) (l : Nat) (o o' : Obj), w.heap.size ≤ l → l < w.heap.size + 2 → W.heap[l]? = some o → o.isCells = false → o.isWalk = false → Kp W (W.putObj l o')) (hps : ∀ x, (encs x).size = ps.size)
    (I : List α → World → Prop) (Ix : Code → List α → World → Prop) (hI : OwnFrom w.heap.size I) (hIx : ∀ c, OwnFrom w.heap.size (Ix c)) (h0 : I [] w) (Ax : α → Act → World → Prop) (hAx : ∀ x a', OwnFrom w.heap.size (fun (_ : Unit) W => Ax x a' W))
    (hassign : ∀ (l : Nat) (pre : List α) (x : α) (W : World) (K : Act → World → Prop), I pre W → (∀ a' W', KeepsFrom w.heap.size W W' → Kp W W' → I pre W' → Ax x a' W' → K a' W') →
      assign.wpIn (F.inRound l) (n - 1 - 1) P (Exit.then K (fun _ _ _ => False)) { tmps := (ps.zip (encs x)).foldl (fun t (p, v) => t.setIfInBounds p v) a.tmps, defers := [] } W)
    (hbody : ∀ (l : Nat) (pre : List α) (x : α) (a' : Act) (W : World), I pre W → Ax x a' W → pre.length < N → body.wpIn (F.inRound l) (n - 1 - 1) P (rdPost w.heap.size Kp I Ix (pre ++ [x]) W) a' W)
    (hdone : ∀ (D : Nat) (xs : List α) (W : World), w.heap.size ≤ D → S xs → I xs W → W.heap[D]? = some (.deferred (some [])) → Q .normal { a with defers := { target := .collected D, args := #[] } :: a.defers } W)
    (hstop : ∀ (D : Nat) (c : Code) (pre : List α) (W : World), w.heap.size ≤ D → Sp pre → Ix c pre W → W.heap[D]? = some (.deferred (some [])) → c.wpIn F n P Q { a with defers := { target := .collected D, args := #[] } :: a.defers } W) :
    (Code.rangeFunc g ps assign body).wpIn F n P Q a w := by
  refine wpIn_rangeFunc ?_
  intro fn hfn
  rw [hro]
  obtain ⟨rec, hrec⟩ : ∃ rec : LoopState → Option Code → Loop, rec = fun st pe => { state := st, pending := pe, fn, tmps := a.tmps, params := ps, assign, body, defers := w.heap.size } := ⟨_, rfl⟩
  obtain ⟨W1, hW1⟩ : ∃ W1, (w.alloc (.deferred (some []))).alloc (.loop (rec .ready none)) = W1 := ⟨_, rfl⟩
  have r1 : W1.heap[w.heap.size + 1]? = some (.loop (rec .ready none)) := by
    rw [← hW1]
    have := heap_alloc_new (w.alloc (.deferred (some []))) (.loop (rec .ready none))
    rwa [World.size_alloc] at this
  have d1 : W1.heap[w.heap.size]? = some (.deferred (some [])) := by
    rw [← hW1]
    exact (Below.heap_alloc _ _ _ (by simp)).trans (heap_alloc_new w _)
  have s1 : W1.heap.size = w.heap.size + 2 := by rw [← hW1]; simp
  have i1 : I [] W1 := by rw [← hW1]; exact hI.alloc _ (hI.alloc _ h0)
  have b1 : Below w.heap.size w W1 := by
    rw [← hW1]
    exact ((Below.refl _ w).alloc (Nat.le_refl _) _).alloc (by simp) _
  refine ⟨w.heap.size + 1, [{ target := .collected w.heap.size, args := #[] }], W1, { target := .fn (.func gf) lb, args := #[.func (.yield (w.heap.size + 1)) #[] #[]] }, W1, gf,
    #[.func (.yield (w.heap.size + 1)) #[] #[]] ++ lb, W1, ?_, ?_, ?_, ?_, fun _ => h1, ?_⟩
  · rw [← hW1, hrec]; exact run_enterLoop_outer _ _ _ _ _
  · simp only [resolve, hg]
    simp [go_sem]
  · intro f' hf'; simp [Target.leads] at hf'; subst hf'; exact hFg
  · simp [invoke, go_sem, eg]
  · refine (hseq (w.heap.size + 1)
      (fun pre W => I pre W ∧ W.heap[w.heap.size + 1]? = some (.loop (rec .ready none)) ∧ W.heap[w.heap.size]? = some (.deferred (some [])))
      (fun pre W => ∃ c, Ix c pre W ∧ W.heap[w.heap.size + 1]? = some (.loop (rec .done (some c))) ∧ W.heap[w.heap.size]? = some (.deferred (some [])))
      W1 b1 (by omega)
      (OwnFrom.and (OwnFrom.imp hI (by omega)) (OwnFrom.and (own_block (by omega)) (own_block (by omega))))
      (OwnFrom.ex fun c => OwnFrom.and (OwnFrom.imp (hIx c) (by omega)) (OwnFrom.and (own_block (by omega)) (own_block (by omega))))
      (fun pre x W hJ hlen => yieldO (Kp := Kp) (B := w.heap.size) rfl rfl hfn (fun h k => hKt h k) hKb hps hI hIx hAx rec hrec (fun K hi hK => hassign _ pre x W K hi hK) (fun a' W' hi hax => hbody _ pre x a' W' hi hax hlen) hJ.1 hJ.2.1 hJ.2.2)
      ⟨i1, r1, d1⟩).mono ?_
    rintro e W2 ⟨⟨v, rfl⟩, (⟨xs, hS, hi, hl, hk⟩ | ⟨pre, hSp, c, hi, hl, hk⟩)⟩
    · exact ⟨none, _, by have := run_endLoop (P := P) hl (by rw [hrec]; simp); rw [hrec] at this; exact this, hdone _ xs _ (Nat.le_refl _) hS (hI.putObj _ hi (by omega) hl rfl) ((World.putObj_heap_other (by omega)).trans hk)⟩
    · exact ⟨some c, _, by have := run_endLoop (P := P) hl (by rw [hrec]; simp); rw [hrec] at this; exact this, hstop _ c pre _ (Nat.le_refl _) hSp ((hIx c).putObj _ hi (by omega) hl rfl) ((World.putObj_heap_other (by omega)).trans hk)⟩
end
end Go.Proofs.YtgdjpaeclicdfaaDoor
