/- Part 2 of the proofs: SymF, SymJ, StC, StV, SymO, StD, Shelf, Build, BldF, SymG, SymH, WireI, RcA, SymL, StE, WireW, StF, SymT. -/
import Derived.Shelf.Strings.Builder1
import Derived.Shelf.Strings.Builder2
import Derived.Shelf.Strings.OnBuilder
import Derived.Shelf.Strings.BuilderF
import Derived.Shelf.Strings.BuilderK
import Derived.Shelf.Utf8.RuneCount
import Derived.Shelf.Strings.Search1
import Derived.Shelf.Strings.Search2
import Derived.Shelf.Strings.Search3
import Derived.Shelf.Strings.Count
import Derived.Shelf.LaysM
import Derived.Shelf.Strings.Shaped
import Derived.Shelf.Strings.Split
import Derived.Shelf.Strings.SplitShaped
import Derived.Shelf.Unicode.Decode
import Derived.Shelf.Strings.RuneCount
import Derived.Shelf.Strings.Explode
import Derived.Shelf.Unicode.DecodeSlow
import Derived.Shelf.Unicode.DecodeAny
import Derived.Test.YtcifcipjndiegaaDoorProg
import Derived.Lib.Builder
import Derived.Lib.FrozenHead
import Derived.Laws.IdiomStrings
import Derived.WalkLawsBesides
import Derived.RangeFuncBox
import Derived.RangeFuncLeaves
import Derived.Shelf.Abstract
import Derived.OwnWalkIn
import Derived.TacticsInMore
import Derived.LoopNIn
import Derived.LoopIn
import Derived.RangeFuncFrom
import Derived.Test.YtcifcipjndiegaaDoorZha
namespace Go.Proofs.YtcifcipjndiegaaDoor
open Go.ChangeShapes Go.WideShapes Go.ChangeAt Go.RowKit Go.Shelf
set_option linter.unusedVariables false
set_option linter.unusedSimpArgs false
def moreD (ds : List Deferred) (a : Act) : Act := { a with defers := a.defers ++ ds }
theorem moreD_put (ds : List Deferred) (a : Act) (d : Option Tmp) (v : Value) : (moreD ds a).put d v = moreD ds (a.put d v) := by cases d <;> rfl
theorem letsOut_D {ds : List Deferred} {Q : Exit → Act → World → Prop} (h : LetsOut fun e a w => Q e (moreD ds a) w) : LetsOut Q := let ⟨a, w, h⟩ := h; ⟨_, w, h⟩
theorem upon_D {P : Program} {ds : List Deferred} {Q : Exit → Act → World → Prop} {o : Oper} {a : Act} {next next' : Act → World → Prop} (hn : ∀ a w, next' a w → next (moreD ds a) w) (r : Result Next)
    (h : o.upon P a next' (fun e a w => Q e (moreD ds a) w) r) : o.upon P (moreD ds a) next Q r := by
  unfold Oper.upon at h ⊢
  split at h
  · rw [moreD_put]; exact hn _ _ h
  · rw [moreD_put]; exact hn _ _ h
  · have := hn _ _ h
    rw [← moreD_put] at this
    exact this
  · refine h.mono fun e w'' he => ?_
    cases e with
    | returned v => simp only at he ⊢; rw [moreD_put]; exact hn _ _ he
    | panicked c => exact he
    | outgrown => exact letsOut_D he
  · refine h.mono fun v w'' he => ?_
    rw [moreD_put]; exact hn _ _ he
  · exact h
  · exact h.elim
theorem wpList_D {P : Program} {ops : Array Oper} {ds : List Deferred} {Q : Exit → Act → World → Prop} : ∀ (l : List Oper) (a : Act) (w : World), wpList P ops (fun e a w => Q e (moreD ds a) w) l a w → wpList P ops Q l (moreD ds a) w
  | [], a, w, h => h
  | o :: l, a, w, h => by
    unfold wpList at h ⊢
    by_cases hw : Region.wanted o (yielded ops a.tmps) = true
    · rw [if_pos hw] at h
      rw [if_pos (show Region.wanted o (yielded ops (moreD ds a).tmps) = true from hw)]
      rcases h with h | ⟨h1, h2⟩
      · exact .inl (upon_D (fun a w => wpList_D l a w) _ h)
      · exact .inr ⟨h1, letsOut_D h2⟩
    · rw [if_neg hw] at h
      rw [if_neg (show ¬ Region.wanted o (yielded ops (moreD ds a).tmps) = true from hw), moreD_put]
      exact wpList_D l _ w h
section
variable {P : Program} {fn : Func} {R : Ending → World → Prop} {a : Act} {w : World} {n : Nat} {L : List (Nat × Value)}
theorem w_enterM {f : FuncId} {c : Code} {args : List Value} (n : Nat) (L : List (Nat × Value)) (hf : P.funcs[f]? = some fn) (hb : fn.body = some c) (hn : fn.ntmps = n)
    (hle : Nat.ble args.length n = true) (hk : (L.map fun p => look p.1 (args.zipIdx.map fun p => (p.2, p.1))) = L.map fun p => some p.2) (k : ∀ a, Sl n L a → c.wp P (bodyPostM Fence.wide 20 P fn R) a w) : Calls P f args.toArray w R := by
  refine (callsIn_wide (n := 20)).1 (callsIn_of_wp_marks hf hb trivial (wpIn_wide.2 ?_) rfl)
  rw [hn]
  exact k _ (Sl.enter args n L hle hk)
theorem Sl.ret2M (H : Sl n L a) {r s : ResultVar} {v u : Value} (hr : fn.results = #[r, s]) (h : RV P w L r v) (h' : RV P w L s u) (hR : R (.returned (.tuple #[v, u])) w) : bodyPostM Fence.wide 20 P fn R .ret a w := by
  show LeavesInM Fence.wide 20 P fn a.tmps R a.defers .returning w
  rw [H.defers]
  refine ⟨_, ?_, hR⟩
  rw [results_of, hr]
  simp [h.run H, h'.run H]
theorem Sl.ret2D (H : Sl n L a) {r s : ResultVar} {v u : Value} {D : Nat} (hk : w.heap[D]? = some (.deferred (some []))) (hr : fn.results = #[r, s]) (h : RV P (w.putObj D (.deferred none)) L r v) (h' : RV P (w.putObj D (.deferred none)) L s u) (hR : R (.returned (.tuple #[v, u])) (w.putObj D (.deferred none))) :
    bodyPostM Fence.wide 20 P fn R .ret (moreD [{ target := .collected D, args := #[] }] a) w := by
  show LeavesInM Fence.wide 20 P fn a.tmps R (a.defers ++ [{ target := .collected D, args := #[] }]) .returning w
  rw [H.defers]
  refine ⟨by simp, .inl ⟨D, _, rfl, run_takeDeferred hk, ?_⟩⟩
  refine ⟨_, ?_, hR⟩
  rw [results_of, hr]
  simp [h.run H, h'.run H]
theorem Sl.assigned (H : Sl n L a) (p : Nat) (x : Value) (hp : Nat.blt p n = true) : Sl n ((p, x) :: L) { tmps := ((#[p] : Array Tmp).zip #[x]).foldl (fun t (p, v) => t.setIfInBounds p v) a.tmps, defers := [] } := by
  have := H.put x hp
  refine ⟨rfl, ?_, ?_⟩
  · have := this.size
    simpa [Act.put] using this
  · have := this.get
    simpa [Act.put] using this
end
section
variable {P : Program} {Q : Exit → Act → World → Prop} {a : Act} {w : World} {n : Nat} {L : List (Nat × Value)} {ds : List Deferred}
theorem w_regionM {id : Nat} {l : List Oper} (h : wpList P l.toArray (fun e a w => Q e (moreD ds a) w) l a w) : (Code.region id l.toArray false).wp P Q (moreD ds a) w := w_region (wpList_D _ _ _ h)
theorem w_ifM {x y : Code} {t : Nat} {e : Bool} (H : Sl n L a) (hl : look t L = some (.bool e)) (ht : e = true → x.wp P Q (moreD ds a) w) (hf : e = false → y.wp P Q (moreD ds a) w) : (Code.cond (.tmp t) x y).wp P Q (moreD ds a) w :=
  wp_cond_split (t := e) (by simp only [Act.eval]; exact H.get t _ hl) ht hf
theorem w_iftM {x y : Code} {t : Nat} (H : Sl n L a) (hl : look t L = some (.bool true)) (h : x.wp P Q (moreD ds a) w) : (Code.cond (.tmp t) x y).wp P Q (moreD ds a) w :=
  wp_cond_true (by simp only [Act.eval]; exact H.get t _ hl) h
theorem moreD_of (d : Deferred) (h : a.defers = []) : ({ a with defers := d :: a.defers } : Act) = moreD [d] a := by simp [moreD, h]
end
abbrev strC (x : List UInt8) : Array Value := #[.string (bstr x)]
theorem strC_size (x : List UInt8) : (strC x).size = 1 := rfl
theorem flat_str (l : List (List UInt8)) : flat strC l = l.map fun x => Value.string (bstr x) := by
  induction l with
  | nil => rfl
  | cons x l ih => unfold flat at ih ⊢; rw [List.flatMap_cons, ih]; rfl
theorem str_set (l : List (List UInt8)) (k : Nat) (x : List UInt8) : flat strC (l.set k x) = (flat strC l).set (0 + k * 1) (.string (bstr x)) := by
  rw [flat_str, flat_str, List.map_set]
  congr 1
  omega
theorem rows_cells {base size : Nat} {e : TypeId} {α : Type} {cs : α → Array Value} {v : Value} {l : List α} : (rowsR base e size cs okT feF v l).cellsIn := fun w h k hk => by
  rcases hk with hk | ⟨a, _, hk⟩
  · rcases h.1.2 with ⟨rfl, _⟩ | ⟨g, cap, cur, rfl, _, hh, _⟩
    · cases hk
    · cases hk; exact ⟨_, hh, rfl⟩
  · cases hk
theorem rows_some {base size : Nat} {e : TypeId} {α : Type} {cs : α → Array Value} {A : Option Addr} {n c : Nat} {l : List α} {w : World} (h : (rowsR base e size cs okT feF (.slice A n c) l).F w) (hl : 0 < l.length) : ∃ g, A = some ⟨g, 0, none⟩ := by
  rcases h.1.2 with ⟨h1, h2⟩ | ⟨g, cap, cur, hv, _⟩
  · omega
  · cases hv; exact ⟨g, rfl⟩
theorem rows_cell {base g c k : Nat} {e : TypeId} {l : List (List UInt8)} {w : World} (h : (rowsR base e 1 strC okT feF (.slice (some ⟨g, 0, none⟩) l.length c) l).F w) (hk : k < l.length) : w.cell? ⟨g, 0 + k * 1, none⟩ = some (.string (bstr (l.getD k []))) := by
  have h2 := Rd.of_own (A := some ⟨g, 0, none⟩) h.1
  rw [flat_str] at h2
  obtain ⟨b', o', v, hA, _, hv, hc⟩ := h2.cell hk
  cases hA
  rw [Nat.mul_one, hc, ← hv, List.getElem?_map, List.getElem?_eq_getElem hk]
  simp [List.getD_eq_getElem?_getD, List.getElem?_eq_getElem hk]
theorem words_seq (n : Nat) (B : Nat) (t : Str) (w : World) (hl : t.length ≤ 1000000) (hB : Box w B 9 #[.string (bstr t)]) :
  SeqO Fence.wide n Tryd.prog 51 #[.pointer (some ⟨B, 0, none⟩)] (fun x : Str => #[.string (bstr x)]) (KpU B) (fun ys => ys = wordsG [] t) (fun pre => ∃ rest, wordsG [] t = pre ++ rest) (wordsG [] t).length w := fun l J Jx W hW _ hJ hJx hY h0 =>
 callsIn_wide.2 ((words1_any (n - 1) l B t J Jx W hl (hB.next hW) hJ h0 (fun pre x W1 hj hl => by
  obtain ⟨fn, tm, asg, bo, hy, hR⟩ := hY pre x W1 hj hl
  refine ⟨fn, tm, asg, bo, hy, hR.mono fun e W' h => ?_⟩
  rcases h with ⟨rfl, h1, h2⟩ | ⟨rfl, h1, h2⟩
  ·exact ⟨true, rfl, fun _ => h1, fun h => (by cases h), h2⟩
  ·exact ⟨false, rfl, fun h => (by cases h), fun _ => h1, h2⟩)).mono fun e W' h => ⟨h.1, h.2.imp (fun h => ⟨_, rfl, h⟩) fun ⟨pre, rest, h1, h2⟩ => ⟨pre, ⟨rest, h1⟩, h2⟩⟩)
def rowsI (w : World) (bt b4 b3 b2 : Nat) (t : Str) (pre : List Str) (W : World) : Prop := ∃ A c rows, Hp w W [rowsR w.heap.size 9 1 strC okT feF (.slice A rows.length c) rows, bx bt 9 [.string (bstr t)] true, bx b4 29 [.slice A rows.length c] true, bx b3 4 [.bool false] true, bx b2 29 [.slice none 0 0] true] [] ∧ rows.length ≤ pre.length ∧ (∀ y ∈ rows, y.length ≤ 32) ∧ ∀ rest, layW [] (pre ++ rest) = layW rows rest
def rowsX (w : World) (b3 b2 : Nat) (pre : List Str) (W : World) : Prop := Hp w W [bx b3 4 [.bool false] true, bx b2 29 [.slice none 0 0] true] [] ∧ ∀ rest, layW [] (pre ++ rest) = none
theorem rowsI_cells {base bt b4 b3 b2 t1 t2 t3 t4 t5 : Nat} {v v1 v2 v3 v4 : Value} {l : List Str} : ∀ x ∈ [rowsR base t1 1 strC okT feF v l, bx bt t2 [v1] true, bx b4 t3 [v2] true, bx b3 t4 [v3] true, bx b2 t5 [v4] true], x.cellsIn := fun x hx => by
 simp only [List.mem_cons, List.not_mem_nil, or_false] at hx
 rcases hx with rfl | rfl | rfl | rfl | rfl
 ·exact rows_cells
 all_goals exact bx_cells _ _ _ _
theorem rowsI_own {w : World} {B bt b4 b3 b2 : Nat} {t : Str} (hB : w.heap.size ≤ B) : OwnFrom B (rowsI w bt b4 b3 b2 t) := fun s W W' row ⟨A, c, rows, H, h1, h2, h3⟩ hg hr =>
 ⟨A, c, rows, Hp.own_ hB rowsI_cells (fun p hp => by cases hp) () W W' row H hg hr, h1, h2, h3⟩
theorem rowsX_own {w : World} {B b3 b2 : Nat} {c : Code} (hB : w.heap.size ≤ B) : OwnFrom B (fun pre W => c = Code.ret ∧ rowsX w b3 b2 pre W) := fun s W W' row ⟨h0, H, h1⟩ hg hr =>
 ⟨h0, Hp.own_ hB (fun x hx => by simp only [List.mem_cons, List.not_mem_nil, or_false] at hx; rcases hx with rfl | rfl <;> exact bx_cells _ _ _ _) (fun p hp => by cases hp) () W W' row H hg hr, h1⟩
theorem words_len : ∀ (t acc : Str), (wordsG acc t).length ≤ t.length + 1
 | [], acc => by simp only [wordsG]; split <;> simp
 | b :: t, acc => by
  simp only [wordsG]
  have h1 := words_len t []
  have h2 := words_len t (acc ++ [b])
  split
  ·split <;> simp <;> omega
  ·simp; omega
theorem words_count (t : Str) : (wordsG [] t).length ≤ t.length + 1 := words_len t []
theorem put1_in {rows : List Str} {x : Str} (h : 0 < rows.length) (h2 : (rows.getD (rows.length - 1) []).length + 1 + x.length ≤ 32) : put1 rows x = rows.set (rows.length - 1) (rows.getD (rows.length - 1) [] ++ ([32] ++ x)) := by
 unfold put1; rw [if_pos ⟨h, h2⟩]; rfl
theorem put1_new {rows : List Str} {x : Str} (h : ¬ (0 < rows.length ∧ (rows.getD (rows.length - 1) []).length + 1 + x.length ≤ 32)) : put1 rows x = rows ++ [x] := by
 unfold put1; rw [if_neg h]
theorem rows_le_get {rows : List Str} (h : ∀ y ∈ rows, y.length ≤ 32) (k : Nat) : (rows.getD k []).length ≤ 32 := by
 by_cases hk : k < rows.length
 ·rw [List.getD_eq_getElem?_getD, List.getElem?_eq_getElem hk]; exact h _ (List.getElem_mem _)
 ·rw [List.getD_eq_getElem?_getD, List.getElem?_eq_none (by omega)]; simp
theorem rows_le_set {rows : List Str} {k : Nat} {y : Str} (h : ∀ y ∈ rows, y.length ≤ 32) (hy : y.length ≤ 32) : ∀ z ∈ rows.set k y, z.length ≤ 32 := fun z hz => by
 rcases List.mem_or_eq_of_mem_set hz with hz | rfl
 ·exact h z hz
 ·exact hy
theorem rows_le_new {rows : List Str} {y : Str} (h : ∀ y ∈ rows, y.length ≤ 32) (hy : y.length ≤ 32) : ∀ z ∈ rows ++ [y], z.length ≤ 32 := fun z hz => by
 rcases List.mem_append.1 hz with hz | hz
 ·exact h z hz
 ·rcases List.mem_singleton.1 hz with rfl; exact hy
theorem putObj_cell {w : World} {D : Nat} {o o' : Obj} {p : Addr} {v : Value} (hd : w.heap[D]? = some o) (hc : o.isCells = false) (h : w.cell? p = some v) : (w.putObj D o').cell? p = some v := by
 have hne : p.block ≠ D := fun e => by
  subst e
  unfold World.cell? at h
  rw [hd] at h
  cases o <;> simp_all [Obj.isCells]
 unfold World.cell? at h ⊢
 rw [World.putObj_heap_other hne]
 exact h
def RowsPost (t : Str) (w : World) (e : Ending) (w' : World) : Prop :=
 (∃ rows A c, layP t = some rows ∧ e = .returned (.tuple #[.slice A rows.length c, .bool true]) ∧ Below w.heap.size w w' ∧ (rowsR w.heap.size 9 1 strC okT feF (.slice A rows.length c) rows).F w') ∨
  (layP t = none ∧ e = .returned (.tuple #[.slice none 0 0, .bool false]) ∧ Below w.heap.size w w')
theorem putObj_rows {w : World} {base e D : Nat} {v : Value} {l : List Str} {o o' : Obj} (hd : w.heap[D]? = some o) (hc : o.isCells = false) (h : (rowsR base e 1 strC okT feF v l).F w) : (rowsR base e 1 strC okT feF v l).F (w.putObj D o') := by
 refine rowsR_ok elOk_flat w _ h (fun k hk => World.putObj_heap_other fun he => ?_) (by simp)
 obtain ⟨o2, ho, hoc⟩ := rows_cells w h k hk
 rw [he, hd] at ho
 cases ho
 rw [hc] at hoc; cases hoc
set_option maxRecDepth 100000 in
set_option maxHeartbeats 4000000 in
theorem crows_any (t : Str) (w : World) (hl : t.length ≤ 1000000) : Calls Tryd.prog 24 #[.string (bstr t)] w (RowsPost t w) := by
 have HP := Hp.start w
 refine w_enterM 59 [(0, (.string (bstr t)))] Tryd.func24 rfl Tryd.ntmps24 (by kernel_rfl) (by kernel_rfl) fun a H => ?_
 refine wp_seq (w_region ?_)
 refine H.alloc HP 2 (fun b => (pt b 0)) 29 [(.slice none 0 0)] (by kernel_rfl) (fun w => by kernel_rfl) fun b_1 w_2 a H HP => ?_
 refine H.alloc HP 3 (fun b => (pt b 0)) 4 [(.bool false)] (by kernel_rfl) (fun w => by kernel_rfl) fun b_3 w_4 a H HP => ?_
 refine wpList_nil (then_normal (wp_seq (wp_seq (w_region ?_))))
 refine H.go HP 4 [(10, (.bool (decide ((t.length : Int) > 200))))] [] fun a H => ?_
 refine H.split 10 rfl (fun g10 H => ?_) (fun g10 H => ?_)
 ·have g10p := of_decide_eq_true g10
  refine H.ge HP [(14, (.bool true))] [] fun a H => ?_
  refine then_normal ?_
  refine w_ift H rfl ?_
  refine wp_seq (w_region ?_)
  refine H.sh HP 1 0 (.slice none 0 0) rfl fun w_5 a H HP => ?_
  refine H.sh HP 0 0 (.bool false) rfl fun w_6 a H HP => ?_
  refine wpList_nil (then_normal (wp_ret (then_ret ?_)))
  refine H.ret2M (fn := Tryd.f24) Tryd.results24 (RV.cell1 (q := ⟨b_1, 0, none⟩) (v := (.slice none 0 0)) (by kernel_rfl) (by kernel_rfl) (HP.cell 1 rfl 0 rfl)) (RV.cell1 (q := ⟨b_3, 0, none⟩) (v := (.bool false)) (by kernel_rfl) (by kernel_rfl) (HP.cell 0 rfl 0 rfl)) ?_
  exact .inr ⟨by unfold layP; rw [if_neg (by rintro ⟨h1, h2⟩; first | omega | simp_all)], rfl, HP.bl⟩
 ·have g10p := of_decide_eq_false g10
  refine H.go HP 1 [(11, (.string (bstr t)))] [] fun a H => ?_
  refine H.call 12 (by kernel_rfl) (Eq.trans (by kernel_rfl : _ = (callFunc 39 #[(.string (bstr t))]).run Tryd.prog w_4) (Tryd.call39 _ _)) (print_any t w_4 hl) ?_
  rintro e w_7 ⟨rfl, hbp⟩
  refine ⟨_, rfl, ?_⟩
  intro a H
  have HP := HP.next hbp
  refine H.ge HP [(14, (.bool (!(printP t))))] [] fun a H => ?_
  refine then_normal ?_
  refine w_if H rfl (fun g14 => ?_) (fun g14 => ?_)
  ·have g14p := not_is_true g14
   refine wp_seq (w_region ?_)
   refine H.sh HP 1 0 (.slice none 0 0) rfl fun w_8 a H HP => ?_
   refine H.sh HP 0 0 (.bool false) rfl fun w_9 a H HP => ?_
   refine wpList_nil (then_normal (wp_ret (then_ret ?_)))
   refine H.ret2M (fn := Tryd.f24) Tryd.results24 (RV.cell1 (q := ⟨b_1, 0, none⟩) (v := (.slice none 0 0)) (by kernel_rfl) (by kernel_rfl) (HP.cell 1 rfl 0 rfl)) (RV.cell1 (q := ⟨b_3, 0, none⟩) (v := (.bool false)) (by kernel_rfl) (by kernel_rfl) (HP.cell 0 rfl 0 rfl)) ?_
   exact .inr ⟨by unfold layP; rw [if_neg (by rintro ⟨h1, h2⟩; first | omega | simp_all)], rfl, HP.bl⟩
  ·have g14p := not_is_false g14
   refine wp_skip (then_normal (wp_seq (w_region ?_)))
   refine H.alloc HP 4 (fun b => (pt b 0)) 29 [(.slice none 0 0)] (by kernel_rfl) (fun w => by kernel_rfl) fun b_10 w_11 a H HP => ?_
   refine wpList_nil (then_normal (wp_seq (wp_seq (w_region ?_))))
   refine H.go HP 1 [(15, (.string (bstr t)))] [] fun a H => ?_
   refine H.call 16 (by kernel_rfl) (Eq.trans (by kernel_rfl : _ = (callFunc 40 #[(.string (bstr t))]).run Tryd.prog w_11) (Tryd.call40 _ _)) (words_any t w_11) ?_
   rintro e w_12 ⟨bt, rfl, hbw, hBt, hbn⟩
   refine ⟨_, rfl, ?_⟩
   intro a H
   have HP := HP.gain hbw (bx bt 9 [(.string (bstr t))] true) hBt (bx_ok _ _ _ _) (fun k hk => by cases hk; exact hBt.lt) (fun k hk => by cases hk; exact hbn)
   refine wpList_nil (then_normal (wp_block ?_))
   have HP := HP.nilRow w.heap.size 9 1 strC okT feF elOk_flat
   have hbelW := HP.bl
   have hBt2 := HP.at_ 1 rfl
   have hfun : a.eval (.tmp 16) = (.func (.func 51) #[] #[(pt bt 0)]) := H.eval (by kernel_rfl)
   have H := H.keep (L' := [(4, (pt b_10 0)), (3, (pt b_3 0)), (2, (pt b_1 0))]) (by kernel_rfl)
   have h00 : rowsI w bt b_10 b_3 b_1 t [] w_12 := ⟨none, 0, [], HP, Nat.le_refl _, (fun _ h => by cases h), fun _ => rfl⟩
   clear HP
   refine (wpIn_wide (n := 20)).1 ?_
   refine wpIn_rangeO (F := Fence.wide) rfl (by omega) (gf := 51) (lb := #[.pointer (some ⟨bt, 0, none⟩)]) hfun trivial (enters_of Tryd.func51 (by kernel_rfl) rfl) (words_seq 19 bt t w_12 hl hBt2) KpU.trans (fun W l o o' h1 _ _ _ _ => KpU.put W l o o' (by have := hBt2.lt; omega)) (fun x => rfl)
    (rowsI w bt b_10 b_3 b_1 t) (fun c pre W => c = .ret ∧ rowsX w b_3 b_1 pre W) (rowsI_own hbelW.size) (fun _ => rowsX_own hbelW.size) h00
    (fun x a' _ => Sl 59 ((5, .string (bstr x)) :: [(4, (pt b_10 0)), (3, (pt b_3 0)), (2, (pt b_1 0))]) a') (fun _ _ _ _ _ _ h _ _ => h) ?assign ?body ?done ?stop
   case assign =>
    rintro l' pre x W K hI hK
    have H := H.assigned 17 (.string (bstr x)) (by kernel_rfl)
    refine w_regionF ?_
    refine H.ge (Hp.start W) [(5, .string (bstr x))] [] fun a H => ?_
    exact hK _ _ ⟨Nat.le_refl _, fun _ _ _ h _ => h⟩ ⟨Nat.le_refl _, rfl⟩ hI (H.keep (by kernel_rfl))
   case body =>
    rintro l' pre x a W ⟨A, c, rows, HP, hrl, hr32, hrel⟩ H hlen
    have hBw := HP.at_ 1 rfl
    have hplen : pre.length ≤ 1000000 := by have := words_count t; omega
    have HP := HP.round w_12.heap.size (rowsI_cells (v := .slice A rows.length c) (l := rows))
    refine wpIn_block ?_
    refine wpIn_seq ?_
    refine wpIn_seq ?_
    refine w_regionF ?_
    refine H.ge HP [(20, (.bool (decide ((x.length : Int) > 32))))] [] fun a H => ?_
    refine then_normal ?_
    refine w_ifF H rfl (fun g20 => ?_) (fun g20 => ?_)
    ·have g20p := of_decide_eq_true g20
     refine wpIn_seq ?_
     refine w_regionF ?_
     refine H.sh HP 4 0 (.slice none 0 0) rfl fun w_13 a H HP => ?_
     refine H.sh HP 3 0 (.bool false) rfl fun w_14 a H HP => ?_
     refine wpList_nil (then_normal ?_)
     refine wpIn_ret ?_
     refine then_ret (inb_ret ?_)
     have hB2 := HP.at_ 1 rfl
     refine ⟨HP.fact 0 rfl, ⟨(HP.fact 0 rfl : KeepsFrom _ _ _).size, hB2.trans hBw.symm⟩, rfl, ((HP.untop.tail rfl).tail rfl).tail rfl, fun rest => ?_⟩
     rw [List.append_assoc, hrel]; show layW rows (x :: rest) = _; rw [layW, if_pos (by omega)]
    ·have g20p := of_decide_eq_false g20
     refine wpIn_skip ?_
     refine then_normal ?_
     refine wpIn_seq ?_
     refine w_regionF ?_
     refine H.go HP 2 [(22, (ii rows.length))] [2] fun a H => ?_
     refine H.wi 23 ((rows.length : Int) - 1) fun a H => ?_
     refine H.ge HP [(6, (ii ((rows.length : Int) - 1)))] [] fun a H => ?_
     refine then_normal ?_
     refine wpIn_seq ?_
     refine w_regionF ?_
     refine H.go HP 3 [(26, (.bool (decide (((rows.length : Int) - 1) ≥ 0))))] [] fun a H => ?_
     refine H.split 26 rfl (fun g26 H => ?_) (fun g26 H => ?_)
     ·have g26p := of_decide_eq_true g26
      refine H.go HP 2 [(27, (.slice A rows.length c)), (28, (ii ((rows.length : Int) - 1)))] [2] fun a H => ?_
      have hlens := rows_le_get hr32 (rows.length - 1)
      obtain ⟨gb, rfl⟩ := rows_some (HP.held 0 rfl) (by omega)
      refine H.u 29 (.pointer (some ⟨gb, 0 + (rows.length - 1) * 1, none⟩)) (ex_index (b := gb) (off := 0) (len := rows.length) (cap := c) (e := 9) (k := 1) (ik := .i64) (i := ((rows.length : Int) - 1)) (m := rows.length - 1) (by kernel_rfl) (by kernel_rfl) (by omega) (by omega) (by kernel_rfl) (by kernel_rfl)) fun a H => ?_
      refine H.u 30 (.string (bstr (rows.getD (rows.length - 1) []))) (ex_l1 (rows_cell (HP.held 0 rfl) (by omega))) fun a H => ?_
      refine H.go HP 1 [(31, (ii (((rows.getD (rows.length - 1) []).length : Nat) : Int)))] [] fun a H => ?_
      refine H.wi 32 ((((rows.getD (rows.length - 1) []).length : Nat) : Int) + 1) fun a H => ?_
      refine H.go HP 2 [(34, (ii x.length))] [] fun a H => ?_
      refine H.wi 35 (((((rows.getD (rows.length - 1) []).length : Nat) : Int) + 1) + (x.length : Int)) fun a H => ?_
      refine H.ge HP [(37, (.bool (decide ((((((rows.getD (rows.length - 1) []).length : Nat) : Int) + 1) + (x.length : Int)) ≤ 32))))] [] fun a H => ?_
      refine then_normal ?_
      refine w_ifF H rfl (fun g37 => ?_) (fun g37 => ?_)
      ·have g37p := of_decide_eq_true g37
       refine w_regionF ?_
       refine H.go HP 2 [(38, (.slice (some ⟨gb, 0, none⟩) rows.length c)), (39, (ii ((rows.length : Int) - 1)))] [2] fun a H => ?_
       refine H.u 40 (.pointer (some ⟨gb, 0 + (rows.length - 1) * 1, none⟩)) (ex_index (b := gb) (off := 0) (len := rows.length) (cap := c) (e := 9) (k := 1) (ik := .i64) (i := ((rows.length : Int) - 1)) (m := rows.length - 1) (by kernel_rfl) (by kernel_rfl) (by omega) (by omega) (by kernel_rfl) (by kernel_rfl)) fun a H => ?_
       refine H.u 41 (.string (bstr (rows.getD (rows.length - 1) []))) (ex_l1 (rows_cell (HP.held 0 rfl) (by omega))) fun a H => ?_
       refine H.go HP 1 [(42, (.string (bstr x)))] [] fun a H => ?_
       refine H.u 43 (.string (bstr (([32]) ++ x))) (ex_sadd (by kernel_rfl) (by kernel_rfl) (by (have hlens := rows_le_get hr32 (rows.length - 1); simp only [List.length_append, List.length_cons, List.length_nil] at *; omega))) fun a H => ?_
       refine H.u 44 (.string (bstr ((rows.getD (rows.length - 1) []) ++ (([32]) ++ x)))) (ex_sadd (by kernel_rfl) (by kernel_rfl) (by (have hlens := rows_le_get hr32 (rows.length - 1); simp only [List.length_append, List.length_cons, List.length_nil] at *; omega))) fun a H => ?_
       refine H.u 45 (.pointer (some ⟨gb, 0 + (rows.length - 1) * 1, none⟩)) (ex_index (b := gb) (off := 0) (len := rows.length) (cap := c) (e := 9) (k := 1) (ik := .i64) (i := ((rows.length : Int) - 1)) (m := rows.length - 1) (by kernel_rfl) (by kernel_rfl) (by omega) (by omega) (by kernel_rfl) (by kernel_rfl)) fun a H => ?_
       refine H.storeRow HP 0 (g := gb) (cap := c) (i := 0 + (rows.length - 1) * 1) (n := rows.length) (l' := rows.set (rows.length - 1) ((rows.getD (rows.length - 1) []) ++ (([32]) ++ x))) ((.string (bstr ((rows.getD (rows.length - 1) []) ++ (([32]) ++ x))))) (by kernel_rfl) (by kernel_rfl) (by kernel_rfl) rfl (by kernel_rfl) rfl rfl (by omega) (by simp) (str_set _ _ _) (less_set (List.getElem?_eq_getElem (by omega)) (fun _ h => h) (fun _ h => h)) elOk_flat [(rowsR w.heap.size 9 1 strC okT feF (.slice (some ⟨gb, 0, none⟩) rows.length c) (rows.set (rows.length - 1) ((rows.getD (rows.length - 1) []) ++ (([32]) ++ x)))), bx bt 9 [(.string (bstr t))] true, bx b_10 29 [(.slice (some ⟨gb, 0, none⟩) rows.length c)] true, bx b_3 4 [(.bool false)] true, bx b_1 29 [(.slice none 0 0)] true] rfl ?_
       intro w_15 a H HP
       refine wpList_nil ?_
       have hll : (rows.set (rows.length - 1) ((rows.getD (rows.length - 1) []) ++ (([32]) ++ x))).length = rows.length := by simp
       have HP : Hp w w_15 [(rowsR w.heap.size 9 1 strC okT feF (.slice (some ⟨gb, 0, none⟩) ((rows.set (rows.length - 1) ((rows.getD (rows.length - 1) []) ++ (([32]) ++ x))).length) c) (rows.set (rows.length - 1) ((rows.getD (rows.length - 1) []) ++ (([32]) ++ x)))), bx bt 9 [(.string (bstr t))] true, bx b_10 29 [(.slice (some ⟨gb, 0, none⟩) ((rows.set (rows.length - 1) ((rows.getD (rows.length - 1) []) ++ (([32]) ++ x))).length) c)] true, bx b_3 4 [(.bool false)] true, bx b_1 29 [(.slice none 0 0)] true] [keepN W w_12.heap.size] := by rw [hll]; exact HP
       refine inb_normal ?_
       have hB2 := HP.at_ 1 rfl
       refine ⟨HP.fact 0 rfl, ⟨(HP.fact 0 rfl : KeepsFrom _ _ _).size, hB2.trans hBw.symm⟩, ⟨_, _, rows.set (rows.length - 1) ((rows.getD (rows.length - 1) []) ++ (([32]) ++ x)), HP.untop, by rw [List.length_append]; simp; omega, rows_le_set hr32 (by rw [List.length_append, List.length_append]; show _ + (1 + _) ≤ 32; omega), fun rest => ?_⟩⟩
       rw [List.append_assoc, hrel]; show layW rows (x :: rest) = _; rw [layW, if_neg (by omega), put1_in (by omega) (by omega)]
      ·have g37p := of_decide_eq_false g37
       refine w_regionF ?_
       refine H.go HP 2 [(46, (.slice (some ⟨gb, 0, none⟩) rows.length c)), (47, (.string (bstr x)))] [2] fun a H => ?_
       refine H.alloc HP 48 (fun b => (.slice (some ⟨b, 0, none⟩) 1 1)) 9 [(.string (bstr x))] (by kernel_rfl) (fun w => by kernel_rfl) fun b_16 w_17 a H HP => ?_
       have HP := HP.pend0 1 rfl elOk_flat x [bx b_16 9 [(.string (bstr x))] true, (rowsP w.heap.size 9 1 strC okT feF (.slice (some ⟨gb, 0, none⟩) rows.length c) rows x), bx bt 9 [(.string (bstr t))] true, bx b_10 29 [(.slice (some ⟨gb, 0, none⟩) rows.length c)] true, bx b_3 4 [(.bool false)] true, bx b_1 29 [(.slice none 0 0)] true] (by kernel_rfl) trivial (fun _ h => h)
       refine H.push HP 49 1 0 (v := (.slice (some ⟨gb, 0, none⟩) rows.length c)) (e := 9) (p := x) (l := rows) (cs := strC) (ok := okT) (fe := feF) (size := 1) (z := (.string ByteArray.empty)) (bytes := 16) (bb := b_16) (tb := 9) (fb := true) (by kernel_rfl) elOk_flat (by kernel_rfl) (by kernel_rfl) rfl (by kernel_rfl) (by kernel_rfl) (by kernel_rfl) (by kernel_rfl) (by kernel_rfl) rfl (by kernel_rfl) (by unfold maxLen; omega) (by omega) fun B_18 c_19 w_20 a H HP => ?_
       have HP : Hp w w_20 [bx b_16 9 [(.string (bstr x))] true, (rowsR w.heap.size 9 1 strC okT feF (.slice B_18 (rows.length + 1) c_19) (rows ++ [x])), bx bt 9 [(.string (bstr t))] true, bx b_10 29 [(.slice (some ⟨gb, 0, none⟩) rows.length c)] true, bx b_3 4 [(.bool false)] true, bx b_1 29 [(.slice none 0 0)] true] [keepN W w_12.heap.size] := HP
       refine H.sh HP 3 0 (.slice B_18 (rows.length + 1) c_19) rfl fun w_21 a H HP => ?_
       refine wpList_nil (inb_normal ?_)
       have HP := HP.tail rfl
       have hB2 := HP.at_ 1 rfl
       refine ⟨HP.fact 0 rfl, ⟨(HP.fact 0 rfl : KeepsFrom _ _ _).size, hB2.trans hBw.symm⟩, ⟨_, _, rows ++ [x], by rw [show (rows ++ [x]).length = rows.length + 1 from by simp]; exact HP.untop, by rw [List.length_append]; simp; omega, rows_le_new hr32 (by omega), fun rest => ?_⟩⟩
       rw [List.append_assoc, hrel]; show layW rows (x :: rest) = _; rw [layW, if_neg (by omega), put1_new (by omega)]
     ·have g26p := of_decide_eq_false g26
      refine H.ge HP [(37, (.bool false))] [] fun a H => ?_
      refine then_normal ?_
      refine w_iffF H rfl ?_
      refine w_regionF ?_
      refine H.go HP 2 [(46, (.slice A rows.length c)), (47, (.string (bstr x)))] [2] fun a H => ?_
      refine H.alloc HP 48 (fun b => (.slice (some ⟨b, 0, none⟩) 1 1)) 9 [(.string (bstr x))] (by kernel_rfl) (fun w => by kernel_rfl) fun b_22 w_23 a H HP => ?_
      have HP := HP.pend0 1 rfl elOk_flat x [bx b_22 9 [(.string (bstr x))] true, (rowsP w.heap.size 9 1 strC okT feF (.slice A rows.length c) rows x), bx bt 9 [(.string (bstr t))] true, bx b_10 29 [(.slice A rows.length c)] true, bx b_3 4 [(.bool false)] true, bx b_1 29 [(.slice none 0 0)] true] (by kernel_rfl) trivial (fun _ h => h)
      refine H.push HP 49 1 0 (v := (.slice A rows.length c)) (e := 9) (p := x) (l := rows) (cs := strC) (ok := okT) (fe := feF) (size := 1) (z := (.string ByteArray.empty)) (bytes := 16) (bb := b_22) (tb := 9) (fb := true) (by kernel_rfl) elOk_flat (by kernel_rfl) (by kernel_rfl) rfl (by kernel_rfl) (by kernel_rfl) (by kernel_rfl) (by kernel_rfl) (by kernel_rfl) rfl (by kernel_rfl) (by unfold maxLen; omega) (by omega) fun B_24 c_25 w_26 a H HP => ?_
      have HP : Hp w w_26 [bx b_22 9 [(.string (bstr x))] true, (rowsR w.heap.size 9 1 strC okT feF (.slice B_24 (rows.length + 1) c_25) (rows ++ [x])), bx bt 9 [(.string (bstr t))] true, bx b_10 29 [(.slice A rows.length c)] true, bx b_3 4 [(.bool false)] true, bx b_1 29 [(.slice none 0 0)] true] [keepN W w_12.heap.size] := HP
      refine H.sh HP 3 0 (.slice B_24 (rows.length + 1) c_25) rfl fun w_27 a H HP => ?_
      refine wpList_nil (inb_normal ?_)
      have HP := HP.tail rfl
      have hB2 := HP.at_ 1 rfl
      refine ⟨HP.fact 0 rfl, ⟨(HP.fact 0 rfl : KeepsFrom _ _ _).size, hB2.trans hBw.symm⟩, ⟨_, _, rows ++ [x], by rw [show (rows ++ [x]).length = rows.length + 1 from by simp]; exact HP.untop, by rw [List.length_append]; simp; omega, rows_le_new hr32 (by omega), fun rest => ?_⟩⟩
      rw [List.append_assoc, hrel]; show layW rows (x :: rest) = _; rw [layW, if_neg (by omega), put1_new (by omega)]
   case done =>
    rintro D xs W hD hS ⟨A, c, rows, HP, hrl, hr32, hrel⟩ hdef
    obtain rfl : xs = wordsG [] t := hS
    rw [moreD_of _ H.defers]
    have HP := HP.round w_12.heap.size (rowsI_cells (v := .slice A rows.length c) (l := rows))
    have hrel2 := hrel []
    rw [List.append_nil] at hrel2
    have hbelD : w_12.heap.size ≤ D := hD
    refine inb_normal (then_normal (wp_seq (wp_seq ?_)))
    refine w_regionM ?_
    refine H.go HP 4 [(53, (.bool ((rows.length : Int) == 0)))] [2] fun a H => ?_
    refine H.split 53 rfl (fun g53 H => ?_) (fun g53 H => ?_)
    ·have g53p := eq_of_beq g53
     refine H.ge HP [(57, (.bool true))] [] fun a H => ?_
     refine then_normal ?_
     refine w_iftM H rfl ?_
     refine wp_seq ?_
     refine w_regionM ?_
     refine H.sh HP 4 0 (.slice none 0 0) rfl fun w_28 a H HP => ?_
     refine H.sh HP 3 0 (.bool false) rfl fun w_29 a H HP => ?_
     refine wpList_nil (then_normal (wp_ret (then_ret ?_)))
     have hd2 : w_29.heap[D]? = some (.deferred (some [])) := (HP.fact 0 rfl : KeepsFrom _ _ _).same D _ hbelD hdef rfl
     have hfin : Below w.heap.size w w_29 := HP.below (by kernel_rfl)
     have hout : Below w.heap.size w (w_29.putObj D (.deferred none)) := hfin.trans (belowK_b (w := w) (Nat.le_refl _) _ D _ _ (by have := hbelW.size; omega) hd2 rfl rfl)
     refine H.ret2D hd2 (fn := Tryd.f24) Tryd.results24 (RV.cell1 (q := ⟨b_1, 0, none⟩) (v := (.slice none 0 0)) (by kernel_rfl) (by kernel_rfl) (putObj_cell hd2 rfl (HP.cell 4 rfl 0 rfl))) (RV.cell1 (q := ⟨b_3, 0, none⟩) (v := (.bool false)) (by kernel_rfl) (by kernel_rfl) (putObj_cell hd2 rfl (HP.cell 3 rfl 0 rfl))) ?_
     exact .inr ⟨by unfold layP; rw [if_pos ⟨by omega, by assumption⟩, hrel2]; simp only [layW]; rw [if_neg (by omega)], rfl, hout⟩
    ·have g53p := ne_of_beq_false g53
     refine H.ge HP [(57, (.bool (decide ((rows.length : Int) > 4))))] [2] fun a H => ?_
     refine then_normal ?_
     refine w_ifM H rfl (fun g57 => ?_) (fun g57 => ?_)
     ·have g57p := of_decide_eq_true g57
      refine wp_seq ?_
      refine w_regionM ?_
      refine H.sh HP 4 0 (.slice none 0 0) rfl fun w_30 a H HP => ?_
      refine H.sh HP 3 0 (.bool false) rfl fun w_31 a H HP => ?_
      refine wpList_nil (then_normal (wp_ret (then_ret ?_)))
      have hd2 : w_31.heap[D]? = some (.deferred (some [])) := (HP.fact 0 rfl : KeepsFrom _ _ _).same D _ hbelD hdef rfl
      have hfin : Below w.heap.size w w_31 := HP.below (by kernel_rfl)
      have hout : Below w.heap.size w (w_31.putObj D (.deferred none)) := hfin.trans (belowK_b (w := w) (Nat.le_refl _) _ D _ _ (by have := hbelW.size; omega) hd2 rfl rfl)
      refine H.ret2D hd2 (fn := Tryd.f24) Tryd.results24 (RV.cell1 (q := ⟨b_1, 0, none⟩) (v := (.slice none 0 0)) (by kernel_rfl) (by kernel_rfl) (putObj_cell hd2 rfl (HP.cell 4 rfl 0 rfl))) (RV.cell1 (q := ⟨b_3, 0, none⟩) (v := (.bool false)) (by kernel_rfl) (by kernel_rfl) (putObj_cell hd2 rfl (HP.cell 3 rfl 0 rfl))) ?_
      exact .inr ⟨by unfold layP; rw [if_pos ⟨by omega, by assumption⟩, hrel2]; simp only [layW]; rw [if_neg (by omega)], rfl, hout⟩
     ·have g57p := of_decide_eq_false g57
      refine wp_skip (then_normal (wp_seq ?_))
      refine w_regionM ?_
      refine H.go HP 1 [(58, (.slice A rows.length c))] [2] fun a H => ?_
      refine H.sh HP 4 0 (.slice A rows.length c) rfl fun w_32 a H HP => ?_
      refine H.sh HP 3 0 (.bool true) rfl fun w_33 a H HP => ?_
      refine wpList_nil (then_normal (wp_ret ?_))
      have hd2 : w_33.heap[D]? = some (.deferred (some [])) := (HP.fact 0 rfl : KeepsFrom _ _ _).same D _ hbelD hdef rfl
      have hfin : Below w.heap.size w w_33 := HP.below (by kernel_rfl)
      have hout : Below w.heap.size w (w_33.putObj D (.deferred none)) := hfin.trans (belowK_b (w := w) (Nat.le_refl _) _ D _ _ (by have := hbelW.size; omega) hd2 rfl rfl)
      refine H.ret2D hd2 (fn := Tryd.f24) Tryd.results24 (RV.cell1 (q := ⟨b_1, 0, none⟩) (v := (.slice A rows.length c)) (by kernel_rfl) (by kernel_rfl) (putObj_cell hd2 rfl (HP.cell 4 rfl 0 rfl))) (RV.cell1 (q := ⟨b_3, 0, none⟩) (v := (.bool true)) (by kernel_rfl) (by kernel_rfl) (putObj_cell hd2 rfl (HP.cell 3 rfl 0 rfl))) ?_
      refine .inl ⟨rows, _, _, by unfold layP; rw [if_pos ⟨by omega, by assumption⟩, hrel2]; simp only [layW]; rw [if_pos ⟨by omega, by omega⟩], rfl, hout, putObj_rows hd2 rfl (HP.held 0 rfl)⟩
   case stop =>
    rintro D c pre W hD ⟨rest, hpre⟩ ⟨rfl, HP, hrel⟩ hdef
    rw [moreD_of _ H.defers]
    refine (wpIn_wide (n := 20)).2 ?_
    refine wp_ret (inb_ret (then_ret ?_))
    have hd2 : W.heap[D]? = some (.deferred (some [])) := hdef
    have hfin : Below w.heap.size w W := HP.below (by kernel_rfl)
    have hout : Below w.heap.size w (W.putObj D (.deferred none)) := hfin.trans (belowK_b (w := w) (Nat.le_refl _) _ D _ _ (by have := hbelW.size; omega) hd2 rfl rfl)
    refine H.ret2D hd2 (fn := Tryd.f24) Tryd.results24 (RV.cell1 (q := ⟨b_1, 0, none⟩) (v := (.slice none 0 0)) (by kernel_rfl) (by kernel_rfl) (putObj_cell hd2 rfl (HP.cell 1 rfl 0 rfl))) (RV.cell1 (q := ⟨b_3, 0, none⟩) (v := (.bool false)) (by kernel_rfl) (by kernel_rfl) (putObj_cell hd2 rfl (HP.cell 0 rfl 0 rfl))) ?_
    exact .inr ⟨by unfold layP; rw [hpre, hrel rest]; simp, rfl, hout⟩
abbrev cuC (x : Cue) : Array Value := #[.int .i64 x.id, .int .i64 x.from_, .int .i64 x.to_, .int .i64 x.pri, .string (bstr x.text)]
abbrev cuL (x : Cue) : List Value := [.int .i64 x.id, .int .i64 x.from_, .int .i64 x.to_, .int .i64 x.pri, .string (bstr x.text)]
abbrev cuV (x : Cue) : Value := .agg #[.int .i64 x.id, .int .i64 x.from_, .int .i64 x.to_, .int .i64 x.pri, .string (bstr x.text)]
theorem cuC_size (x : Cue) : (cuC x).size = 5 := rfl
section
variable {ρ : Operand → Value} {w : World} {x y : Operand} {dst : Option Tmp} {ty : TypeId} {pos : String} {af : Array Edge} {g : Option (Nat × Bool)} {a b : Cue}
theorem bstr_ne {s t : List UInt8} (h : ¬ s = t) : ((bstr s).toList == (bstr t).toList) = false := by rw [bstr_eq]; simpa using h
set_option maxHeartbeats 2000000 in
theorem ex_eqC (hx : ρ x = cuV a) (hy : ρ y = cuV b) : (execOp ρ ⟨dst, .binOp .eql 23 x y 23, ty, pos, af, g⟩).run Tryd.prog w = .ok (.value (.bool (decide (a = b)))) w := by
  obtain ⟨a0, a1, a2, a3, a4⟩ := a
  obtain ⟨b0, b1, b2, b3, b4⟩ := b
  by_cases h0 : a0 = b0 <;> by_cases h1 : a1 = b1 <;> by_cases h2 : a2 = b2 <;> by_cases h3 : a3 = b3 <;> by_cases h4 : a4 = b4 <;> simp [execOp, hx, hy, go_sem, h0, h1, h2, h3, h4, bstr_ne, bstr_eq]
set_option maxHeartbeats 2000000 in
theorem ex_neC (hx : ρ x = cuV a) (hy : ρ y = cuV b) : (execOp ρ ⟨dst, .binOp .neq 23 x y 23, ty, pos, af, g⟩).run Tryd.prog w = .ok (.value (.bool (!decide (a = b)))) w := by
  obtain ⟨a0, a1, a2, a3, a4⟩ := a
  obtain ⟨b0, b1, b2, b3, b4⟩ := b
  by_cases h0 : a0 = b0 <;> by_cases h1 : a1 = b1 <;> by_cases h2 : a2 = b2 <;> by_cases h3 : a3 = b3 <;> by_cases h4 : a4 = b4 <;> simp [execOp, hx, hy, go_sem, h0, h1, h2, h3, h4, bstr_ne, bstr_eq]
end
theorem Hp.ne {w0 w : World} {L : List HB} {K : List FK} (H : Hp w0 w L K) (i j : Nat) {b c t u : Nat} {vs us : List Value} {f f' : Bool} (hi : L[i]? = some (bx b t vs f)) (hj : L[j]? = some (bx c u us f')) (hne : i ≠ j) : b ≠ c := fun e => pairwise_at H.apart hi hj hne b rfl e
theorem Hp.own2 {w : World} {b c t u : Nat} {vs us : List Value} (h : Box w b t vs.toArray) (h' : Box w c u us.toArray) (hne : b ≠ c) : Hp w w [bx b t vs false, bx c u us false] [] :=
  (Hp.own h').add (bx b t vs false) h (bx_ok _ _ _ _) (fun k hk => by cases hk; exact h.lt) (fun k hk => ⟨fun y hy => by rcases List.mem_singleton.1 hy with rfl; exact fun e => hne (hk.symm.trans e), fun _ h => by cases h⟩) fun h => by cases h
theorem Hp.same {w0 w : World} {L : List HB} {K : List FK} (H : Hp w0 w L K) (h : ∀ x ∈ L, x.fresh = true ∨ ∀ k, x.fp k → k < w0.heap.size → w.heap[k]? = w0.heap[k]?) : Below w0.heap.size w0 w :=
  ⟨H.os, H.tape, H.output, H.size, fun k hk => by
    by_cases hx : ∃ x ∈ L, x.fp k
    · obtain ⟨x, hx, hf⟩ := hx
      rcases h x hx with h | h
      · have := H.fresh x hx h k hf; omega
      · exact h k hf hk
    · exact H.old k hk fun x hx' hf => hx ⟨x, hx', hf⟩⟩
theorem bx_same {w0 w : World} {b t : Nat} {vs : List Value} {f : Bool} (h0 : Box w0 b t vs.toArray) (h : Box w b t vs.toArray) : ∀ k, (bx b t vs f).fp k → k < w0.heap.size → w.heap[k]? = w0.heap[k]? := fun k hk _ => by cases hk; exact h.trans h0.symm
theorem Hp.agreeF {w0 w : World} {L : List HB} {K : List FK} (H : Hp w0 w L K) (f : Nat → Prop) (hf : ∀ x ∈ L, x.fresh = true ∨ ∀ k, x.fp k → f k) : Agree w0 w f :=
  ⟨H.os, H.tape, H.output, H.size, fun k hk hn => H.old k hk fun x hx hxk => by
    rcases hf x hx with h | h
    · have := H.fresh x hx h k hxk; omega
    · exact hn (h k hxk)⟩
theorem Hp.own1 {w : World} {L : List HB} {b t : Nat} {vs : List Value} (H : Hp w w L []) (h : Box w b t vs.toArray) (hn : ∀ x ∈ L, ¬ x.fp b) : Hp w w (bx b t vs false :: L) [] :=
  H.add (bx b t vs false) h (bx_ok _ _ _ _) (fun k hk => by cases hk; exact h.lt) (fun k hk => ⟨fun y hy => by cases hk; exact hn y hy, fun _ h => by cases h⟩) fun h => by cases h
theorem cue_zero {c : Cue} (h : c.to_ = 0) : decide (c.from_ = 0 ∧ c.pri = 0 ∧ c.text = []) = decide (c = ⟨c.id, 0, 0, 0, []⟩) := by
 obtain ⟨c0, c1, c2, c3, c4⟩ := c
 simp only at h
 subst h
 simp
theorem rowsB_any (t : Str) (w : World) (hl : t.length ≤ 1000000) : Calls Tryd.prog 24 #[.string (bstr t)] w fun e w' => ∃ A n c, e = .returned (.tuple #[.slice A n c, .bool (layP t).isSome]) ∧ Below w.heap.size w w' :=
 (crows_any t w hl).mono fun e w' h => by
  rcases h with ⟨rows, A, c, h1, rfl, hb, _⟩ | ⟨h1, rfl, hb⟩
  ·exact ⟨A, _, c, by rw [h1]; rfl, hb⟩
  ·exact ⟨none, 0, 0, by rw [h1]; rfl, hb⟩
def actF : List Cue → Int → Bool → Cue → Bool × Cue
 | [], _, fd, b => (fd, b)
 | x :: l, f, fd, b => if (decide (x.from_ ≤ f) && decide (f < x.to_) && (!fd || prefC x b)) = true then actF l f true x else actF l f fd b
theorem actF_hit {x : Cue} {l : List Cue} {f : Int} {fd : Bool} {b : Cue} (h : (decide (x.from_ ≤ f) && decide (f < x.to_) && (!fd || prefC x b)) = true) : actF (x :: l) f fd b = actF l f true x := by rw [actF, if_pos h]
theorem actF_miss {x : Cue} {l : List Cue} {f : Int} {fd : Bool} {b : Cue} (h : (decide (x.from_ ≤ f) && decide (f < x.to_) && (!fd || prefC x b)) = false) : actF (x :: l) f fd b = actF l f fd b := by rw [actF, if_neg (by rw [h]; simp)]
def actO (fd : Bool) (b : Cue) : Option Cue := if fd = true then some b else none
theorem actF_fold : ∀ (l : List Cue) (f : Int) (fd : Bool) (b : Cue), (fd = false → b = zeroC) → l.foldl (actS f) (actO fd b) = actO (actF l f fd b).1 (actF l f fd b).2 ∧ ((actF l f fd b).1 = false → (actF l f fd b).2 = zeroC)
 | [], _, _, _, h => ⟨rfl, h⟩
 | x :: l, f, fd, b, h => by
  rw [List.foldl_cons]
  cases hc : (decide (x.from_ ≤ f) && decide (f < x.to_) && (!fd || prefC x b)) with
  | true =>
   have : actS f (actO fd b) x = actO true x := by
    simp only [Bool.and_eq_true, decide_eq_true_eq, Bool.or_eq_true, Bool.not_eq_true'] at hc
    unfold actS
    rw [if_pos hc.1]
    cases fd with
    | false => rfl
    | true => simp only [actO, if_true]; rw [if_pos (by simpa using hc.2)]
   rw [this, actF_hit hc]
   exact actF_fold l f true x fun h => by cases h
  | false =>
   have : actS f (actO fd b) x = actO fd b := by
    unfold actS
    split
    ·rename_i h2
     cases fd with
     | false => simp [h2.1, h2.2] at hc
     | true => simp only [actO, if_true]; rw [if_neg (by simpa [h2.1, h2.2] using hc)]
    ·rfl
   rw [this, actF_miss hc]
   exact actF_fold l f fd b h
def actV : Option Cue → Value
 | none => .tuple #[cuV zeroC, .bool false]
 | some c => .tuple #[cuV c, .bool true]
theorem actF_eq (l : List Cue) (f : Int) : activeP l f = actO (actF l f false zeroC).1 (actF l f false zeroC).2 ∧ ((actF l f false zeroC).1 = false → (actF l f false zeroC).2 = zeroC) :=
 actF_fold l f false zeroC fun _ => rfl
theorem actV_of {o : Option Cue} {fd : Bool} {b : Cue} (h : o = actO fd b ∧ (fd = false → b = zeroC)) : actV o = .tuple #[cuV b, .bool fd] := by
 cases fd with
 | true => rw [h.1]; rfl
 | false => rw [h.1, h.2 rfl]; rfl
set_option maxRecDepth 100000 in
set_option maxHeartbeats 4000000 in
theorem cvalid_any (c : Cue) (w : World) (hl : c.text.length ≤ 1000000) : Calls Tryd.prog 25 #[(.agg #[(ii c.id), (ii c.from_), (ii c.to_), (ii c.pri), (.string (bstr c.text))])] w fun e w' => e = .returned (.bool (validC c)) ∧ Below w.heap.size w w' := by
 have HP := Hp.start w
 have hwm : wmax = 4611686018427387903 := rfl
 refine w_enter 51 [(0, (.agg #[(ii c.id), (ii c.from_), (ii c.to_), (ii c.pri), (.string (bstr c.text))]))] Tryd.func25 rfl Tryd.ntmps25 (by kernel_rfl) (by kernel_rfl) fun a H => ?_
 refine wp_seq (w_region ?_)
 refine H.alloc HP 1 (fun b => (pt b 0)) 23 [(ii c.id), (ii c.from_), (ii c.to_), (ii c.pri), (.string (bstr c.text))] (by kernel_rfl) (fun w => by kernel_rfl) fun b_1 w_2 a H HP => ?_
 refine H.ge HP [(2, (.bool false))] [] fun a H => ?_
 refine then_normal (wp_seq (wp_seq (w_region ?_)))
 refine H.go HP 4 [(5, (pt b_1 0)), (8, (.bool (decide (c.id < 1))))] [0] fun a H => ?_
 refine H.split 8 rfl (fun g8 H => ?_) (fun g8 H => ?_)
 ·have g8p := of_decide_eq_true g8
  refine H.ge HP [(12, (.bool true))] [] fun a H => ?_
  refine then_normal ?_
  refine w_ift H rfl ?_
  refine wp_seq (w_region ?_)
  refine H.ge HP [(2, (.bool false))] [] fun a H => ?_
  refine then_normal (wp_ret (then_ret ?_))
  refine H.ret1 (fn := Tryd.f25) Tryd.results25 (RV.tmp_ (v := (.bool false)) (by kernel_rfl)) ?_
  refine ⟨?_, HP.bl⟩
  congr 2; symm; unfold validC; rw [if_pos (by omega)]
 ·have g8p := of_decide_eq_false g8
  refine H.ge HP [(12, (.bool (decide (c.id > 4611686018427387903))))] [0] fun a H => ?_
  refine then_normal ?_
  refine w_if H rfl (fun g12 => ?_) (fun g12 => ?_)
  ·have g12p := of_decide_eq_true g12
   refine wp_seq (w_region ?_)
   refine H.ge HP [(2, (.bool false))] [] fun a H => ?_
   refine then_normal (wp_ret (then_ret ?_))
   refine H.ret1 (fn := Tryd.f25) Tryd.results25 (RV.tmp_ (v := (.bool false)) (by kernel_rfl)) ?_
   refine ⟨?_, HP.bl⟩
   congr 2; symm; unfold validC; rw [if_pos (by omega)]
  ·have g12p := of_decide_eq_false g12
   refine wp_skip (then_normal (wp_seq (wp_seq (w_region ?_))))
   refine H.ge HP [(15, (.bool (c.to_ == 0)))] [0] fun a H => ?_
   refine then_normal ?_
   refine w_if H rfl (fun g15 => ?_) (fun g15 => ?_)
   ·have g15p := eq_of_beq g15
    refine wp_seq (w_region ?_)
    refine H.go HP 4 [(16, (.agg #[(ii c.id), (ii c.from_), (ii c.to_), (ii c.pri), (.string (bstr c.text))])), (19, (.agg #[(ii c.id), (ii 0), (ii 0), (ii 0), (.string (bstr ([])))]))] [0, 0] fun a H => ?_
    refine H.u 20 (.bool (decide (c = (⟨c.id, 0, 0, 0, []⟩ : Cue)))) (ex_eqC (a := c) (b := (⟨c.id, 0, 0, 0, []⟩ : Cue)) (by kernel_rfl) (by kernel_rfl)) fun a H => ?_
    refine H.ge HP [(2, (.bool (decide (c = (⟨c.id, 0, 0, 0, []⟩ : Cue)))))] [] fun a H => ?_
    refine then_normal (wp_ret (then_ret ?_))
    refine H.ret1 (fn := Tryd.f25) Tryd.results25 (RV.tmp_ (v := (.bool (decide (c = (⟨c.id, 0, 0, 0, []⟩ : Cue))))) (by kernel_rfl)) ?_
    refine ⟨?_, HP.bl⟩
    congr 2; symm; unfold validC; rw [if_neg (by omega), if_pos (by omega)]; exact cue_zero (by omega)
   ·have g15p := ne_of_beq_false g15
    refine wp_skip (then_normal (wp_seq (wp_seq (w_region ?_))))
    refine H.go HP 4 [(24, (.bool (decide (c.from_ < 0))))] [0] fun a H => ?_
    refine H.split 24 rfl (fun g24 H => ?_) (fun g24 H => ?_)
    ·have g24p := of_decide_eq_true g24
     refine H.ge HP [(35, (.bool true))] [] fun a H => ?_
     refine then_normal ?_
     refine w_ift H rfl ?_
     refine wp_seq (w_region ?_)
     refine H.ge HP [(2, (.bool false))] [] fun a H => ?_
     refine then_normal (wp_ret (then_ret ?_))
     refine H.ret1 (fn := Tryd.f25) Tryd.results25 (RV.tmp_ (v := (.bool false)) (by kernel_rfl)) ?_
     refine ⟨?_, HP.bl⟩
     congr 2; symm; unfold validC; rw [if_neg (by omega), if_neg (by omega), if_pos (by omega)]
    ·have g24p := of_decide_eq_false g24
     refine H.go HP 7 [(31, (.bool (decide (c.from_ ≥ c.to_))))] [0, 0] fun a H => ?_
     refine H.split 31 rfl (fun g31 H => ?_) (fun g31 H => ?_)
     ·have g31p := of_decide_eq_true g31
      refine H.ge HP [(35, (.bool true))] [] fun a H => ?_
      refine then_normal ?_
      refine w_ift H rfl ?_
      refine wp_seq (w_region ?_)
      refine H.ge HP [(2, (.bool false))] [] fun a H => ?_
      refine then_normal (wp_ret (then_ret ?_))
      refine H.ret1 (fn := Tryd.f25) Tryd.results25 (RV.tmp_ (v := (.bool false)) (by kernel_rfl)) ?_
      refine ⟨?_, HP.bl⟩
      congr 2; symm; unfold validC; rw [if_neg (by omega), if_neg (by omega), if_pos (by omega)]
     ·have g31p := of_decide_eq_false g31
      refine H.ge HP [(35, (.bool (decide (c.to_ > 100000000))))] [0] fun a H => ?_
      refine then_normal ?_
      refine w_if H rfl (fun g35 => ?_) (fun g35 => ?_)
      ·have g35p := of_decide_eq_true g35
       refine wp_seq (w_region ?_)
       refine H.ge HP [(2, (.bool false))] [] fun a H => ?_
       refine then_normal (wp_ret (then_ret ?_))
       refine H.ret1 (fn := Tryd.f25) Tryd.results25 (RV.tmp_ (v := (.bool false)) (by kernel_rfl)) ?_
       refine ⟨?_, HP.bl⟩
       congr 2; symm; unfold validC; rw [if_neg (by omega), if_neg (by omega), if_pos (by omega)]
      ·have g35p := of_decide_eq_false g35
       refine wp_skip (then_normal (wp_seq (wp_seq (w_region ?_))))
       refine H.go HP 4 [(39, (.bool (decide (c.pri < 0))))] [0] fun a H => ?_
       refine H.split 39 rfl (fun g39 H => ?_) (fun g39 H => ?_)
       ·have g39p := of_decide_eq_true g39
        refine H.ge HP [(43, (.bool true))] [] fun a H => ?_
        refine then_normal ?_
        refine w_ift H rfl ?_
        refine wp_seq (w_region ?_)
        refine H.ge HP [(2, (.bool false))] [] fun a H => ?_
        refine then_normal (wp_ret (then_ret ?_))
        refine H.ret1 (fn := Tryd.f25) Tryd.results25 (RV.tmp_ (v := (.bool false)) (by kernel_rfl)) ?_
        refine ⟨?_, HP.bl⟩
        congr 2; symm; unfold validC; rw [if_neg (by omega), if_neg (by omega), if_neg (by omega), if_pos (by omega)]
       ·have g39p := of_decide_eq_false g39
        refine H.ge HP [(43, (.bool (decide (c.pri > 3))))] [0] fun a H => ?_
        refine then_normal ?_
        refine w_if H rfl (fun g43 => ?_) (fun g43 => ?_)
        ·have g43p := of_decide_eq_true g43
         refine wp_seq (w_region ?_)
         refine H.ge HP [(2, (.bool false))] [] fun a H => ?_
         refine then_normal (wp_ret (then_ret ?_))
         refine H.ret1 (fn := Tryd.f25) Tryd.results25 (RV.tmp_ (v := (.bool false)) (by kernel_rfl)) ?_
         refine ⟨?_, HP.bl⟩
         congr 2; symm; unfold validC; rw [if_neg (by omega), if_neg (by omega), if_neg (by omega), if_pos (by omega)]
        ·have g43p := of_decide_eq_false g43
         refine wp_skip (then_normal (wp_seq (w_region ?_)))
         refine H.go HP 2 [(46, (.string (bstr c.text)))] [0] fun a H => ?_
         refine H.call 47 (by kernel_rfl) (Eq.trans (by kernel_rfl : _ = (callFunc 24 #[(.string (bstr c.text))]).run Tryd.prog w_2) (Tryd.call24 _ _)) (rowsB_any c.text w_2 hl) ?_
         rintro e w_3 ⟨A_, n_, c_, rfl, hb⟩
         refine ⟨_, rfl, ?_⟩
         intro a H
         have HP := HP.next hb
         refine H.ge HP [(3, (.slice A_ n_ c_)), (4, (.bool ((layP c.text).isSome)))] [] fun a H => ?_
         refine then_normal (wp_seq (w_region ?_))
         refine H.ge HP [(2, (.bool ((layP c.text).isSome)))] [] fun a H => ?_
         refine then_normal (wp_ret ?_)
         refine H.ret1 (fn := Tryd.f25) Tryd.results25 (RV.tmp_ (v := (.bool ((layP c.text).isSome))) (by kernel_rfl)) ?_
         refine ⟨?_, HP.bl⟩
         congr 2; symm; unfold validC; rw [if_neg (by omega), if_neg (by omega), if_neg (by omega), if_neg (by omega)]
set_option maxRecDepth 100000 in
set_option maxHeartbeats 4000000 in
theorem pref_any (x b : Cue) (fd : Bool) (bf bb : Nat) (w : World) (hb : Box w bb 23 #[(ii b.id), (ii b.from_), (ii b.to_), (ii b.pri), (.string (bstr b.text))]) (hf : Box w bf 4 #[.bool fd]) (hne : bb ≠ bf) : Calls Tryd.prog 50 #[(.agg #[(ii x.id), (ii x.from_), (ii x.to_), (ii x.pri), (.string (bstr x.text))]), .pointer (some ⟨bf, 0, none⟩), .pointer (some ⟨bb, 0, none⟩)] w fun e w' => e = .returned (.bool (!fd || prefC x b)) ∧ Below w.heap.size w w' := by
 have HP := Hp.own2 hb hf hne
 refine w_enter 35 [(0, (.agg #[(ii x.id), (ii x.from_), (ii x.to_), (ii x.pri), (.string (bstr x.text))])), (1, (pt bf 0)), (2, (pt bb 0))] Tryd.func50 rfl Tryd.ntmps50 (by kernel_rfl) (by kernel_rfl) fun a H => ?_
 refine wp_seq (w_region ?_)
 refine H.alloc HP 3 (fun b => (pt b 0)) 23 [(ii x.id), (ii x.from_), (ii x.to_), (ii x.pri), (.string (bstr x.text))] (by kernel_rfl) (fun w => by kernel_rfl) fun b_1 w_2 a H HP => ?_
 refine H.ge HP [(4, (.bool false))] [] fun a H => ?_
 refine then_normal (wp_block (wp_seq (w_region ?_)))
 refine H.ge HP [(10, (.bool (!fd)))] [2] fun a H => ?_
 refine then_normal ?_
 refine w_if H rfl (fun g10 => ?_) (fun g10 => ?_)
 ·have g10p := not_is_true g10
  refine wp_seq (w_region ?_)
  refine H.ge HP [(4, (.bool true))] [] fun a H => ?_
  refine then_normal (wp_ret (inb_ret ?_))
  refine H.ret1 (fn := Tryd.f50) Tryd.results50 (RV.tmp_ (v := (.bool true)) (by kernel_rfl)) ?_
  refine ⟨congrArg (fun b => Ending.returned (.bool b)) ?_, HP.same (by simp only [List.mem_cons, List.not_mem_nil, or_false]; rintro y (rfl | rfl | rfl) <;> first | exact .inl rfl | exact .inr (bx_same hb (HP.at_ 1 rfl)) | exact .inr (bx_same hf (HP.at_ 2 rfl)))⟩
  rw [g10p]; rfl
 ·have g10p := not_is_false g10
  refine wp_seq (w_region ?_)
  refine H.ge HP [(13, (.bool (x.pri != b.pri)))] [0, 1] fun a H => ?_
  refine then_normal ?_
  refine w_if H rfl (fun g13 => ?_) (fun g13 => ?_)
  ·have g13p := bne_iff_ne.1 g13
   refine wp_seq (w_region ?_)
   refine H.ge HP [(4, (.bool (decide (x.pri > b.pri))))] [0, 1] fun a H => ?_
   refine then_normal (wp_ret (inb_ret ?_))
   refine H.ret1 (fn := Tryd.f50) Tryd.results50 (RV.tmp_ (v := (.bool (decide (x.pri > b.pri)))) (by kernel_rfl)) ?_
   refine ⟨congrArg (fun b => Ending.returned (.bool b)) ?_, HP.same (by simp only [List.mem_cons, List.not_mem_nil, or_false]; rintro y (rfl | rfl | rfl) <;> first | exact .inl rfl | exact .inr (bx_same hb (HP.at_ 1 rfl)) | exact .inr (bx_same hf (HP.at_ 2 rfl)))⟩
   rw [g10p]; show _ = prefC x b; unfold prefC; rw [if_pos (by omega)]
  ·have g13p := eq_of_bne_false g13
   refine wp_seq (w_region ?_)
   refine H.ge HP [(24, (.bool (x.from_ != b.from_)))] [0, 1] fun a H => ?_
   refine then_normal ?_
   refine w_if H rfl (fun g24 => ?_) (fun g24 => ?_)
   ·have g24p := bne_iff_ne.1 g24
    refine wp_seq (w_region ?_)
    refine H.ge HP [(4, (.bool (decide (x.from_ > b.from_))))] [0, 1] fun a H => ?_
    refine then_normal (wp_ret (inb_ret ?_))
    refine H.ret1 (fn := Tryd.f50) Tryd.results50 (RV.tmp_ (v := (.bool (decide (x.from_ > b.from_)))) (by kernel_rfl)) ?_
    refine ⟨congrArg (fun b => Ending.returned (.bool b)) ?_, HP.same (by simp only [List.mem_cons, List.not_mem_nil, or_false]; rintro y (rfl | rfl | rfl) <;> first | exact .inl rfl | exact .inr (bx_same hb (HP.at_ 1 rfl)) | exact .inr (bx_same hf (HP.at_ 2 rfl)))⟩
    rw [g10p]; show _ = prefC x b; unfold prefC; rw [if_neg (by omega), if_pos (by omega)]
   ·have g24p := eq_of_bne_false g24
    refine wp_seq (w_region ?_)
    refine H.ge HP [(5, (pt b_1 0)), (4, (.bool (decide (x.id ≥ b.id))))] [0, 1] fun a H => ?_
    refine then_normal (wp_ret (inb_ret ?_))
    refine H.ret1 (fn := Tryd.f50) Tryd.results50 (RV.tmp_ (v := (.bool (decide (x.id ≥ b.id)))) (by kernel_rfl)) ?_
    refine ⟨congrArg (fun b => Ending.returned (.bool b)) ?_, HP.same (by simp only [List.mem_cons, List.not_mem_nil, or_false]; rintro y (rfl | rfl | rfl) <;> first | exact .inl rfl | exact .inr (bx_same hb (HP.at_ 1 rfl)) | exact .inr (bx_same hf (HP.at_ 2 rfl)))⟩
    rw [g10p]; show _ = prefC x b; unfold prefC; rw [if_neg (by omega), if_neg (by omega)]
set_option maxRecDepth 100000 in
set_option maxHeartbeats 4000000 in
theorem active_any (A : Option Addr) (c : Nat) (l : List Cue) (fr : Int) (w : World) (hr : IsRow 5 cuC w A l) (hl : l.length ≤ maxLen) : Calls Tryd.prog 38 #[.slice A l.length c, .int .i64 fr] w fun e w' => e = .returned (actV (activeP l fr)) ∧ Below w.heap.size w w' := by
 have hact := actF_eq l fr
 unfold maxLen at hl
 have HP := (Hp.start w).keepF (rowF 5 cuC A l) hr (rowF_ok _ _ _ _) fun k hk => ⟨hr.lt k hk, fun x hx => by cases hx⟩
 refine w_enter 37 [(0, (.slice A l.length c)), (1, (ii fr))] Tryd.func38 rfl Tryd.ntmps38 (by kernel_rfl) (by kernel_rfl) fun a H => ?_
 refine wp_seq (w_region ?_)
 refine H.alloc HP 4 (fun b => (pt b 0)) 23 [(ii 0), (ii 0), (ii 0), (ii 0), (.string (bstr ([])))] (by kernel_rfl) (fun w => by kernel_rfl) fun b_1 w_2 a H HP => ?_
 refine H.ge HP [(5, (.bool false))] [] fun a H => ?_
 refine then_normal (wp_seq (w_region ?_))
 refine H.alloc HP 6 (fun b => (pt b 0)) 23 [(ii 0), (ii 0), (ii 0), (ii 0), (.string (bstr ([])))] (by kernel_rfl) (fun w => by kernel_rfl) fun b_3 w_4 a H HP => ?_
 refine wpList_nil (then_normal (wp_seq (w_region ?_)))
 refine H.alloc HP 7 (fun b => (pt b 0)) 4 [(.bool false)] (by kernel_rfl) (fun w => by kernel_rfl) fun b_5 w_6 a H HP => ?_
 refine H.sh HP 0 0 (.bool false) rfl fun w_7 a H HP => ?_
 refine wpList_nil (then_normal (wp_seq (w_region ?_)))
 refine H.ge HP [(8, (.func (.func 50) #[] #[(pt b_5 0), (pt b_3 0)]))] [] fun a H => ?_
 refine then_normal (wp_seq (wp_seq (w_region ?_)))
 refine H.ge HP [(12, (.slice A l.length c)), (13, (ii l.length)), (14, (ii 0))] [] fun a H => ?_
 refine then_normal (wp_block ?_)
 refine w_loop (fun mm a wv => ∃ (i : Nat), ∃ (b : Cue), ∃ (fd : Bool), l.length - i = mm ∧ Sl 37 [(14, (ii i)), (13, (ii l.length)), (12, (.slice A l.length c)), (8, (.func (.func 50) #[] #[(pt b_5 0), (pt b_3 0)])), (7, (pt b_5 0)), (6, (pt b_3 0)), (4, (pt b_1 0)), (1, (ii fr))] a ∧ Hp w wv [bx b_5 4 [(.bool fd)] true, bx b_3 23 [(ii b.id), (ii b.from_), (ii b.to_), (ii b.pri), (.string (bstr b.text))] true, bx b_1 23 [(ii zeroC.id), (ii zeroC.from_), (ii zeroC.to_), (ii zeroC.pri), (.string (bstr zeroC.text))] true] [rowF 5 cuC A l] ∧ (i ≤ l.length) ∧ (actF (l.drop i) fr fd b = actF l fr false zeroC)) (l.length - 0) ?_ ?_
 ·exact ⟨0, zeroC, false, (by omega), H.keep (by kernel_rfl), HP, (Nat.zero_le _), rfl⟩
 rintro mm a w_8 ⟨i, b, fd, hmeas, H, HP, hi, hrel⟩
 refine wp_seq (w_region ?_)
 refine H.ge HP [(15, (.bool (decide ((i : Int) < (l.length : Int)))))] [] fun a H => ?_
 refine then_normal (wp_seq ?_)
 refine w_if H rfl (fun g15 => ?_) (fun g15 => ?_)
 ·have g15p := of_decide_eq_true g15
  refine wp_skip (then_normal (wp_seq (wp_block (wp_seq ?_))))
  obtain ⟨bu_10, ou_11, x_9, hA_12, _, hd_14, hx_13, hm_15, _⟩ := IsRow.get cuC_size (HP.fact 0 rfl) (i := i) (by omega)
  refine w_region ?_
  refine H.u 16 (.pointer (some ⟨bu_10, ou_11 + i * 5, none⟩)) (ex_indexA (b := bu_10) (off := ou_11) (len := l.length) (cap := c) (e := 23) (k := 5) (ik := .i64) (i := (i : Int)) (m := i) hA_12 (by kernel_rfl) (by kernel_rfl) (by omega) (by omega) (by kernel_rfl) (by kernel_rfl)) fun a H => ?_
  refine H.u 17 (.agg #[(ii x_9.id), (ii x_9.from_), (ii x_9.to_), (ii x_9.pri), (.string (bstr x_9.text))]) (ex_loadN (b := bu_10) (off := ou_11 + i * 5) (vs := [(ii x_9.id), (ii x_9.from_), (ii x_9.to_), (ii x_9.pri), (.string (bstr x_9.text))]) (by kernel_rfl) (by kernel_rfl) (by kernel_rfl) rfl (IsRow.cells cuC_size (HP.fact 0 rfl) hA_12 hx_13)) fun a H => ?_
  refine H.alloc HP 10 (fun b => (pt b 0)) 23 [(ii 0), (ii 0), (ii 0), (ii 0), (.string (bstr ([])))] (by kernel_rfl) (fun w => by kernel_rfl) fun b_16 w_17 a H HP => ?_
  refine H.sh HP 0 0 (.agg #[(ii x_9.id), (ii x_9.from_), (ii x_9.to_), (ii x_9.pri), (.string (bstr x_9.text))]) rfl fun w_18 a H HP => ?_
  refine wpList_nil (then_normal (wp_seq (w_region ?_)))
  refine H.go HP 5 [(22, (.bool (decide (x_9.from_ ≤ fr))))] [0] fun a H => ?_
  refine H.split 22 rfl (fun g22 H => ?_) (fun g22 H => ?_)
  ·have g22p := of_decide_eq_true g22
   refine H.go HP 6 [(28, (.bool (decide (fr < x_9.to_))))] [0] fun a H => ?_
   refine H.split 28 rfl (fun g28 H => ?_) (fun g28 H => ?_)
   ·have g28p := of_decide_eq_true g28
    refine H.go HP 2 [(29, (.func (.func 50) #[] #[(pt b_5 0), (pt b_3 0)])), (30, (.agg #[(ii x_9.id), (ii x_9.from_), (ii x_9.to_), (ii x_9.pri), (.string (bstr x_9.text))]))] [0] fun a H => ?_
    refine H.call 31 (by kernel_rfl) (Eq.trans (by kernel_rfl : _ = (callFunc 50 #[(.agg #[(ii x_9.id), (ii x_9.from_), (ii x_9.to_), (ii x_9.pri), (.string (bstr x_9.text))]), (pt b_5 0), (pt b_3 0)]).run Tryd.prog w_18) (Tryd.call50 _ _)) (pref_any x_9 b fd b_5 b_3 w_18 (HP.at_ 2 rfl) (HP.at_ 1 rfl) (HP.ne 2 1 rfl rfl (by decide))) ?_
    rintro e w_19 ⟨rfl, hbq⟩
    refine ⟨_, rfl, ?_⟩
    intro a H
    have HP := HP.next hbq
    refine H.ge HP [(32, (.bool (!fd || prefC x_9 b)))] [] fun a H => ?_
    refine then_normal ?_
    refine w_if H rfl (fun g32 => ?_) (fun g32 => ?_)
    ·have g32p := g32
     refine w_region ?_
     refine H.go HP 1 [(33, (.agg #[(ii x_9.id), (ii x_9.from_), (ii x_9.to_), (ii x_9.pri), (.string (bstr x_9.text))]))] [0] fun a H => ?_
     refine H.sh HP 2 0 (.agg #[(ii x_9.id), (ii x_9.from_), (ii x_9.to_), (ii x_9.pri), (.string (bstr x_9.text))]) rfl fun w_20 a H HP => ?_
     refine H.sh HP 1 0 (.bool true) rfl fun w_21 a H HP => ?_
     refine wpList_nil (inb_normal (then_normal (w_region ?_)))
     refine H.wi 34 ((i : Int) + 1) fun a H => ?_
     refine H.ge HP [(14, (ii ((i : Int) + 1)))] [] fun a H => ?_
     refine then_normal ?_
     have H := H.as 14 (ii ((i + 1 : Nat) : Int)) rfl rfl
     refine ⟨_, ?_, i + 1, x_9, true, rfl, H.keep (by kernel_rfl), (HP.tail rfl), (by omega), (by rw [← hrel, hd_14, actF_hit (by rw [g22, g28, g32]; rfl)])⟩
     omega
    ·have g32p := g32
     refine wp_skip (inb_normal (then_normal (w_region ?_)))
     refine H.wi 34 ((i : Int) + 1) fun a H => ?_
     refine H.ge HP [(14, (ii ((i : Int) + 1)))] [] fun a H => ?_
     refine then_normal ?_
     have H := H.as 14 (ii ((i + 1 : Nat) : Int)) rfl rfl
     refine ⟨_, ?_, i + 1, b, fd, rfl, H.keep (by kernel_rfl), (HP.tail rfl), (by omega), (by rw [← hrel, hd_14, actF_miss (by rw [g22, g28, g32]; rfl)])⟩
     omega
   ·have g28p := of_decide_eq_false g28
    refine H.ge HP [(32, (.bool false))] [] fun a H => ?_
    refine then_normal ?_
    refine w_iff H rfl ?_
    refine wp_skip (inb_normal (then_normal (w_region ?_)))
    refine H.wi 34 ((i : Int) + 1) fun a H => ?_
    refine H.ge HP [(14, (ii ((i : Int) + 1)))] [] fun a H => ?_
    refine then_normal ?_
    have H := H.as 14 (ii ((i + 1 : Nat) : Int)) rfl rfl
    refine ⟨_, ?_, i + 1, b, fd, rfl, H.keep (by kernel_rfl), (HP.tail rfl), (by omega), (by rw [← hrel, hd_14, actF_miss (by rw [g22, g28]; rfl)])⟩
    omega
  ·have g22p := of_decide_eq_false g22
   refine H.ge HP [(32, (.bool false))] [] fun a H => ?_
   refine then_normal ?_
   refine w_iff H rfl ?_
   refine wp_skip (inb_normal (then_normal (w_region ?_)))
   refine H.wi 34 ((i : Int) + 1) fun a H => ?_
   refine H.ge HP [(14, (ii ((i : Int) + 1)))] [] fun a H => ?_
   refine then_normal ?_
   have H := H.as 14 (ii ((i + 1 : Nat) : Int)) rfl rfl
   refine ⟨_, ?_, i + 1, b, fd, rfl, H.keep (by kernel_rfl), (HP.tail rfl), (by omega), (by rw [← hrel, hd_14, actF_miss (by rw [g22]; rfl)])⟩
   omega
 ·have g15p := of_decide_eq_false g15
  refine wp_exit (then_exit (then_exit ?_))
  refine w_exit_here ?_
  refine then_normal (wp_seq ?_)
  have HP := HP.front 0 rfl [bx b_5 4 [(.bool fd)] true, bx b_3 23 [(ii b.id), (ii b.from_), (ii b.to_), (ii b.pri), (.string (bstr b.text))] true, bx b_1 23 [(ii zeroC.id), (ii zeroC.from_), (ii zeroC.to_), (ii zeroC.pri), (.string (bstr zeroC.text))] true] (by kernel_rfl)
  refine An.start (fun v => Hp w v [bx b_3 23 [(ii b.id), (ii b.from_), (ii b.to_), (ii b.pri), (.string (bstr b.text))] true, bx b_1 23 [(ii zeroC.id), (ii zeroC.from_), (ii zeroC.to_), (ii zeroC.pri), (.string (bstr zeroC.text))] true] [rowF 5 cuC A l]) 2 4 HP wide_follows rfl fun w_22 HP => ?_
  refine An.go H (.inr ((HP.tail rfl))) 3 [0] [(35, (.agg #[(ii b.id), (ii b.from_), (ii b.to_), (ii b.pri), (.string (bstr b.text))]))] [0] fun a H => ?_
  refine An.two 1 2 (by kernel_rfl) ?_ ?_
  ·refine Op.val H 36 (.bool fd) rfl (by kernel_rfl) (ex_l1 (HP.cell 0 rfl 0 rfl)) fun a H => ?_
   refine ⟨.inr ((HP.tail rfl)), ?_⟩
   refine An.one 2 (by kernel_rfl) ?_
   refine Op.sh H HP 2 0 (.agg #[(ii b.id), (ii b.from_), (ii b.to_), (ii b.pri), (.string (bstr b.text))]) rfl rfl fun w_23 a H HP => ?_
   refine ⟨.inl (by kernel_rfl), ?_⟩
   refine An.go H (.inl (by kernel_rfl)) 0 [3] [(5, (.bool fd))] [] fun a H => ?_
   refine An.done (by kernel_rfl) ?_
   refine then_normal (wp_ret ?_)
   refine H.ret2 (fn := Tryd.f38) Tryd.results38 (RV.cellN (vs := [(ii b.id), (ii b.from_), (ii b.to_), (ii b.pri), (.string (bstr b.text))]) (b := b_1) (off := 0) (k := 5) (by kernel_rfl) (by kernel_rfl) (by kernel_rfl) rfl (HP.cells 2 rfl 0 5 (by kernel_rfl))) (RV.tmp_ (v := (.bool fd)) (by kernel_rfl)) ?_
   refine ⟨congrArg Ending.returned ?_, HP.bl⟩
   rw [show actF l fr false zeroC = (fd, b) by rw [← hrel, List.drop_of_length_le (by omega)]; rfl] at hact
   rw [actV_of hact]
  ·refine Op.sh H HP 2 0 (.agg #[(ii b.id), (ii b.from_), (ii b.to_), (ii b.pri), (.string (bstr b.text))]) rfl rfl fun w_24 a H HP => ?_
   refine ⟨.inl (by kernel_rfl), ?_⟩
   refine An.one 1 (by kernel_rfl) ?_
   refine Op.val H 36 (.bool fd) rfl (by kernel_rfl) (ex_l1 (HP.cell 0 rfl 0 rfl)) fun a H => ?_
   refine ⟨.inl (by kernel_rfl), ?_⟩
   refine An.go H (.inl (by kernel_rfl)) 0 [3] [(5, (.bool fd))] [] fun a H => ?_
   refine An.done (by kernel_rfl) ?_
   refine then_normal (wp_ret ?_)
   refine H.ret2 (fn := Tryd.f38) Tryd.results38 (RV.cellN (vs := [(ii b.id), (ii b.from_), (ii b.to_), (ii b.pri), (.string (bstr b.text))]) (b := b_1) (off := 0) (k := 5) (by kernel_rfl) (by kernel_rfl) (by kernel_rfl) rfl (HP.cells 2 rfl 0 5 (by kernel_rfl))) (RV.tmp_ (v := (.bool fd)) (by kernel_rfl)) ?_
   refine ⟨congrArg Ending.returned ?_, HP.bl⟩
   rw [show actF l fr false zeroC = (fd, b) by rw [← hrel, List.drop_of_length_le (by omega)]; rfl] at hact
   rw [actV_of hact]
end Go.Proofs.YtcifcipjndiegaaDoor
namespace Go.Proofs
open Go.Shelf
def Tryd.lays169_ren : Go.Shelf.Ren := ⟨fun | 169 => 43 | n => n, fun | 70 => 77 | 9 => 9 | 0 => 0 | 72 => 79 | 37 => 58 | 127 => 96 | 3 => 3 | 5 => 5 | n => n, fun | n => n⟩
theorem Tryd.lays169 : Go.Proofs.Lays.n169 Tryd.prog Tryd.lays169_ren := {
  mixed := by kernel_rfl
  f169 := Tryd.func43.trans (congrArg some (by kernel_rfl))
  t0 := Tryd.underlying0
  a0 := Tryd.isAgg0
  z0 := Tryd.sizeOf0
  v0 := Tryd.zeroValue0
  t3 := Tryd.underlying3
  a3 := Tryd.isAgg3
  z3 := Tryd.sizeOf3
  v3 := Tryd.zeroValue3
  t9 := Tryd.underlying9
  a9 := Tryd.isAgg9
  z9 := Tryd.sizeOf9
  v9 := Tryd.zeroValue9
  t37 := Tryd.underlying58
  a37 := Tryd.isAgg58
  z37 := Tryd.sizeOf58
  v37 := Tryd.zeroValue58
  t70 := Tryd.underlying77
  a70 := Tryd.isAgg77
  z70 := Tryd.sizeOf77
  v70 := Tryd.zeroValue77
  t72 := Tryd.underlying79
  a72 := Tryd.isAgg79
  z72 := Tryd.sizeOf79
  v72 := Tryd.zeroValue79
  t127 := Tryd.underlying96
  a127 := Tryd.isAgg96
  z127 := Tryd.sizeOf96
  v127 := Tryd.zeroValue96 }
theorem Tryd.Builder_Extra_169 : Builder.Extra Tryd.prog Tryd.lays169_ren := {
  sizeBuilder := by kernel_rfl
  liesBuilder := by kernel_rfl
  t5 := Tryd.underlying5
  a5 := Tryd.isAgg5
  z5 := Tryd.sizeOf5
  v5 := Tryd.zeroValue5
  infoByte := by kernel_rfl
  cellsByte := by kernel_rfl
  sizeByte := by kernel_rfl
  neB5 := by decide }
def Tryd.lays165_ren : Go.Shelf.Ren := ⟨fun | 165 => 41 | 240 => 52 | 241 => 53 | 276 => 57 | 277 => 58 | n => n, fun | 70 => 77 | 3 => 3 | 0 => 0 | 4 => 4 | 9 => 9 | 20 => 20 | 72 => 79 | 37 => 58 | 164 => 99 | 5 => 5 | n => n, fun | n => n⟩
theorem Tryd.lays165 : Go.Proofs.Lays.n165 Tryd.prog Tryd.lays165_ren := {
  mixed := by kernel_rfl
  f165 := Tryd.func41.trans (congrArg some (by kernel_rfl))
  f240 := Tryd.func52.trans (congrArg some (by kernel_rfl))
  f241 := Tryd.func53.trans (congrArg some (by kernel_rfl))
  f276 := Tryd.func57.trans (congrArg some (by kernel_rfl))
  f277 := Tryd.func58.trans (congrArg some (by kernel_rfl))
  t0 := Tryd.underlying0
  a0 := Tryd.isAgg0
  z0 := Tryd.sizeOf0
  v0 := Tryd.zeroValue0
  t3 := Tryd.underlying3
  a3 := Tryd.isAgg3
  z3 := Tryd.sizeOf3
  v3 := Tryd.zeroValue3
  t4 := Tryd.underlying4
  a4 := Tryd.isAgg4
  z4 := Tryd.sizeOf4
  v4 := Tryd.zeroValue4
  t9 := Tryd.underlying9
  a9 := Tryd.isAgg9
  z9 := Tryd.sizeOf9
  v9 := Tryd.zeroValue9
  t20 := Tryd.underlying20
  a20 := Tryd.isAgg20
  z20 := Tryd.sizeOf20
  v20 := Tryd.zeroValue20
  t37 := Tryd.underlying58
  a37 := Tryd.isAgg58
  z37 := Tryd.sizeOf58
  v37 := Tryd.zeroValue58
  t70 := Tryd.underlying77
  a70 := Tryd.isAgg77
  z70 := Tryd.sizeOf77
  v70 := Tryd.zeroValue77
  t72 := Tryd.underlying79
  a72 := Tryd.isAgg79
  z72 := Tryd.sizeOf79
  v72 := Tryd.zeroValue79
  t164 := Tryd.underlying99
  a164 := Tryd.isAgg99
  z164 := Tryd.sizeOf99
  v164 := Tryd.zeroValue99 }
theorem Tryd.Builder_Extra_165 : Builder.Extra Tryd.prog Tryd.lays165_ren := {
  sizeBuilder := by kernel_rfl
  liesBuilder := by kernel_rfl
  t5 := Tryd.underlying5
  a5 := Tryd.isAgg5
  z5 := Tryd.sizeOf5
  v5 := Tryd.zeroValue5
  infoByte := by kernel_rfl
  cellsByte := by kernel_rfl
  sizeByte := by kernel_rfl
  neB5 := by decide }
open Go.RowKit in
theorem Tryd.Builder_Grow_fresh (B b n : Nat) (w : World) (hB : B ≤ b) (hbk : w.heap[b]? = some (.cells #[.pointer none, .slice none 0 0] 79 (0, 0))) (hBw : B ≤ w.heap.size) (hn : n ≤ 281474976710656) :
    Calls Tryd.prog 41 #[.pointer (some ⟨b, 0, none⟩), .int .i64 n] w fun e w' => e = .returned (.tuple #[]) ∧ (Lib.BuilderAt 79 5 B b (.pointer (some ⟨b, 0, none⟩)) [] w' ∧ Below B w w') := Any.Builder_Grow_fresh Tryd.lays165 Tryd.Builder_Extra_165 B b n w hB hbk hBw hn
def Tryd.lays146_ren : Go.Shelf.Ren := ⟨fun | 146 => 49 | 221 => 56 | 268 => 59 | 138 => 60 | 143 => 61 | 195 => 62 | 197 => 63 | 218 => 64 | 219 => 65 | 260 => 66 | 217 => 67 | 225 => 68 | 224 => 69 | 267 => 70 | 266 => 71 | 314 => 72 | n => n, fun | 9 => 9 | 31 => 29 | 3 => 3 | 4 => 4 | 0 => 0 | 105 => 104 | 21 => 21 | 5 => 5 | 46 => 91 | 119 => 108 | 139 => 111 | 138 => 110 | 146 => 112 | 51 => 90 | n => n, fun | 1 => 1 | 3 => 2 | 4 => 3 | n => n⟩
theorem Tryd.lays146 : Go.Proofs.Lays.n146 Tryd.prog Tryd.lays146_ren := {
  mixed := by kernel_rfl
  f138 := Tryd.func60.trans (congrArg some (by kernel_rfl))
  f143 := Tryd.func61.trans (congrArg some (by kernel_rfl))
  f146 := Tryd.func49.trans (congrArg some (by kernel_rfl))
  f195 := Tryd.func62.trans (congrArg some (by kernel_rfl))
  f197 := Tryd.func63.trans (congrArg some (by kernel_rfl))
  f217 := Tryd.func67.trans (congrArg some (by kernel_rfl))
  f218 := Tryd.func64.trans (congrArg some (by kernel_rfl))
  f219 := Tryd.func65.trans (congrArg some (by kernel_rfl))
  f221 := Tryd.func56.trans (congrArg some (by kernel_rfl))
  f224 := Tryd.func69.trans (congrArg some (by kernel_rfl))
  f225 := Tryd.func68.trans (congrArg some (by kernel_rfl))
  f260 := Tryd.func66.trans (congrArg some (by kernel_rfl))
  f266 := Tryd.func71.trans (congrArg some (by kernel_rfl))
  f267 := Tryd.func70.trans (congrArg some (by kernel_rfl))
  f268 := Tryd.func59.trans (congrArg some (by kernel_rfl))
  f314 := Tryd.func72.trans (congrArg some (by kernel_rfl))
  t0 := Tryd.underlying0
  a0 := Tryd.isAgg0
  z0 := Tryd.sizeOf0
  v0 := Tryd.zeroValue0
  t3 := Tryd.underlying3
  a3 := Tryd.isAgg3
  z3 := Tryd.sizeOf3
  v3 := Tryd.zeroValue3
  t4 := Tryd.underlying4
  a4 := Tryd.isAgg4
  z4 := Tryd.sizeOf4
  v4 := Tryd.zeroValue4
  t5 := Tryd.underlying5
  a5 := Tryd.isAgg5
  z5 := Tryd.sizeOf5
  v5 := Tryd.zeroValue5
  t9 := Tryd.underlying9
  a9 := Tryd.isAgg9
  z9 := Tryd.sizeOf9
  v9 := Tryd.zeroValue9
  t21 := Tryd.underlying21
  a21 := Tryd.isAgg21
  z21 := Tryd.sizeOf21
  v21 := Tryd.zeroValue21
  t31 := Tryd.underlying29
  a31 := Tryd.isAgg29
  z31 := Tryd.sizeOf29
  v31 := Tryd.zeroValue29
  t46 := Tryd.underlying91
  a46 := Tryd.isAgg91
  z46 := Tryd.sizeOf91
  v46 := Tryd.zeroValue91
  t51 := Tryd.underlying90
  a51 := Tryd.isAgg90
  z51 := Tryd.sizeOf90
  v51 := Tryd.zeroValue90
  t105 := Tryd.underlying104
  a105 := Tryd.isAgg104
  z105 := Tryd.sizeOf104
  v105 := Tryd.zeroValue104
  t119 := Tryd.underlying108
  a119 := Tryd.isAgg108
  z119 := Tryd.sizeOf108
  t138 := Tryd.underlying110
  a138 := Tryd.isAgg110
  z138 := Tryd.sizeOf110
  v138 := Tryd.zeroValue110
  t139 := Tryd.underlying111
  a139 := Tryd.isAgg111
  z139 := Tryd.sizeOf111
  v139 := Tryd.zeroValue111
  t146 := Tryd.underlying112
  a146 := Tryd.isAgg112
  z146 := Tryd.sizeOf112
  v146 := Tryd.zeroValue112
  g1 := by kernel_rfl
  g3 := by kernel_rfl
  g4 := by kernel_rfl }
open Go.RowKit Go.Lib in
theorem Tryd.strings_Split (s sep : ByteArray) (m : Int) (w : World) (hs : s.size < 4294967281) (hm : w.cell? ⟨1, 0, none⟩ = some (.int .i64 m)) (h1 : 1 ≤ sep.size) :
    Calls Tryd.prog 49 #[.string s, .string sep] w fun e w' =>
      e = .returned (.slice (some ⟨w.heap.size, 0, none⟩) (Lib.countB s sep + 1) (Lib.countB s sep + 1)) ∧ w' = w.alloc (.cells ((Lib.splitB sep 0 (Lib.countB s sep) s).map Value.string).toArray 9) := Any.strings_Split Tryd.lays146 (by kernel_rfl) s sep m w hs hm h1
end Go.Proofs
namespace Go.Proofs.YtcifcipjndiegaaDoor
open Go.ChangeShapes Go.WideShapes Go.ChangeAt Go.RowKit
set_option linter.unusedVariables false
theorem sizeBuilder : (Tryd.prog.info? 79).map (·.size) = some 2 := by kernel_rfl
theorem infoByte : (Tryd.prog.info? 5).map (fun i => (i.zero, i.size, i.bytes)) = some (some (.int .u8 0), 1, 1) := by kernel_rfl
set_option maxHeartbeats 1000000 in
set_option maxRecDepth 100000 in
theorem copyCheck_used (b : Nat) (w : World) (h0 : w.cell? ⟨b, 0, none⟩ = some (.pointer (some ⟨b, 0, none⟩))) :
    Calls Tryd.prog 52 #[.pointer (some ⟨b, 0, none⟩)] w fun e w' => e = .returned (.tuple #[]) ∧ w = w' := by
  obtain ⟨j, hj, _⟩ := Option.map_eq_some_iff.1 sizeBuilder
  go_enter Tryd.func52, Tryd.ntmps52
  go_wp2
  rw [Lib.run_neq_ptr_same w _ Tryd.underlying77 hj]
  go_wp2
  go_end0
  exact ⟨rfl, rfl⟩
set_option maxHeartbeats 1000000 in
set_option maxRecDepth 100000 in
theorem copyCheck_fresh (b : Nat) (w : World) (h0 : w.cell? ⟨b, 0, none⟩ = some (.pointer none)) (hsh : w.shape? b = some (79, 2)) (hfz : w.frozen? ⟨b, 0, none⟩ = false) :
    Calls Tryd.prog 52 #[.pointer (some ⟨b, 0, none⟩)] w fun e w' => e = .returned (.tuple #[]) ∧ w.setCell ⟨b, 0, none⟩ (.pointer (some ⟨b, 0, none⟩)) = w' := by
  obtain ⟨j, hj, hjs⟩ := Option.map_eq_some_iff.1 sizeBuilder
  go_enter Tryd.func52, Tryd.ntmps52
  go_wp2
  rw [Lib.run_to_unsafe w ⟨b, 0, none⟩ Tryd.underlying77 Tryd.underlying99 hj (by rw [hjs]; decide) hsh (Nat.zero_lt_succ 1)]
  simp only [Result.andThen]
  rw [Oper.upon_value]
  go_wp2
  rw [run_callFunc_extern Tryd.func57 (by kernel_rfl) (by kernel_rfl) (by kernel_rfl) (e := Extern.AbiNoEscape.same) (by kernel_rfl)]
  rw [Lib.run_noEscape]
  simp only [Result.andThen]
  rw [Oper.upon_value]
  go_wp2
  rw [Lib.run_from_unsafe w ⟨b, 0, none⟩ Tryd.underlying99 Tryd.underlying77 hj hsh (by kernel_rfl)]
  simp only [Result.andThen]
  rw [Oper.upon_value]
  go_wp2
  go_end0
  exact ⟨rfl, rfl⟩
open Go.Shelf
set_option linter.unusedSimpArgs false
def bldG (T e : TypeId) (base b : Nat) (v : Value) (bs : List UInt8) : HB :=
  ⟨fun k => k = b ∨ v.ownBlock = some k, fun w => base ≤ b ∧ (∃ p, (p = .pointer none ∨ p = .pointer (some ⟨b, 0, none⟩)) ∧ w.heap[b]? = some (.cells #[p, v] T (0, 0))) ∧ w.ownsRowF base e 1 v bs.length (Lib.byteCells bs) ∧ v.ownBlock ≠ some b, true, none, fun _ _ h => by cases h⟩
abbrev bldR (base b : Nat) (v : Value) (bs : List UInt8) : HB := bldG 79 5 base b v bs
theorem ownF_keep {w1 w2 : World} {base : Nat} {e : TypeId} {size n : Nat} {v : Value} {xs : List Value} (h : w1.ownsRowF base e size v n xs) (hk : ∀ k, v.ownBlock = some k → w2.heap[k]? = w1.heap[k]?) : w2.ownsRowF base e size v n xs := by
  refine ⟨h.1, ?_⟩
  rcases h.2 with h2 | ⟨g, cap, cur, fz, hv, hb, hg, r⟩
  · exact .inl h2
  · exact .inr ⟨g, cap, cur, fz, hv, hb, (hk g (by rw [hv]; rfl)).trans hg, r⟩
theorem bldG_ok (T e : TypeId) (base b : Nat) (v : Value) (bs : List UInt8) : (bldG T e base b v bs).ok := fun w1 w2 h hk _ => by
  obtain ⟨h1, ⟨p, hp, hb⟩, h3, h4⟩ := h
  exact ⟨h1, ⟨p, hp, (hk b (.inl rfl)).trans hb⟩, ownF_keep h3 fun k hv => hk k (.inr hv), h4⟩
theorem bldG_lt {T e : TypeId} {base b : Nat} {v : Value} {bs : List UInt8} {w : World} (h : (bldG T e base b v bs).F w) : ∀ k, (bldG T e base b v bs).fp k → k < w.heap.size := by
  obtain ⟨h1, ⟨p, hp, hb⟩, h3, h4⟩ := h
  intro k hk
  rcases hk with rfl | hk
  · exact (Array.getElem?_eq_some_iff.1 hb).1
  · exact (h3.lt k hk).2
theorem Hp.wrote {w0 w w' : World} {L : List HB} {K : List FK} (H : Hp w0 w L K) (i : Nat) {T e : TypeId} {b : Nat} {v v' : Value} {bs bs' : List UInt8} (hi : L[i]? = some (bldG T e w0.heap.size b v bs)) (L' : List HB) (hL : L.set i (bldG T e w0.heap.size b v' bs') = L') (hF : (bldG T e w0.heap.size b v' bs').F w') (hag : Agree w w' (bldG T e w0.heap.size b v bs).fp) (hv : ∀ k, v'.ownBlock = some k → v.ownBlock = some k ∨ w.heap.size ≤ k) : Hp w0 w' L' K := by
  refine H.mut i hi _ L' hL hag hF (bldG_ok _ _ _ _ _ _) (bldG_lt hF) (fun k hk => ?_) (fun k hk hx => ?_) rfl
  · rcases hk with rfl | hk
    · exact .inl (.inl rfl)
    · rcases hv k hk with h | h
      · exact .inl (.inr h)
      · exact .inr h
  · have := H.fresh _ (List.mem_of_getElem? hi) rfl k hx
    omega
section
variable {P : Program} (w : World)
theorem run_append_strF (base : Nat) (t u ty e : TypeId) (i : TypeInfo) (ht : P.underlying t = some (.slice e)) (hu : P.underlying u = some .string) (hi : P.info? e = some i) (hz : i.zero = some (.int .u8 0))
    (hsize : i.size = 1) (hby : i.bytes = 1)
    (v : Value) (n : Nat) (xs : List Value) (hown : w.ownsRowF base e 1 v n xs) (s : ByteArray)
    (h63 : n + s.size ≤ maxLen) (hbytes : n + s.size ≤ 140737488355328) (hbase : base ≤ w.heap.size) :
    ∃ v' w', (Builtin.append_ #[t, u] ty #[v, .string s]).run P w = .ok v' w' ∧ w'.ownsRowF base e 1 v' (n + s.size) (xs ++ Lib.strCells s) ∧ w.grownBy w' v.ownBlock ∧ ∀ k, v'.ownBlock = some k → v.ownBlock = some k ∨ w.heap.size ≤ k := by
  rcases hown.2 with ⟨rfl, rfl⟩ | ⟨g, cap, cur, fz, rfl, hbg, hg, hfz, hnc, hcm, hcs, htake⟩
  · obtain ⟨v', w', h1, h2, h3, h4⟩ := Lib.run_append_own_stringF (P := P) w w.heap.size t u ty e i ht hu hi hz hsize hby (.slice none 0 0) 0 xs ⟨hown.1, .inl ⟨rfl, rfl⟩⟩ s h63 hbytes (Nat.le_refl _)
    refine ⟨v', w', h1, ⟨h2.1, ?_⟩, h3, fun k hk => .inr (h2.lt k hk).1⟩
    rcases h2.2 with h2 | ⟨g, cap, cur, fz, hv, hb, r⟩
    · exact .inl h2
    · exact .inr ⟨g, cap, cur, fz, hv, Nat.le_trans hbase hb, r⟩
  · have hsmall : n + s.size ≤ 9223372036854775807 := by simp only [maxLen] at h63; omega
    have hxl : xs.length = n := by simpa using hown.1
    have hlen : (xs ++ Lib.strCells s).length = (n + s.size) * 1 := by rw [List.length_append, hxl, Lib.strCells_length, Nat.mul_one]
    by_cases hroom : n + s.size ≤ cap
    · have hcs' : cur.size = cap := by simpa using hcs
      have hr := Lib.run_append_room_stringF (P := P) w t u ty e i ht hu hi hsize g n cap cur fz hg (by simpa using hfz) s hroom (by omega)
      refine ⟨_, _, hr, ⟨hlen, .inr ⟨g, cap, _, fz, rfl, hbg, setRow_heap w g cur _ e _ hg, by omega, hroom, hcm, ?_, ?_⟩⟩, ⟨rfl, rfl, rfl, by simp, fun k _ hk => setRow_other w g k _ (fun e => hk (by simp [Value.ownBlock, e]))⟩, fun k hk => .inl hk⟩
      · simp only [List.size_toArray, List.length_append, List.length_take, List.length_drop, Array.length_toList, Lib.strCells_length]
        omega
      · have ht' : cur.toList.take n = xs := by simpa using htake
        rw [ht', ← hlen]
        exact List.take_left
    · have holds : ∀ j u, xs[j]? = some u → w.cell? ((⟨g, 0, none⟩ : Addr).add j) = some u := hown.cells (g := g) rfl
      have hr := Lib.run_append_grow_string (P := P) w t u ty e i (.int .u8 0) ht hu hi hz ⟨g, 0, none⟩ n cap xs (by rw [hsize]; simpa using hxl) holds s (by omega) (by omega) (by rw [hby]; exact growslice_fits (by omega) (by omega))
      have hge := grownCap_ge w (n + s.size) cap e
      have hcm2 : grownCap w (n + s.size) cap e ≤ maxLen := grownCap_le_maxLen w (n + s.size) cap e h63
      refine ⟨_, _, hr, ⟨hlen, .inr ⟨w.heap.size, _, _, (0, 0), rfl, hbase, heap_alloc_new w.drew _, Nat.zero_le _, hge, hcm2, ?_, ?_⟩⟩, ⟨rfl, rfl, rfl, by simp, fun k hk _ => heap_alloc_old w.drew _ hk⟩, fun k hk => .inr (by cases hk; exact Nat.le_refl _)⟩
      · have hz1 : (Value.int IntKind.u8 0).cells.size = 1 := rfl
        simp only [Array.size_append, List.size_toArray, size_zeroCells, hz1, hxl, Lib.strCells_length]
        omega
      · simp only [Array.toList_append, List.append_assoc]
        rw [← List.append_assoc, ← hlen]
        exact List.take_left
theorem wpList_append_strF {ops : Array Oper} {rest : List Oper} {o : Oper} {a : Act} {Q : Exit → Act → World → Prop} (hgd : o.guard = none) (sl x : Operand) (t u : TypeId)
    (ho : o.op = .call { callee := .builtin .append, args := #[sl, x], argTypes := #[t, u] })
    (base : Nat) (e : TypeId) (i : TypeInfo) (ht : P.underlying t = some (.slice e)) (hu : P.underlying u = some .string) (hi : P.info? e = some i) (hz : i.zero = some (.int .u8 0))
    (hsize : i.size = 1) (hby : i.bytes = 1)
    (v : Value) (n : Nat) (xs : List Value) (hs : a.eval sl = v) (hown : w.ownsRowF base e 1 v n xs) (s : ByteArray) (hx : a.eval x = .string s)
    (h63 : n + s.size ≤ maxLen) (hbytes : n + s.size ≤ 140737488355328) (hbase : base ≤ w.heap.size)
    (h : ∀ v' w', w'.ownsRowF base e 1 v' (n + s.size) (xs ++ Lib.strCells s) → w.grownBy w' v.ownBlock → (∀ k, v'.ownBlock = some k → v.ownBlock = some k ∨ w.heap.size ≤ k) → wpList P ops Q rest (a.put o.dst v') w') : wpList P ops Q (o :: rest) a w := by
  refine wpList_plain hgd fun K hK => ?_
  obtain ⟨v', w', hr, h2, h3, h4⟩ := run_append_strF (P := P) w base t u o.type e i ht hu hi hz hsize hby v n xs hown s h63 hbytes hbase
  unfold Oper.wp execOp
  simp only [ho, resolve, invoke, builtin, Sem.run_bind, Sem.run_pure, Result.andThen_ok, List.map_toArray, List.map_cons, List.map_nil, hs, hx, hr]
  exact hK _ _ (h v' w' h2 h3 h4)
end
theorem byteCells_append (a b : List UInt8) : Lib.byteCells (a ++ b) = Lib.byteCells a ++ Lib.byteCells b := by simp [Lib.byteCells]
theorem strCells_bstr (s : List UInt8) : Lib.strCells (bstr s) = Lib.byteCells s := by
  simp [Lib.strCells, Lib.byteCells]
set_option maxHeartbeats 2000000 in
set_option maxRecDepth 100000 in
theorem copyCheckF (b : Nat) (p v : Value) (w : World) (hp : p = .pointer none ∨ p = .pointer (some ⟨b, 0, none⟩)) (hbk : w.heap[b]? = some (.cells #[p, v] 79 (0, 0))) :
    Calls Tryd.prog 52 #[.pointer (some ⟨b, 0, none⟩)] w fun e w' => e = .returned (.tuple #[]) ∧ w'.heap[b]? = some (.cells #[.pointer (some ⟨b, 0, none⟩), v] 79 (0, 0)) ∧ Agree w w' (fun k => k = b) ∧ w'.heap.size = w.heap.size := by
  have hx : Box w b 79 #[p, v] := hbk
  rcases hp with rfl | rfl
  · refine (copyCheck_fresh b w (hx.cell rfl) (by simp [World.shape?, hbk]) (hx.frozen 0)).mono ?_
    rintro e w' ⟨rfl, rfl⟩
    exact ⟨rfl, by have := hx.set (i := 0) (.pointer (some ⟨b, 0, none⟩)); simp at this; exact this, ⟨rfl, rfl, rfl, by simp [World.setCell], fun k _ hk => Below.heap_setCell _ _ _ _ hk⟩, by simp [World.setCell]⟩
  · refine (copyCheck_used b w (hx.cell rfl)).mono ?_
    rintro e w' ⟨rfl, rfl⟩
    exact ⟨rfl, hbk, ⟨rfl, rfl, rfl, Nat.le_refl _, fun _ _ _ => rfl⟩, rfl⟩
set_option maxHeartbeats 2000000 in
set_option maxRecDepth 100000 in
theorem writeStr_any (base b : Nat) (v : Value) (bs s : List UInt8) (w : World) (h : (bldR base b v bs).F w) (hlen : bs.length + s.length ≤ 140737488355328) (hbase : base ≤ w.heap.size) :
    Calls Tryd.prog 42 #[.pointer (some ⟨b, 0, none⟩), .string (bstr s)] w fun e w' => e = .returned (.tuple #[.int .i64 s.length, .nilIface]) ∧ ∃ v', (bldR base b v' (bs ++ s)).F w' ∧ Agree w w' (bldR base b v bs).fp ∧ ∀ k, v'.ownBlock = some k → v.ownBlock = some k ∨ w.heap.size ≤ k := by
  obtain ⟨hB, ⟨p, hp, hbk⟩, hown, hne⟩ := h
  obtain ⟨i0, hi, hz0, hz1, hz2⟩ := info_parts infoByte
  have hlt : b < w.heap.size := (Array.getElem?_eq_some_iff.1 hbk).1
  go_enter Tryd.func42, Tryd.ntmps42
  go_wp2_with fail
  refine (copyCheckF b p v _ hp hbk).mono ?_
  rintro e w1 ⟨rfl, hb1, ha1, hs1⟩
  have hown1 : w1.ownsRowF base 5 1 v bs.length (Lib.byteCells bs) := ownF_keep hown fun k hk => ha1.block k (hown.lt k hk).2 (fun e => hne (by rw [hk, e]))
  have c0 : w1.cell? ⟨b, 0, none⟩ = some (.pointer (some ⟨b, 0, none⟩)) := by rw [Lib.cell_of_heap hb1]; rfl
  have c1 : w1.cell? ⟨b, 1, none⟩ = some v := by rw [Lib.cell_of_heap hb1]; rfl
  go_wp2_with (at_builtin; refine wpList_append_strF _ rfl _ _ 58 9 rfl base 5 i0 Tryd.underlying58 Tryd.underlying9 hi hz0 hz1 hz2 _ _ _ rfl hown1 (bstr s) rfl ?c3 ?c4 ?c5 ?_)
  case c3 => rw [bstr_size]; unfold maxLen; omega
  case c4 => rw [bstr_size]; exact hlen
  case c5 => omega
  intro v' w2 hown' hgrow hat
  have hlt1 : b < w1.heap.size := by omega
  have hb2 : w2.heap[b]? = some (.cells #[.pointer (some ⟨b, 0, none⟩), v] 79 (0, 0)) := by
    rw [hgrow.block b hlt1 (fun e => hne e.symm)]
    exact hb1
  have d0 : w2.cell? ⟨b, 0, none⟩ = some (.pointer (some ⟨b, 0, none⟩)) := by rw [Lib.cell_of_heap hb2]; rfl
  have d1 : w2.cell? ⟨b, 1, none⟩ = some v := by rw [Lib.cell_of_heap hb2]; rfl
  have f1 : w2.frozen? ⟨b, 1, none⟩ = false := Lib.frozen_of_heap hb2 1
  have hvb : v'.ownBlock ≠ some b := fun e => by
    rcases hat b e with h | h
    · exact hne h
    · omega
  obtain ⟨ao, n', cap, rfl⟩ : ∃ ao n' cap, v' = .slice ao n' cap := by
    rcases hown'.2 with ⟨hv, _⟩ | ⟨g, cap, cur, fz, hv, _⟩
    · exact ⟨_, _, _, hv⟩
    · exact ⟨_, _, _, hv⟩
  go_wp2
  go_ret2
  have hx2 : Box w2 b 79 #[.pointer (some ⟨b, 0, none⟩), v] := hb2
  refine ⟨rfl, _, ⟨hB, ⟨_, .inr rfl, by have := hx2.set (i := 1) (.slice ao n' cap); simp at this; exact this⟩, ownF_keep (w1 := w2) ?_ fun k hk => Below.heap_setCell _ _ _ _ (fun e => hvb (by rw [hk, e])), hvb⟩, ⟨?_, ?_, ?_, ?_, fun k hk hf => ?_⟩, fun k hk => ?_⟩
  · rw [byteCells_append, List.length_append]
    rw [strCells_bstr] at hown'
    exact hown'
  · exact hgrow.os.trans ha1.os
  · exact hgrow.tape.trans ha1.tape
  · exact hgrow.output.trans ha1.output
  · have := hgrow.size; simp [World.setCell]; omega
  · rw [Below.heap_setCell _ _ _ _ (fun e => hf (.inl e)), hgrow.block k (by omega) (fun e => hf (.inr e.symm)), ha1.block k hk (fun e => hf (.inl e))]
  · rcases hat k hk with h | h
    · exact .inl h
    · exact .inr (by omega)
set_option maxHeartbeats 2000000 in
set_option maxRecDepth 100000 in
theorem strG_any {P : Program} {ρ : Ren} (L : Lays.n169 P ρ) (X : Builder.Extra P ρ) (base b : Nat) (v : Value) (l : List UInt8) (w : World) (h : (bldG (ρ.t 72) (ρ.t 5) base b v l).F w) (h0 : l ≠ []) :
    Calls P (ρ.f 169) #[.pointer (some ⟨b, 0, none⟩)] w fun e w' => e = .returned (.string (bstr l)) ∧ (bldG (ρ.t 72) (ρ.t 5) base b v l).F w' ∧ Agree w w' (bldG (ρ.t 72) (ρ.t 5) base b v l).fp := by
  obtain ⟨hB, ⟨p, hp, hbk⟩, hown, hne⟩ := h
  have hl0 : l.length ≠ 0 := by simpa using h0
  obtain ⟨g, cap, cur, fz, rfl, hbg, hg, hfz, hnc, hcm, hcs, htake⟩ : ∃ g cap cur fz, v = .slice (some ⟨g, 0, none⟩) l.length cap ∧ base ≤ g ∧ w.heap[g]? = some (.cells cur (ρ.t 5) fz) ∧ fz.2 ≤ l.length * 1 ∧ l.length ≤ cap ∧ cap ≤ maxLen ∧ cur.size = cap * 1 ∧ cur.toList.take (l.length * 1) = Lib.byteCells l := by
    rcases hown.2 with ⟨_, hz⟩ | ⟨g, cap, cur, fz, hv, r⟩
    · exact absurd hz hl0
    · exact ⟨g, cap, cur, fz, hv, r⟩
  have c1 : w.drew.cell? ⟨b, 1, none⟩ = some (.slice (some ⟨g, 0, none⟩) l.length cap) := by
    have : w.drew.heap[b]? = some (.cells #[p, .slice (some ⟨g, 0, none⟩) l.length cap] (ρ.t 72) (0, 0)) := hbk
    rw [Lib.cell_of_heap this]; rfl
  have hSD : (Builtin.unsafeSliceData_ #[(ρ.t 37)] (ρ.t 127) #[.slice (some ⟨g, 0, none⟩) l.length cap]).run P w.drew = .ok (.pointer (some ⟨g, 0, none⟩)) w.drew :=
    Lib.run_unsafeSliceData_row _ _ _ _ _ _ (by omega)
  have hUS : (Builtin.unsafeString_ #[(ρ.t 127), (ρ.t 3)] (ρ.t 9) #[.pointer (some ⟨g, 0, none⟩), .int .i64 l.length]).run P w.drew = .ok (.string ⟨l.toArray⟩) (w.drew.freeze ⟨g, 0, none⟩ l.length) := by
    refine Lib.run_unsafeString_row w.drew (ρ.t 127) (ρ.t 3) (ρ.t 9) (ρ.t 5) L.t127 X.cellsByte g cur.size (by have hg' : w.drew.heap[g]? = some (.cells cur (ρ.t 5) fz) := hg; simp [World.shape?, hg']) l h0 (by omega) (by unfold maxLen at hcm; omega) ?_
    intro j x hx
    have := hown.cells (g := g) rfl j (.int .u8 x.toNat) (by simp [Lib.byteCells, hx])
    exact this
  have hA : Lib.BuilderAtF (ρ.t 72) (ρ.t 5) base b p (Lib.byteCells l) w.drew := ⟨hB, _, hbk, by rw [Lib.byteCells_length]; exact hown, hne⟩
  have hF := hA.froze (g := g) (cap := cap) (by rw [Lib.byteCells_length]; exact c1)
  rw [Lib.byteCells_length] at hF
  have hgb : b ≠ g := fun e => hne (by rw [e]; rfl)
  have hother : ∀ k, k ≠ g → (w.drew.freeze ⟨g, 0, none⟩ l.length).heap[k]? = w.heap[k]? := by
    intro k hk
    unfold World.freeze
    rw [if_neg hl0]
    simp only [Array.getElem?_modify]
    rw [if_neg (fun e => hk e.symm)]
    rfl
  have hkeep : (bldG (ρ.t 72) (ρ.t 5) base b (.slice (some ⟨g, 0, none⟩) l.length cap) l).F (w.drew.freeze ⟨g, 0, none⟩ l.length) := by
    obtain ⟨_, v2, hb2, hown2, hne2⟩ := hF
    have e : v2 = .slice (some ⟨g, 0, none⟩) l.length cap := by
      rw [hother b hgb, hbk] at hb2
      simp at hb2
      exact hb2.symm
    subst e
    rw [Lib.byteCells_length] at hown2
    exact ⟨hB, ⟨p, hp, hb2⟩, hown2, hne2⟩
  have hag : Agree w (w.drew.freeze ⟨g, 0, none⟩ l.length) (bldG (ρ.t 72) (ρ.t 5) base b (.slice (some ⟨g, 0, none⟩) l.length cap) l).fp := by
    have hb := Lib.below_freeze (Below.drew (Below.refl 0 w)) (p := ⟨g, 0, none⟩) (Nat.zero_le _) l.length
    exact ⟨hb.os, hb.tape, hb.output, hb.size, fun k hk hf => hother k fun e => hf (.inr (by rw [e]; rfl))⟩
  have mixed := L.mixed
  have t72 := L.t72; have a72 := L.a72; have z72 := L.z72; have v72 := L.v72; have u72 := run_underlying L.t72
  have t70 := L.t70; have a70 := L.a70; have z70 := L.z70; have v70 := L.v70; have u70 := run_underlying L.t70
  have t37 := L.t37; have a37 := L.a37; have z37 := L.z37; have v37 := L.v37; have u37 := run_underlying L.t37
  have t127 := L.t127; have a127 := L.a127; have z127 := L.z127; have v127 := L.v127; have u127 := run_underlying L.t127
  have t3 := L.t3; have a3 := L.a3; have z3 := L.z3; have v3 := L.v3; have u3 := run_underlying L.t3
  have t9 := L.t9; have a9 := L.a9; have z9 := L.z9; have v9 := L.v9; have u9 := run_underlying L.t9
  have t5 := X.t5; have a5 := X.a5; have z5 := X.z5; have v5 := X.v5; have u5 := run_underlying X.t5
  go_enter L.f169, Body.n169_ntmps ρ
  go_wp2
  go_region_o
  all_goals (go_wp2; go_ret; exact ⟨rfl, hkeep, hag⟩)
theorem str_any (base b : Nat) (v : Value) (l : List UInt8) (w : World) (h : (bldR base b v l).F w) (h0 : l ≠ []) :
    Calls Tryd.prog 43 #[.pointer (some ⟨b, 0, none⟩)] w fun e w' => e = .returned (.string (bstr l)) ∧ (bldR base b v l).F w' ∧ Agree w w' (bldR base b v l).fp :=
  strG_any Tryd.lays169 Tryd.Builder_Extra_169 base b v l w h h0
def bytesB (b : Nat) (e : TypeId) (l : List UInt8) (cap : Nat) : HB :=
  ⟨fun k => k = b, fun w => w.heap[b]? = some (.cells (Lib.byteCells l ++ List.replicate (cap - l.length) (Value.int IntKind.u8 0)).toArray e (l.length + (cap - l.length), l.length + (cap - l.length) + 1)), true, none, fun _ _ h => by cases h⟩
theorem bytesB_ok (b : Nat) (e : TypeId) (l : List UInt8) (cap : Nat) : (bytesB b e l cap).ok := fun _ _ h hk _ => (hk b rfl).trans h
theorem byteCells_one (l : List UInt8) : ∀ v ∈ Lib.byteCells l, one v = true := by
  intro v hv
  simp only [Lib.byteCells, List.mem_map] at hv
  obtain ⟨a, _, rfl⟩ := hv
  rfl
theorem run_storeZ (P : Program) (g o : Nat) (t : TypeId) (fz : Nat × Nat) : ∀ (vs : List Value) (i : Nat) (cur : Array Value) (w : World), w.heap[g]? = some (.cells cur t fz) → o + i + vs.length ≤ fz.1 → o + i + vs.length ≤ cur.size → (∀ v ∈ vs, one v = true) →
    (storeCells ⟨g, o, none⟩ vs i).run P w = .ok () (w.setRow g (cur.toList.take (o + i) ++ vs ++ cur.toList.drop (o + i + vs.length)).toArray)
  | [], i, cur, w, hg, _, _, _ => by
    simp only [storeCells, List.append_nil, List.length_nil, Nat.add_zero, List.take_append_drop, Array.toArray_toList]
    rw [setRow_self w g cur t fz hg]
    rfl
  | v :: rest, i, cur, w, hg, hfz, hl, h1 => by
    have hi : o + i < cur.size := by simp at hl; omega
    have hadd : (⟨g, o, none⟩ : Addr).add i = ⟨g, o + i, none⟩ := add_plain g o i
    have hcell : w.cell? ⟨g, o + i, none⟩ = some cur[o + i] := by simp [World.cell?, hg, hi]
    have hfro : w.frozen? ⟨g, o + i, none⟩ = false := by
      obtain ⟨lo, hi'⟩ := fz
      simp only [World.frozen?, hg, Bool.and_eq_false_iff, decide_eq_false_iff_not]
      left
      simp only [List.length_cons] at hfz
      omega
    have hst : (store ((⟨g, o, none⟩ : Addr).add i) v).run P w = .ok () (w.setRow g (cur.setIfInBounds (o + i) v)) := by
      rw [hadd, Go.Proofs.YtcifcipjndiegaaDoor.run_store (h1 v (List.mem_cons_self ..)) hcell hfro, setCell_eq_setRow w g (o + i) cur t fz v hg]
    have ih := run_storeZ P g o t fz rest (i + 1) (cur.setIfInBounds (o + i) v) (w.setRow g (cur.setIfInBounds (o + i) v)) (setRow_heap w g cur _ t _ hg) (by simp only [List.length_cons] at hfz; omega) (by simp at hl ⊢; omega) (fun x hx => h1 x (List.mem_cons_of_mem _ hx))
    simp only [storeCells, Sem.run_bind, hst, Result.andThen_ok, ih, setRow_setRow]
    congr 3
    have e := list_seg_step cur.toList (o + i) v rest (by simp at hl ⊢; omega)
    simpa [Array.toList_setIfInBounds, Nat.add_assoc] using e
def over (l : List UInt8) (o : Nat) (s : List UInt8) : List UInt8 := l.take o ++ s ++ l.drop (o + s.length)
theorem ex_sliceLH {P : Program} {ρ : Operand → Value} {w : World} {t : TypeId} {x y z : Operand} {dst : Option Tmp} {ty : TypeId} {pos : String} {af : Array Edge} {g : Option (Nat × Bool)} {b off len cap i j : Nat} {lo hi : Int} (hx : ρ x = .slice (some ⟨b, off, none⟩) len cap) (hy : ρ y = .int .i64 lo) (hz : ρ z = .int .i64 hi) (hu : P.underlying t = some (.slice (P.elem t))) (hs : sizeB P (P.elem t) = some 1)
    (h1 : lo = (i : Int)) (h2 : hi = (j : Int)) (h3 : i ≤ j) (h4 : j ≤ cap) (h5 : i < cap) :
    (execOp ρ ⟨dst, .slice t x (some y) (some z) none, ty, pos, af, g⟩).run P w = .ok (.value (.slice (some ⟨b, off + i, none⟩) (j - i) (cap - i))) w := by
  subst h1 h2
  have e : sliced (some ⟨b, off, none⟩) i j cap 1 = .slice (some ⟨b, off + i, none⟩) (j - i) (cap - i) := by
    unfold sliced
    rw [if_neg (by omega), Option.map_some, add_plain, Nat.mul_one]
  simp only [execOp, hx, hy, hz, Option.map_none, Option.map_some, run_sliceAt_slice w t _ _ _ _ hu, run_slice_lh w t (some ⟨b, off, none⟩) len cap hu .i64 .i64 (i : Int) (j : Int) (by omega) (by omega) (by omega), run_sizeOf hs, Sem.run_bind, Result.andThen_ok, Sem.run_pure, Int.toNat_natCast, e]
section
variable {P : Program} {ops : Array Oper} {Q : Exit → Act → World → Prop} {a : Act} {w0 w : World} {rest : List Oper} {n : Nat} {L : List (Nat × Value)} {LH : List HB} {K : List FK} {ty e : TypeId} {pos : String} {af : Array Edge} {g : Option (Nat × Bool)}
theorem Sl.s2b (H : Sl n L a) (HP : Hp w0 w LH K) (d : Nat) (l : List UInt8) {src td : TypeId} {x : Operand} (hc : chk ops n L ⟨some d, .convert src td x, ty, pos, af, g⟩ d = true) (hx : ev L x = .string (bstr l))
    (hs : P.underlying src = some .string) (hd : P.underlying td = some (.slice e)) (he : P.underlying e = some (.int .u8))
    (k : ∀ b cap w' a', l.length ≤ cap → Sl n ((d, .slice (some ⟨b, 0, none⟩) l.length cap) :: L) a' → Hp w0 w' (bytesB b e l cap :: LH) K → wpList P ops Q rest a' w') :
    wpList P ops Q (⟨some d, .convert src td x, ty, pos, af, g⟩ :: rest) a w := by
  have hr := run_bytes_of_string (P := P) w src td e (bstr l) hs hd he
  obtain ⟨cap, hcap⟩ : ∃ c, grownCap w (bstr l).size 0 e = c := ⟨_, rfl⟩
  have hge : l.length ≤ cap := by rw [← hcap]; exact grownCap_ge w (bstr l).size 0 e
  rw [hcap] at hr
  have e1 : bytesRow (bstr l) cap = (Lib.byteCells l ++ List.replicate (cap - l.length) (Value.int IntKind.u8 0)).toArray := by
    simp [bytesRow, Lib.byteCells, bstr, ByteArray.size]
  rw [e1] at hr
  have e2 : (Lib.byteCells l ++ List.replicate (cap - l.length) (Value.int IntKind.u8 0)).toArray.size = l.length + (cap - l.length) := by simp [byteCells_len]
  rw [e2] at hr
  refine H.valW d _ hc (by simp only [execOp, hx, Sem.run_bind, hr, Result.andThen_ok, Sem.run_pure]; rfl) fun a' H' => ?_
  refine k _ _ _ a' hge H' (HP.gain (((Below.refl _ w).drew).alloc (by simp) _) _ ?_ (bytesB_ok _ _ _ _) (fun k hk => ?_) (fun k hk => by cases hk; exact Nat.le_refl _))
  · exact heap_alloc_new w.drew _
  · cases hk; simp
end
def ownR (base : Nat) (e : TypeId) (v : Value) (xs : List Value) : HB := ⟨fun k => v.ownBlock = some k, fun w => w.ownsRow base e 1 v xs.length xs, true, none, fun _ _ h => by cases h⟩
theorem ownR_ok (base : Nat) (e : TypeId) (v : Value) (xs : List Value) : (ownR base e v xs).ok := fun w1 w2 h hk _ => own_keep h fun k hv => hk k hv
theorem Hp.nilR {w0 w : World} {L : List HB} {K : List FK} (H : Hp w0 w L K) (e : TypeId) : Hp w0 w (ownR w0.heap.size e (.slice none 0 0) [] :: L) K :=
  H.add _ (World.ownsRow_nil _ _ _ _) (ownR_ok _ _ _ _) (fun k (hk : none = some k) => by cases hk) (fun k (hk : none = some k) => by cases hk) (fun _ k (hk : none = some k) => by cases hk)
theorem ownR_rd {w : World} {base e n c : Nat} {B : Option Addr} {xs : List Value} (h : (ownR base e (.slice B n c) xs).F w) : Rd w 1 B xs.length xs := by
  have hn : n = xs.length := by
    rcases h.2 with ⟨h2, h3⟩ | ⟨g, cap, cur, hv, _⟩
    · cases h2; exact h3.symm
    · cases hv; rfl
  subst hn
  exact Rd.of_own h
theorem ownR_facts {w : World} {base e n c : Nat} {B : Option Addr} {xs : List Value} (h : (ownR base e (.slice B n c) xs).F w) : n = xs.length ∧ n ≤ c ∧ c ≤ maxLen ∧ (B = none → c = 0) := by
  have hn : n = xs.length := by
    rcases h.2 with ⟨h2, h3⟩ | ⟨g, cap, cur, hv, _⟩
    · cases h2; exact h3.symm
    · cases hv; rfl
  subst hn
  exact ⟨rfl, own_facts h⟩
theorem placed_mem {L : List HB} {x : HB} : ∀ {is : List Nat}, x ∈ placed L is → ∃ i ∈ is, L[i]? = some x
  | [], h => by cases h
  | i :: is, h => by
    simp only [placed] at h
    split at h
    · rename_i y hy
      rcases List.mem_cons.1 h with rfl | h
      · exact ⟨i, List.mem_cons_self .., hy⟩
      · obtain ⟨j, hj, e⟩ := placed_mem h; exact ⟨j, List.mem_cons_of_mem _ hj, e⟩
    · obtain ⟨j, hj, e⟩ := placed_mem h; exact ⟨j, List.mem_cons_of_mem _ hj, e⟩
def distinct : List Nat → Bool
  | [] => true
  | i :: is => !is.contains i && distinct is
theorem Hp.sub {w0 w : World} {L : List HB} {K : List FK} (H : Hp w0 w L K) (is : List Nat) (L' : List HB) (hL : placed L is = L') (hd : (distinct is && L.all fun x => x.fresh) = true) : Hp w0 w L' K := by
  subst hL
  simp only [Bool.and_eq_true] at hd
  have hmem : ∀ x ∈ placed L is, x ∈ L := fun x hx => let ⟨_, _, e⟩ := placed_mem hx; List.mem_of_getElem? e
  refine ⟨H.os, H.tape, H.output, H.size, fun k hk _ => H.old k hk fun x hx h => ?_, fun x hx => H.res x (hmem x hx), ?_, fun x hx => H.fresh x (hmem x hx), fun p hp => let ⟨h1, h2, h3⟩ := H.kept p hp; ⟨h1, h2, fun k hk => ⟨(h3 k hk).1, fun x hx => (h3 k hk).2 x (hmem x hx)⟩⟩⟩
  · have := H.fresh x hx (List.all_eq_true.1 hd.2 x hx) k h
    omega
  · have hd1 := hd.1
    clear hd hmem
    induction is with
    | nil => exact .nil
    | cons i is ih =>
      simp only [distinct, Bool.and_eq_true, Bool.not_eq_true', List.contains_eq_mem, decide_eq_false_iff_not] at hd1
      simp only [placed]
      split
      · rename_i x hx
        refine .cons (fun y hy => ?_) (ih hd1.2)
        obtain ⟨j, hj, e⟩ := placed_mem hy
        exact pairwise_at H.apart hx e fun h => hd1.1 (h ▸ hj)
      · exact ih hd1.2
section
variable {P : Program} {ops : Array Oper} {Q : Exit → Act → World → Prop} {a : Act} {w0 w : World} {rest : List Oper} {n : Nat} {L : List (Nat × Value)} {LH : List HB} {K : List FK} {ty : TypeId} {pos : String} {af : Array Edge} {g : Option (Nat × Bool)} {s x : Operand} {t : TypeId}
theorem wp_appR {KK : Act → World → Prop} {o : Oper} (H : Sl n L a) (HP : Hp w0 w LH K) (d ir : Nat) {v : Value} {xs : List Value} (e : TypeId) {z : Value} {bytes : Nat} (A : Option Addr) (m c : Nat) (news : List Value)
    (ho : o.op = .call { callee := .builtin .append, args := #[s, x], argTypes := #[t, t] }) (hc : chk ops n L o d = true) (ht : P.underlying t = some (.slice e)) (hinf : infoB P e = some (some z, 1, bytes)) (hzs : z.cells.size = 1)
    (hs : ev L s = v) (hi : LH[ir]? = some (ownR w0.heap.size e v xs)) (hx : ev L x = .slice A m c) (hA : A = none → m = 0 ∧ c = 0) (hr : Rd w 1 A m news) (h1 : oneCells news = true)
    (h63 : xs.length + m ≤ maxLen) (hbytes : (xs.length + m) * bytes ≤ 140737488355328)
    (k : ∀ B c' w' a', Sl n ((d, .slice B (xs.length + m) c') :: L) a' → Hp w0 w' (LH.set ir (ownR w0.heap.size e (.slice B (xs.length + m) c') (xs ++ news))) K → KK a' w') : o.wp P a w KK Q := by
  obtain ⟨hd, hn, hk, hs', hw⟩ := chk_spec hc
  have k1 := knowsAll_spec hk s (by rw [ho]; simp [Op.operands, Call.operands])
  have k2 := knowsAll_spec hk x (by rw [ho]; simp [Op.operands, Call.operands])
  obtain ⟨i, hi0, hi1, hi2, hi3⟩ := infoB_spec hinf
  have hF := HP.held ir hi
  have hnew : news.length = m := by have := hr.1; simpa using this
  refine wp_append_rd w s x t ho w0.heap.size e i z 1 bytes ht hi0 hi1 hi2 hi3 hzs (by omega) v xs.length xs ((H.eval k1).trans hs) hF A m c news ((H.eval k2).trans hx) hA hr (oneCells_spec h1) h63 hbytes HP.size ?_
  intro B c' w' hown hg hat
  rw [hd]
  refine k B c' w' _ (H.put _ hn) (HP.mut ir hi _ _ rfl (Agree.of_grown hg fun q e => e) ?_ (ownR_ok _ _ _ _) (fun q hq => (own_lt hown q hq).1) (fun q hq => ?_) (fun q hq hq' => ?_) rfl)
  · show World.ownsRow _ _ _ _ _ _ _
    rw [List.length_append, hnew]
    exact hown
  · rcases hat with hat | hat
    · left; show v.ownBlock = some q; rw [← hat]; exact hq
    · right
      have : (Value.slice B (xs.length + m) c').ownBlock = some q := hq
      rw [hat] at this; cases this; exact Nat.le_refl _
  · have := HP.fresh _ (List.mem_of_getElem? hi) rfl q hq'
    omega
theorem Sl.appR (H : Sl n L a) (HP : Hp w0 w LH K) (d ir : Nat) {v : Value} {xs : List Value} (e : TypeId) {z : Value} {bytes : Nat} (A : Option Addr) (m c : Nat) (news : List Value)
    (hc : chk ops n L ⟨some d, .call { callee := .builtin .append, args := #[s, x], argTypes := #[t, t] }, ty, pos, af, g⟩ d = true) (ht : P.underlying t = some (.slice e)) (hinf : infoB P e = some (some z, 1, bytes)) (hzs : z.cells.size = 1)
    (hs : ev L s = v) (hi : LH[ir]? = some (ownR w0.heap.size e v xs)) (hx : ev L x = .slice A m c) (hA : A = none → m = 0 ∧ c = 0) (hr : Rd w 1 A m news) (h1 : oneCells news = true)
    (h63 : xs.length + m ≤ maxLen) (hbytes : (xs.length + m) * bytes ≤ 140737488355328)
    (k : ∀ B c' w' a', Sl n ((d, .slice B (xs.length + m) c') :: L) a' → Hp w0 w' (LH.set ir (ownR w0.heap.size e (.slice B (xs.length + m) c') (xs ++ news))) K → wpList P ops Q rest a' w') :
    wpList P ops Q (⟨some d, .call { callee := .builtin .append, args := #[s, x], argTypes := #[t, t] }, ty, pos, af, g⟩ :: rest) a w := by
  obtain ⟨_, _, _, _, hw⟩ := chk_spec hc
  exact wpList_wanted (H.wanted hw) (wp_appR H HP d ir e A m c news rfl hc ht hinf hzs hs hi hx hA hr h1 h63 hbytes k)
theorem Op.appR {KK : Act → World → Prop} {i : Nat} (H : Sl n L a) (HP : Hp w0 w LH K) (d ir : Nat) {v : Value} {xs : List Value} (e : TypeId) {z : Value} {bytes : Nat} (A : Option Addr) (m c : Nat) (news : List Value)
    (hop : ops[i]? = some ⟨some d, .call { callee := .builtin .append, args := #[s, x], argTypes := #[t, t] }, ty, pos, af, g⟩)
    (hc : chk ops n L ⟨some d, .call { callee := .builtin .append, args := #[s, x], argTypes := #[t, t] }, ty, pos, af, g⟩ d = true) (ht : P.underlying t = some (.slice e)) (hinf : infoB P e = some (some z, 1, bytes)) (hzs : z.cells.size = 1)
    (hs : ev L s = v) (hi : LH[ir]? = some (ownR w0.heap.size e v xs)) (hx : ev L x = .slice A m c) (hA : A = none → m = 0 ∧ c = 0) (hr : Rd w 1 A m news) (h1 : oneCells news = true)
    (h63 : xs.length + m ≤ maxLen) (hbytes : (xs.length + m) * bytes ≤ 140737488355328)
    (k : ∀ B c' w' a', Sl n ((d, .slice B (xs.length + m) c') :: L) a' → Hp w0 w' (LH.set ir (ownR w0.heap.size e (.slice B (xs.length + m) c') (xs ++ news))) K → KK a' w') : wpOp P ops Q i KK a w := by
  obtain ⟨_, _, _, _, hw⟩ := chk_spec hc
  exact wpOp_wanted hop (H.wanted hw) (wp_appR H HP d ir e A m c news rfl hc ht hinf hzs hs hi hx hA hr h1 h63 hbytes k)
end
def int3 : Option (Int × Nat) → Value
  | none => .tuple #[.int .i64 0, .int .i64 0, .int .i64 10]
  | some (n, e) => .tuple #[.int .i64 n, .int .i64 e, .int .i64 0]
theorem pow128 (j : Nat) : (2 : Nat) ^ (7 * j) = 128 ^ j := by rw [Nat.pow_mul]
theorem pow128_lt {j : Nat} (h : j < 9) : 128 ^ j ≤ 72057594037927936 := by
  have : 128 ^ j ≤ 128 ^ 8 := Nat.pow_le_pow_right (by omega) (by omega)
  simpa using this
theorem u8_wrap64 (x : Nat) (h : x < 256) : IntKind.u64.wrap (x : Int) = x := by
  rw [IntKind.wrap_u64]; omega
theorem join_eq (y j b : Nat) (hy : y < 128 ^ j) (hj : j < 9) (hb : b < 256) :
    bits BinOp.or IntKind.u64 (y : Int) (IntKind.u64.wrap (IntKind.u64.wrap (bits BinOp.and IntKind.u8 (b : Int) 127) * 2 ^ (7 * j))) = ((y + b % 128 * 128 ^ j : Nat) : Int) := by
  have hp := pow128_lt hj
  have h1 : bits BinOp.and IntKind.u8 (b : Int) 127 = ((b % 128 : Nat) : Int) := by
    rw [show (127 : Int) = ((127 : Nat) : Int) from rfl, u8_and_nat b 127 hb (by omega)]
    congr 1
    exact Nat.and_two_pow_sub_one_eq_mod b 7
  rw [h1, u8_wrap64 _ (by omega)]
  have h2 : ((b % 128 : Nat) : Int) * 2 ^ (7 * j) = ((b % 128 * 128 ^ j : Nat) : Int) := by
    rw [← pow128]; push_cast; rfl
  have h3 : b % 128 * 128 ^ j ≤ 127 * 128 ^ j := Nat.mul_le_mul_right _ (by omega)
  rw [h2, IntKind.wrap_u64, show ((b % 128 * 128 ^ j : Nat) : Int) % 18446744073709551616 = ((b % 128 * 128 ^ j : Nat) : Int) by omega]
  rw [u64_or_nat _ _ (by omega) (by omega), Nat.or_comm, nat_join (7 * j) _ _ (by rw [pow128]; exact Nat.mul_mod_left _ _) (by rw [pow128]; exact hy)]
  congr 1
  omega
set_option maxRecDepth 100000 in
set_option maxHeartbeats 4000000 in
theorem wint_any (s : ByteArray) (k : Nat) (w : World) (hs : s.size ≤ 9000000000000000000) (hk : k ≤ s.size) :
    Calls Tryd.prog 48 #[.string s, .int .i64 k] w fun e w' => e = .returned (int3 (rdInt s.data.toList k)) ∧ w = w' := by
  have d0 : decide ((k : Int) < 0) = false := by simp
  have d1 : decide (s.size < k) = false := by simp; omega
  go_enter Tryd.func48, Tryd.ntmps48
  go_wp2_with fail
  go_loop [7, 8] (fun z i => ∃ (j y : Nat), j ≤ 9 ∧ k + j ≤ s.size ∧ i = .int .i64 j ∧ z = .int .u64 y ∧ y < 128 ^ j ∧ vget 9 0 0 (s.data.toList.drop k) = vget (9 - j) j y (s.data.toList.drop (k + j))) (fun _ i => 9 - (intOf i).toNat)
  case atStart => exact ⟨0, 0, by omega, by omega, rfl, rfl, by decide, rfl⟩
  case round =>
    obtain ⟨j, y, hj, hkj, rfl, rfl, hy, hv⟩ := hrel
    have HY := Lib.hid hy
    have HV := Lib.hid hv
    clear hy hv
    have dk : 0 ≤ (k : Int) + j := by omega
    by_cases h9 : j < 9
    · by_cases hl : k + j < s.size
      · have hl1 : (k : Int) + j < s.size := by omega
        have hb := (s[k + j]'hl).toNat_lt
        have hdrop : s.data.toList.drop (k + j) = s[k + j] :: s.data.toList.drop (k + (j + 1)) := by
          have hl' : k + j < s.data.toList.length := by simpa using hl
          rw [List.drop_eq_getElem_cons hl']
          rfl
        have HJ := Lib.hid (join_eq y j (s[k + j]'hl).toNat HY.out h9 hb)
        have HP := Lib.hid (pow128_lt h9)
        have hst : vget (9 - j) j y (s.data.toList.drop (k + j)) = (if 128 ≤ (s[k + j]'hl).toNat then vget (9 - (j + 1)) (j + 1) (y + (s[k + j]'hl).toNat % 128 * 128 ^ j) (s.data.toList.drop (k + (j + 1)))
            else if (s[k + j]'hl).toNat = 0 ∧ 0 < j then none
            else if unzig (y + (s[k + j]'hl).toNat % 128 * 128 ^ j) < -wmax then none
            else some (unzig (y + (s[k + j]'hl).toNat % 128 * 128 ^ j), j + 1)) := by
          rw [hdrop, show 9 - j = (9 - (j + 1)) + 1 by omega, vget]
        have HS := Lib.hid hst
        have hz : y + (s[k + j]'hl).toNat % 128 * 128 ^ j < 128 ^ (j + 1) := by
          rw [Nat.pow_succ]
          have h3 : (s[k + j]'hl).toNat % 128 * 128 ^ j ≤ 127 * 128 ^ j := Nat.mul_le_mul_right _ (by omega)
          have := HY.out
          omega
        have HZ := Lib.hid hz
        clear hst hz hdrop
        go_upto_region 8 with (fail)
        go_cut [7] (fun z wx => z = .int .u64 ((y + (s[k + j]'hl).toNat % 128 * 128 ^ j : Nat) : Int) ∧ w = wx)
        case first =>
          go_wp2_with fail
          go_meet
          exact ⟨congrArg _ HJ.out, rfl⟩
        case rest =>
          obtain ⟨rfl, rfl⟩ := hcut
          generalize y + (s[k + j]'hl).toNat % 128 * 128 ^ j = Z at *
          have hZb : Z < 9223372036854775808 := by
            have h1 := HZ.out
            have h2 : 128 ^ (j + 1) ≤ 128 ^ 9 := Nat.pow_le_pow_right (by omega) (by omega)
            have h3 : (128 : Nat) ^ 9 = 9223372036854775808 := by decide
            omega
          generalize hbb : (s[k + j]'hl).toNat = b at *
          clear hbb
          have fin : ∀ r, vget (9 - j) j y (s.data.toList.drop (k + j)) = r → rdInt s.data.toList k = r.map (fun p => (p.1, k + p.2)) := by
            intro r hr; unfold rdInt; rw [HV.out, hr]
          have FIN := Lib.hid fin
          clear fin
          by_cases h1 : 128 ≤ b
          · have hs1 := HS.out
            rw [if_pos h1] at hs1
            have HS1 := Lib.hid hs1
            have h1i : (128 : Int) ≤ b := by omega
            clear hs1 HS
            go_wp2_with fail
            go_round
            case rel => exact ⟨j + 1, Z, by omega, by omega, by go_num, rfl, HZ.out, HV.out.trans HS1.out⟩
            case measure => simp [intOf]; omega
          · have hs1 := HS.out
            rw [if_neg h1] at hs1
            have h1i : (b : Int) < 128 := by omega
            by_cases h2 : b = 0 ∧ 0 < j
            · rw [if_pos h2] at hs1
              have HF := Lib.hid (FIN.out _ hs1)
              obtain ⟨rfl, h2j⟩ := h2
              have h2i : (0 : Int) < j := by omega
              clear hs1 HS
              go_wp2_with fail
              go_ret3
              exact ⟨by rw [HF.out]; rfl, rfl⟩
            · rw [if_neg h2] at hs1
              have hodd : Z % 2 = 1 → unzig Z = -((Z : Int) / 2) - 1 := by intro ho; unfold unzig; rw [if_pos ho]; omega
              have heven : Z % 2 ≠ 1 → unzig Z = (Z : Int) / 2 := by intro ho; unfold unzig; rw [if_neg ho]; omega
              have F1 : unzig Z < -4611686018427387903 → Hid (rdInt s.data.toList k = none) := fun h3 => Lib.hid (by
                have h3' : unzig Z < -wmax := h3
                have := FIN.out _ hs1; rw [if_pos h3'] at this; exact this)
              have F2 : ¬ unzig Z < -4611686018427387903 → Hid (rdInt s.data.toList k = some (unzig Z, k + (j + 1))) := fun h3 => Lib.hid (by
                have h3' : ¬ unzig Z < -wmax := h3
                have := FIN.out _ hs1; rw [if_neg h3'] at this; exact this)
              have hbj : (((b : Int) == 0) = false) ∨ (b = 0 ∧ j = 0) := by
                by_cases h : b = 0
                · right; omega
                · left; simp; exact h
              have hz2 : (Z % 2 = 1 ∧ ((Z : Int) % 2 == 1) = true ∧ (Z % 2 == 1) = true) ∨ (Z % 2 ≠ 1 ∧ ((Z : Int) % 2 == 1) = false ∧ (Z % 2 == 1) = false) := by
                by_cases h : Z % 2 = 1
                · left; refine ⟨h, ?_, ?_⟩ <;> simp <;> omega
                · right; refine ⟨h, ?_, ?_⟩ <;> simp <;> omega
              clear hs1 HS h2 FIN
              rcases hz2 with ⟨ho, ho1, ho2⟩ | ⟨ho, ho1, ho2⟩
              · have hu := hodd ho
                rw [hu] at F1 F2
                have HU := Lib.hid hu
                clear hodd heven hu ho
                by_cases h3 : -((Z : Int) / 2) - 1 < -4611686018427387903
                · have HF := F1 h3
                  clear F1 F2
                  rcases hbj with hb1 | ⟨rfl, rfl⟩
                  all_goals
                    go_wp2_with fail
                    go_ret3
                    exact ⟨by rw [HF.out]; rfl, rfl⟩
                · have HF := F2 h3
                  clear F1 F2
                  rcases hbj with hb1 | ⟨rfl, rfl⟩
                  all_goals
                    go_wp2_with fail
                    go_ret3
                    exact ⟨by rw [HF.out]; unfold int3; push_cast; simp [Int.add_assoc], rfl⟩
              · have hu := heven ho
                rw [hu] at F1 F2
                have h3 : ¬ (Z : Int) / 2 < -4611686018427387903 := by omega
                have HF := F2 h3
                clear hodd heven hu ho F1 F2
                rcases hbj with hb1 | ⟨rfl, rfl⟩
                all_goals
                  go_wp2_with fail
                  go_ret3
                  exact ⟨by rw [HF.out]; unfold int3; push_cast; simp [Int.add_assoc], rfl⟩
      · have hr : rdInt s.data.toList k = none := by
          unfold rdInt
          rw [HV.out, List.drop_eq_nil_of_le (by simp; omega), show 9 - j = (9 - (j + 1)) + 1 by omega, vget]
          rfl
        have HR := Lib.hid hr
        have hl1 : ¬ (k : Int) + j < s.size := by omega
        clear hr
        go_wp2_with fail
        go_ret3
        exact ⟨by rw [HR.out]; rfl, rfl⟩
    · have hr : rdInt s.data.toList k = none := by
        unfold rdInt
        rw [HV.out, show 9 - j = 0 by omega, vget]
        rfl
      have HR := Lib.hid hr
      have h9d : decide ((j : Int) < 9) = false := by simp; omega
      clear hr
      go_wp2_with fail
      go_ret3
      exact ⟨by rw [HR.out]; rfl, rfl⟩
section
variable {P : Program} {ρ : Operand → Value} {w : World} {x y : Operand} {dst : Option Tmp} {ty e : TypeId} {pos : String} {af : Array Edge} {g : Option (Nat × Bool)}
theorem ex_b2sR {src td : TypeId} {b off c m : Nat} {l : List UInt8} (hx : ρ x = .slice (some ⟨b, off, none⟩) m c) (hr : Rd w 1 (some ⟨b, off, none⟩) m (Lib.byteCells l)) (hs : P.underlying src = some (.slice e)) (he : P.underlying e = some (.int .u8)) (hd : P.underlying td = some .string) :
  (execOp ρ ⟨dst, .convert src td x, ty, pos, af, g⟩).run P w = .ok (.value (.string (bstr l))) w := by
 have hl : l.length = m := by have := hr.1; simpa [Lib.byteCells] using this
 subst hl
 have hc : ∀ j (hj : j < l.length), w.cell? ((⟨b, off, none⟩ : Addr).add j) = some (.int .u8 (l[j].toNat : Int)) := by
  intro j hj
  rcases hr.2 with h0 | ⟨b', o', h1, _, h3⟩
  ·omega
  ·cases h1
   rw [add_plain, h3 j (by omega)]
   simp [Lib.byteCells, hj]
 have := run_convert_bytes_back (P := P) w src td e ⟨b, off, none⟩ c l hs he hd hc
 simp only [execOp, hx, this, Sem.run_bind, Result.andThen_ok, Sem.run_pure]
end
theorem ex_b2sB {P : Program} {ρ : Operand → Value} {w : World} {x : Operand} {dst : Option Tmp} {ty e : TypeId} {pos : String} {af : Array Edge} {g : Option (Nat × Bool)} {src td : TypeId} {B : Option Addr} {c m : Nat} {l : List UInt8} (hx : ρ x = .slice B m c) (hr : Rd w 1 B m (Lib.byteCells l)) (hm : 1 ≤ m) (hs : P.underlying src = some (.slice e)) (he : P.underlying e = some (.int .u8)) (hd : P.underlying td = some .string) :
  (execOp ρ ⟨dst, .convert src td x, ty, pos, af, g⟩).run P w = .ok (.value (.string (bstr l))) w := by
 obtain ⟨b, off, rfl, _⟩ := hr.2.resolve_left (by omega)
 exact ex_b2sR hx hr hs he hd
theorem vput_step {f z : Nat} (h : ¬ z < 128) : vput (f + 1) z = (z % 128 + 128) :: vput f (z / 128) := by
 rw [vput, if_neg h]
theorem byte_one {k : Nat} (h : k < 256) : Lib.byteCells [UInt8.ofNat k] = [Value.int .u8 ((k : Nat) : Int)] := by
 simp only [Lib.byteCells, List.map_cons, List.map_nil, ofNat_toNat h]
def intV : Option (Int × Nat) → Value
 | none => .tuple #[.int .i64 0, .int .i64 0, .int .i64 10]
 | some (n, e) => .tuple #[.int .i64 n, .int .i64 ((e : Nat) : Int), .int .i64 0]
theorem drop_cons {s : List UInt8} {i : Nat} (h : i < s.length) : s.drop i = s.getD i 0 :: s.drop (i + 1) := by
 rw [List.drop_eq_getElem_cons h]
 simp [List.getD, List.getElem?_eq_getElem h]
theorem ex_shl {P : Program} {ρ : Operand → Value} {w : World} {x y : Operand} {dst : Option Tmp} {t ty : TypeId} {t' : TypeId} {pos : String} {af : Array Edge} {g : Option (Nat × Bool)} {a : Int} {c : Nat} (hx : ρ x = .int .u64 a) (hy : ρ y = .int .i64 ((c : Nat) : Int)) (hc : c ≤ 64) :
  (execOp ρ ⟨dst, .binOp .shl t x y t', ty, pos, af, g⟩).run P w = .ok (.value (.int .u64 (IntKind.u64.wrap (a * 2 ^ c)))) w := by
 simp [execOp, hx, hy, binOp, eqGuard, shift_shl_u64 (h₀ := (by omega : (0 : Int) ≤ ((c : Nat) : Int))) (h₁ := (by omega : ((c : Nat) : Int) ≤ 64))]
theorem shl_val {b i M : Nat} (h : b * 128 ^ i = M) (hM : M < 18446744073709551616) : IntKind.u64.wrap (((b : Nat) : Int) * 2 ^ (7 * i)) = ((M : Nat) : Int) := by
 have e : ((b : Nat) : Int) * 2 ^ (7 * i) = ((M : Nat) : Int) := by rw [← h, ← pow128]; push_cast; rfl
 rw [e, wrap_inu64 _ (by omega)]
theorem int_last {s r : List UInt8} {k i z zz : Nat} {b : UInt8} (hR : vget (9 - i) i z (s.drop (k + i)) = vget 9 0 0 (s.drop k)) (hd : s.drop (k + i) = b :: r) (hi : i < 9) (hb : b.toNat < 128) (hz : z + b.toNat % 128 * 128 ^ i = zz) :
  rdInt s k = none ∨ (rdInt s k = some (unzig zz, k + (i + 1)) ∧ -wmax ≤ unzig zz) := by
 unfold rdInt
 rw [← hR, hd, show 9 - i = (9 - (i + 1)) + 1 by omega, vget, if_neg (by omega), hz]
 split
 ·exact .inl rfl
 ·split
  ·exact .inl rfl
  ·exact .inr ⟨rfl, by omega⟩
theorem int_yes {s : List UInt8} {k k2 : Nat} {n : Int} (hk : k ≤ s.length) (hk2 : k2 ≤ s.length) (h0 : (if -wmax ≤ n then 0 else 10 : Int) = 0) (he : (if -wmax ≤ n then encInt n else []) = (s.drop k).take (k2 - k)) (hn : n ≤ wmax) : rdInt s k = some (n, k2) := by
 by_cases h : -wmax ≤ n
 ·rw [if_pos h] at he
  have hl := congrArg List.length he
  rw [List.length_take, List.length_drop] at hl
  have h1 := (encInt_len n).1
  have e : s.take k ++ encInt n ++ s.drop k2 = s := by
   rw [he, List.append_assoc, show s.drop k2 = (s.drop k).drop (k2 - k) by rw [List.drop_drop]; congr 1; omega, List.take_append_drop, List.take_append_drop]
  have := rdInt_enc (s.take k) (s.drop k2) n h hn
  rw [e, List.length_take, Nat.min_eq_left hk] at this
  rw [this]
  congr 2
  omega
 ·rw [if_neg h] at h0; cases h0
theorem int_no {s : List UInt8} {k i zz : Nat} (hk : k ≤ s.length) (hl : rdInt s k = none ∨ (rdInt s k = some (unzig zz, k + (i + 1)) ∧ -wmax ≤ unzig zz)) (h : (if -wmax ≤ unzig zz then 0 else 10 : Int) ≠ 0 ∨ (if -wmax ≤ unzig zz then encInt (unzig zz) else []) ≠ (s.drop k).take (k + i + 1 - k)) : rdInt s k = none := by
 rcases hl with hl | ⟨hl, hw⟩
 ·exact hl
 ·exfalso
  rw [if_pos hw, if_pos hw] at h
  rcases h with h | h
  ·exact h rfl
  ·obtain ⟨_, _, h3, h4, h5⟩ := rdInt_canon hk hl
   apply h
   rw [h5, List.take_left' (by omega)]
theorem int_out {s : List UInt8} {k i z : Nat} (hR : vget (9 - i) i z (s.drop (k + i)) = vget 9 0 0 (s.drop k)) (h : 9 ≤ i ∨ s.length ≤ k + i) : rdInt s k = none := by
 unfold rdInt
 rw [← hR]
 by_cases h9 : 9 ≤ i
 ·rw [show 9 - i = 0 by omega]; rfl
 ·rw [List.drop_of_length_le (by omega), show 9 - i = (9 - (i + 1)) + 1 by omega]; rfl
set_option maxRecDepth 100000 in
set_option maxHeartbeats 4000000 in
theorem rzig_any (n : Int) (w : World) (h1 : -wmax ≤ n) (h2 : n ≤ wmax) :
  Calls Tryd.prog 46 #[.int .i64 n] w fun e w' => e = .returned (.int .u64 ((zig n : Nat) : Int)) ∧ Below w.heap.size w w' := by
 have HP := Hp.start w
 unfold wmax at h1 h2
 refine w_enter 13 [(0, (ii n))] Tryd.func46 rfl Tryd.ntmps46 (by kernel_rfl) (by kernel_rfl) fun a H => ?_
 refine wp_seq (w_region ?_)
 refine H.ge HP [(2, (.int .u64 0))] [] fun a H => ?_
 refine then_normal (wp_seq (wp_seq (w_region ?_)))
 refine H.ge HP [(3, (ii n)), (4, (.bool (decide (n < 0))))] [] fun a H => ?_
 refine then_normal ?_
 refine w_if H rfl (fun g4 => ?_) (fun g4 => ?_)
 ·have g4p := of_decide_eq_true g4
  refine wp_seq (w_region ?_)
  refine H.go HP 1 [(5, (ii n))] [] fun a H => ?_
  refine H.valE 6 (ii (IntKind.i64.wrap (0 - n))) (ii (-n)) (by kernel_rfl) (by kernel_rfl) ((by rw [Int.zero_sub, wrap_ini64 _ (by omega)])) fun a H => ?_
  refine H.valE 7 (.int .u64 (IntKind.u64.wrap (-n))) (.int .u64 (-n)) (by kernel_rfl) (by kernel_rfl) ((by rw [wrap_inu64 _ (by omega)])) fun a H => ?_
  refine H.valE 8 (.int .u64 (IntKind.u64.wrap ((-n) * 2))) (.int .u64 ((-n) * 2)) (by kernel_rfl) (by kernel_rfl) ((by rw [wrap_inu64 _ (by omega)])) fun a H => ?_
  refine H.valE 9 (.int .u64 (IntKind.u64.wrap (((-n) * 2) - 1))) (.int .u64 (((-n) * 2) - 1)) (by kernel_rfl) (by kernel_rfl) ((by rw [wrap_inu64 _ (by omega)])) fun a H => ?_
  refine H.ge HP [(2, (.int .u64 (((-n) * 2) - 1)))] [] fun a H => ?_
  refine then_normal (wp_ret (then_ret ?_))
  refine H.ret1 (fn := Tryd.f46) Tryd.results46 (RV.tmp_ (v := (.int .u64 (((-n) * 2) - 1))) (by kernel_rfl)) ?_
  exact ⟨congrArg (fun x => Ending.returned (Value.int .u64 x)) (by unfold zig; rw [if_pos (by omega)]; omega), HP.below (by kernel_rfl)⟩
 ·have g4p := of_decide_eq_false g4
  refine wp_skip (then_normal (wp_seq (w_region ?_)))
  refine H.go HP 1 [(10, (ii n))] [] fun a H => ?_
  refine H.valE 11 (.int .u64 (IntKind.u64.wrap n)) (.int .u64 n) (by kernel_rfl) (by kernel_rfl) ((by rw [wrap_inu64 _ (by omega)])) fun a H => ?_
  refine H.valE 12 (.int .u64 (IntKind.u64.wrap (n * 2))) (.int .u64 (n * 2)) (by kernel_rfl) (by kernel_rfl) ((by rw [wrap_inu64 _ (by omega)])) fun a H => ?_
  refine H.ge HP [(2, (.int .u64 (n * 2)))] [] fun a H => ?_
  refine then_normal (wp_ret ?_)
  refine H.ret1 (fn := Tryd.f46) Tryd.results46 (RV.tmp_ (v := (.int .u64 (n * 2))) (by kernel_rfl)) ?_
  exact ⟨congrArg (fun x => Ending.returned (Value.int .u64 x)) (by unfold zig; rw [if_neg (by omega)]; omega), HP.below (by kernel_rfl)⟩
set_option maxRecDepth 100000 in
set_option maxHeartbeats 4000000 in
theorem rputInt_any (n : Int) (w : World) (h1 : -wmax ≤ n) (h2 : n ≤ wmax) :
  Calls Tryd.prog 31 #[.int .i64 n] w fun e w' => e = .returned (.tuple #[.string (bstr (encInt n)), .int .i64 0]) ∧ Below w.heap.size w w' := by
 have HP := Hp.start w
 unfold wmax at h1 h2
 refine w_enter 31 [(0, (ii n))] Tryd.func31 rfl Tryd.ntmps31 (by kernel_rfl) (by kernel_rfl) fun a H => ?_
 refine wp_seq (w_region ?_)
 refine H.ge HP [(2, (.string (bstr ([])))), (3, (ii 0))] [] fun a H => ?_
 refine then_normal (wp_seq (wp_seq (w_region ?_)))
 refine H.go HP 1 [(6, (ii n))] [] fun a H => ?_
 refine H.valE 7 (.bool (decide (n < -4611686018427387903))) (.bool false) (by kernel_rfl) (by kernel_rfl) ((congrArg Value.bool (decide_eq_false (by omega)))) fun a H => ?_
 refine H.go HP 2 [(8, (.bool false)), (9, (ii n))] [] fun a H => ?_
 refine H.valE 10 (.bool (decide (n > 4611686018427387903))) (.bool false) (by kernel_rfl) (by kernel_rfl) ((congrArg Value.bool (decide_eq_false (by omega)))) fun a H => ?_
 refine H.ge HP [(11, (.bool false))] [] fun a H => ?_
 refine then_normal ?_
 refine w_iff H rfl ?_
 refine wp_skip (then_normal (wp_seq (w_region ?_)))
 refine H.go HP 1 [(12, (ii n))] [] fun a H => ?_
 refine H.call 13 (by kernel_rfl) (Eq.trans (by kernel_rfl : _ = (callFunc 46 #[(ii n)]).run Tryd.prog w) (Tryd.call46 _ _)) (rzig_any n w (by unfold wmax; omega) (by unfold wmax; omega)) ?_
 rintro e w_1 ⟨rfl, hb⟩
 refine ⟨_, rfl, ?_⟩
 intro a H
 have HP := HP.next hb
 obtain ⟨z0, hz0⟩ : ∃ z, zig n = z := ⟨_, rfl⟩
 rw [hz0] at H
 have hzb : z0 < 9223372036854775808 := by rw [← hz0]; unfold zig; split <;> omega
 refine H.ge HP [(4, (.int .u64 (z0 : Int)))] [] fun a H => ?_
 refine then_normal (wp_seq (w_region ?_))
 refine H.ge HP [(5, (.slice none 0 0))] [] fun a H => ?_
 refine then_normal (wp_seq (wp_block ?_))
 have HP := HP.nilR 5
 refine w_loop (fun mm a wv => ∃ (f : Nat), ∃ (z : Nat), ∃ (l : List UInt8), ∃ (B : Option Addr), ∃ (cc : Nat), f = mm ∧ Sl 31 [(4, (.int .u64 (z : Int))), (5, (.slice B l.length cc)), (0, (ii n))] a ∧ Hp w wv [(ownR w.heap.size 5 (.slice B l.length cc) (Lib.byteCells l))] [] ∧ (z < 128 ^ f) ∧ (z < 9223372036854775808) ∧ (1 ≤ f) ∧ (l.length + f = 9) ∧ (B = none → l.length = 0 ∧ cc = 0) ∧ (l ++ (vput f z).map UInt8.ofNat = encInt n)) (9) ?_ ?_
 ·exact ⟨9, z0, [], none, 0, (by omega), H.keep (by kernel_rfl), HP, (by omega), (by omega), (by omega), rfl, (fun _ => ⟨rfl, rfl⟩), (by rw [← hz0]; rfl)⟩
 rintro mm a w_2 ⟨f, z, l, B, cc, hmeas, H, HP, hz, hzz, hf, hfl, hnb, hen⟩
 refine wp_seq (wp_seq (w_region ?_))
 refine H.ge HP [(15, (.bool (decide ((z : Int) ≥ 128))))] [] fun a H => ?_
 refine then_normal ?_
 refine w_if H rfl (fun g15 => ?_) (fun g15 => ?_)
 ·have g15p := of_decide_eq_true g15
  refine wp_skip (then_normal (wp_block (wp_seq (w_region ?_))))
  refine H.go HP 2 [(16, (.slice B l.length cc)), (17, (.int .u64 (z : Int)))] [] fun a H => ?_
  refine H.valE 18 (.int .u64 ((z : Int).tmod 128)) (.int .u64 ((z % 128 : Nat) : Int)) (by kernel_rfl) (by kernel_rfl) ((by rw [tmod_nn _ _ (by omega)]; exact congrArg (Value.int .u64) (by omega))) fun a H => ?_
  refine H.valE 19 (.int .u64 (IntKind.u64.wrap (((z % 128 : Nat) : Int) + 128))) (.int .u64 ((z % 128 + 128 : Nat) : Int)) (by kernel_rfl) (by kernel_rfl) ((by rw [wrap_inu64 _ (by omega)]; exact congrArg (Value.int .u64) (by omega))) fun a H => ?_
  refine H.valE 20 (.int .u8 (IntKind.u8.wrap ((z % 128 + 128 : Nat) : Int))) (.int .u8 ((z % 128 + 128 : Nat) : Int)) (by kernel_rfl) (by kernel_rfl) ((by rw [wrap_inu8 _ (by omega)])) fun a H => ?_
  refine H.alloc HP 21 (fun b => (.slice (some ⟨b, 0, none⟩) 1 1)) 5 [(.int .u8 ((z % 128 + 128 : Nat) : Int))] (by kernel_rfl) (fun w => by kernel_rfl) fun b_3 w_4 a H HP => ?_
  refine H.appR HP 22 1 (v := (.slice B l.length cc)) (xs := (Lib.byteCells l)) 5 (z := (.int .u8 0)) (bytes := 1) (some ⟨b_3, 0, none⟩) (1) (1) ([(.int .u8 ((z % 128 + 128 : Nat) : Int))]) (by kernel_rfl) (by kernel_rfl) (by kernel_rfl) (by kernel_rfl) (by kernel_rfl) rfl (by kernel_rfl) (fun h => by cases h) (Rd.of_box (HP.at_ 0 rfl) rfl) (by kernel_rfl) (by rw [byteCells_len]; unfold maxLen; omega) (by rw [byteCells_len]; omega) fun B_5 c_6 w_7 a H HP => ?_
  have HP : Hp w w_7 [bx b_3 5 [(.int .u8 ((z % 128 + 128 : Nat) : Int))] true, (ownR w.heap.size 5 (.slice B_5 ((Lib.byteCells l).length + 1) c_6) (Lib.byteCells l ++ [(.int .u8 ((z % 128 + 128 : Nat) : Int))]))] [] := HP
  have hxs : Lib.byteCells l ++ [(.int .u8 ((z % 128 + 128 : Nat) : Int))] = Lib.byteCells (l ++ [UInt8.ofNat (z % 128 + 128)]) := (by rw [byteCells_append, byte_one (by omega)])
  have hvv : ((.slice B_5 ((Lib.byteCells l).length + 1) c_6) : Value) = (.slice B_5 ((l ++ [UInt8.ofNat (z % 128 + 128)]).length) c_6) := by rw [show (Lib.byteCells l).length + 1 = (l ++ [UInt8.ofNat (z % 128 + 128)]).length from (by simp [byteCells_len])]
  rw [hxs, hvv] at HP
  have HP : Hp w w_7 [bx b_3 5 [(.int .u8 ((z % 128 + 128 : Nat) : Int))] true, (ownR w.heap.size 5 (.slice B_5 ((l ++ [UInt8.ofNat (z % 128 + 128)]).length) c_6) (Lib.byteCells (l ++ [UInt8.ofNat (z % 128 + 128)])))] [] := HP
  have H := H.as 22 (.slice B_5 ((l ++ [UInt8.ofNat (z % 128 + 128)]).length) c_6) rfl hvv
  clear hxs hvv
  refine H.ge HP [(5, (.slice B_5 ((l ++ [UInt8.ofNat (z % 128 + 128)]).length) c_6))] [] fun a H => ?_
  refine then_normal (w_region ?_)
  refine H.go HP 1 [(23, (.int .u64 (z : Int)))] [] fun a H => ?_
  refine H.valE 24 (.int .u64 (IntKind.u64.wrap ((z : Int).tdiv 128))) (.int .u64 ((z / 128 : Nat) : Int)) (by kernel_rfl) (by kernel_rfl) ((by rw [tdiv_nn _ _ (by omega), wrap_inu64 _ (by omega)]; exact congrArg (Value.int .u64) (by omega))) fun a H => ?_
  refine H.ge HP [(4, (.int .u64 ((z / 128 : Nat) : Int)))] [] fun a H => ?_
  refine inb_normal (then_normal ?_)
  obtain ⟨f, rfl⟩ : ∃ k, f = k + 1 := ⟨f - 1, by omega⟩
  have hzq : z / 128 < 128 ^ f := by rw [Nat.pow_succ] at hz; exact Nat.div_lt_of_lt_mul (by rw [Nat.mul_comm]; exact hz)
  have hf0 : 1 ≤ f := by rcases Nat.eq_zero_or_pos f with h | h <;> first | exact h | (subst h; simp at hzq; omega)
  have H := H.as 4 (.int .u64 ((z / 128 : Nat) : Int)) rfl rfl
  have H := H.as 5 (.slice B_5 ((l ++ [UInt8.ofNat (z % 128 + 128)]).length) c_6) rfl rfl
  refine ⟨_, ?_, f, z / 128, l ++ [UInt8.ofNat (z % 128 + 128)], B_5, c_6, rfl, H.keep (by kernel_rfl), (HP.tail rfl), hzq, (by omega), hf0, (by simp only [List.length_append, List.length_cons, List.length_nil]; omega), (fun h => by have := ownR_facts (HP.held 1 rfl); have := this.2.2.2 h; simp only [List.length_append, List.length_cons, List.length_nil, byteCells_len] at *; omega), (by rw [← hen, vput_step (by omega)]; simp)⟩
  omega
 ·have g15p := of_decide_eq_false g15
  refine wp_exit (then_exit (then_exit ?_))
  refine w_exit_here ?_
  refine then_normal (wp_seq (w_region ?_))
  refine H.go HP 2 [(25, (.slice B l.length cc)), (26, (.int .u64 (z : Int)))] [] fun a H => ?_
  refine H.valE 27 (.int .u8 (IntKind.u8.wrap (z : Int))) (.int .u8 (z : Int)) (by kernel_rfl) (by kernel_rfl) ((by rw [wrap_inu8 _ (by omega)])) fun a H => ?_
  refine H.alloc HP 28 (fun b => (.slice (some ⟨b, 0, none⟩) 1 1)) 5 [(.int .u8 (z : Int))] (by kernel_rfl) (fun w => by kernel_rfl) fun b_8 w_9 a H HP => ?_
  refine H.appR HP 29 1 (v := (.slice B l.length cc)) (xs := (Lib.byteCells l)) 5 (z := (.int .u8 0)) (bytes := 1) (some ⟨b_8, 0, none⟩) (1) (1) ([(.int .u8 (z : Int))]) (by kernel_rfl) (by kernel_rfl) (by kernel_rfl) (by kernel_rfl) (by kernel_rfl) rfl (by kernel_rfl) (fun h => by cases h) (Rd.of_box (HP.at_ 0 rfl) rfl) (by kernel_rfl) (by rw [byteCells_len]; unfold maxLen; omega) (by rw [byteCells_len]; omega) fun B_10 c_11 w_12 a H HP => ?_
  have HP : Hp w w_12 [bx b_8 5 [(.int .u8 (z : Int))] true, (ownR w.heap.size 5 (.slice B_10 ((Lib.byteCells l).length + 1) c_11) (Lib.byteCells l ++ [(.int .u8 (z : Int))]))] [] := HP
  have hxs : Lib.byteCells l ++ [(.int .u8 (z : Int))] = Lib.byteCells (l ++ [UInt8.ofNat (z)]) := (by rw [byteCells_append, byte_one (by omega)])
  have hvv : ((.slice B_10 ((Lib.byteCells l).length + 1) c_11) : Value) = (.slice B_10 ((l ++ [UInt8.ofNat (z)]).length) c_11) := by rw [show (Lib.byteCells l).length + 1 = (l ++ [UInt8.ofNat (z)]).length from (by simp [byteCells_len])]
  rw [hxs, hvv] at HP
  have HP : Hp w w_12 [bx b_8 5 [(.int .u8 (z : Int))] true, (ownR w.heap.size 5 (.slice B_10 ((l ++ [UInt8.ofNat (z)]).length) c_11) (Lib.byteCells (l ++ [UInt8.ofNat (z)])))] [] := HP
  have H := H.as 29 (.slice B_10 ((l ++ [UInt8.ofNat (z)]).length) c_11) rfl hvv
  clear hxs hvv
  refine H.valE 30 (.string (bstr (l ++ [UInt8.ofNat (z)]))) (.string (bstr (encInt n))) (by kernel_rfl) (ex_b2sB (l := l ++ [UInt8.ofNat (z)]) (e := 5) (m := (l ++ [UInt8.ofNat (z)]).length) (c := c_11) (by kernel_rfl) (by have hh := ownR_rd (HP.held 1 rfl); rw [byteCells_len] at hh; exact hh) (by simp) (by kernel_rfl) (by kernel_rfl) (by kernel_rfl)) ((congrArg (fun x => Value.string (bstr x)) (by rw [← hen]; obtain ⟨f, rfl⟩ : ∃ k, f = k + 1 := ⟨f - 1, by omega⟩; unfold vput; rw [if_pos (by omega)]; simp))) fun a H => ?_
  refine H.ge HP [(2, (.string (bstr (encInt n)))), (3, (ii 0))] [] fun a H => ?_
  refine then_normal (wp_ret ?_)
  refine H.ret2 (fn := Tryd.f31) Tryd.results31 (RV.tmp_ (v := (.string (bstr (encInt n)))) (by kernel_rfl)) (RV.tmp_ (v := (ii 0)) (by kernel_rfl)) ?_
  exact ⟨rfl, HP.bl⟩
set_option maxRecDepth 100000 in
set_option maxHeartbeats 4000000 in
theorem rputInt_out (n : Int) (w : World) (h : n < -wmax) :
  Calls Tryd.prog 31 #[.int .i64 n] w fun e w' => e = .returned (.tuple #[.string (bstr []), .int .i64 10]) ∧ Below w.heap.size w w' := by
 have HP := Hp.start w
 unfold wmax at h
 refine w_enter 31 [(0, (ii n))] Tryd.func31 rfl Tryd.ntmps31 (by kernel_rfl) (by kernel_rfl) fun a H => ?_
 refine wp_seq (w_region ?_)
 refine H.ge HP [(2, (.string (bstr ([])))), (3, (ii 0))] [] fun a H => ?_
 refine then_normal (wp_seq (wp_seq (w_region ?_)))
 refine H.go HP 1 [(6, (ii n))] [] fun a H => ?_
 refine H.valE 7 (.bool (decide (n < -4611686018427387903))) (.bool true) (by kernel_rfl) (by kernel_rfl) ((congrArg Value.bool (decide_eq_true (by omega)))) fun a H => ?_
 refine H.ge HP [(11, (.bool true))] [] fun a H => ?_
 refine then_normal ?_
 refine w_ift H rfl ?_
 refine wp_seq (w_region ?_)
 refine H.ge HP [(2, (.string (bstr ([])))), (3, (ii 10))] [] fun a H => ?_
 refine then_normal (wp_ret (then_ret ?_))
 refine H.ret2 (fn := Tryd.f31) Tryd.results31 (RV.tmp_ (v := (.string (bstr ([])))) (by kernel_rfl)) (RV.tmp_ (v := (ii 10)) (by kernel_rfl)) ?_
 exact ⟨rfl, HP.bl⟩
theorem rputInt_all (n : Int) (w : World) (h : n ≤ wmax) :
  Calls Tryd.prog 31 #[.int .i64 n] w fun e w' => e = .returned (.tuple #[.string (bstr (if -wmax ≤ n then encInt n else [])), .int .i64 (if -wmax ≤ n then 0 else 10)]) ∧ Below w.heap.size w w' := by
 by_cases h1 : -wmax ≤ n
 ·rw [if_pos h1, if_pos h1]; exact rputInt_any n w h1 h
 ·rw [if_neg h1, if_neg h1]; exact rputInt_out n w (by omega)
set_option maxRecDepth 100000 in
set_option maxHeartbeats 4000000 in
theorem rint_any (s : List UInt8) (k : Nat) (w : World) (hs : s.length ≤ 1000000) (hk : k ≤ s.length) :
  Calls Tryd.prog 36 #[.string (bstr s), .int .i64 (k : Int)] w fun e w' => e = .returned (intV (rdInt s k)) ∧ Below w.heap.size w w' := by
 have HP := Hp.start w
 refine w_enter 80 [(0, (.string (bstr s))), (1, (ii k))] Tryd.func36 rfl Tryd.ntmps36 (by kernel_rfl) (by kernel_rfl) fun a H => ?_
 refine wp_seq (w_region ?_)
 refine H.ge HP [(4, (ii 0)), (5, (ii 0)), (6, (ii 0))] [] fun a H => ?_
 refine then_normal (wp_seq (wp_seq (w_region ?_)))
 refine H.go HP 1 [(13, (ii k))] [] fun a H => ?_
 refine H.valE 14 (.bool (decide ((k : Int) < 0))) (.bool false) (by kernel_rfl) (by kernel_rfl) ((congrArg Value.bool (decide_eq_false (by omega)))) fun a H => ?_
 refine H.go HP 4 [(15, (.bool false)), (16, (ii k)), (18, (ii s.length))] [] fun a H => ?_
 refine H.valE 19 (.bool (decide ((k : Int) > (s.length : Int)))) (.bool false) (by kernel_rfl) (by kernel_rfl) ((congrArg Value.bool (decide_eq_false (by omega)))) fun a H => ?_
 refine H.ge HP [(20, (.bool false))] [] fun a H => ?_
 refine then_normal ?_
 refine w_iff H rfl ?_
 refine wp_skip (then_normal (wp_seq (w_region ?_)))
 refine H.ge HP [(7, (.int .u64 0))] [] fun a H => ?_
 refine then_normal (wp_seq (wp_seq (w_region ?_)))
 refine H.ge HP [(8, (ii 0))] [] fun a H => ?_
 refine then_normal (wp_block ?_)
 refine w_loop (fun mm a wv => ∃ (i : Nat), ∃ (z : Nat), 9 - i = mm ∧ Sl 80 [(8, (ii i)), (7, (.int .u64 (z : Int))), (0, (.string (bstr s))), (1, (ii k))] a ∧ Hp w wv [] [] ∧ (i ≤ 9) ∧ (z < 128 ^ i) ∧ (vget (9 - i) i z (s.drop (k + i)) = vget 9 0 0 (s.drop k))) (9 - 0) ?_ ?_
 ·exact ⟨0, 0, (by omega), H.keep (by kernel_rfl), HP, by omega, (by decide), rfl⟩
 rintro mm a w_1 ⟨i, z, hmeas, H, HP, hi, hz, hR⟩
 refine wp_seq (wp_seq (w_region ?_))
 refine H.go HP 3 [(23, (.bool (decide ((i : Int) < 9))))] [] fun a H => ?_
 refine H.split 23 rfl (fun g23 H => ?_) (fun g23 H => ?_)
 ·have g23p := of_decide_eq_true g23
  refine H.go HP 2 [(24, (ii k)), (25, (ii i))] [] fun a H => ?_
  refine H.valE 26 (ii (IntKind.i64.wrap ((k : Int) + (i : Int)))) (ii ((k + i : Nat) : Int)) (by kernel_rfl) (by kernel_rfl) ((by rw [wrap_ini64 _ (by omega)]; first | done | exact congrArg (Value.int .i64) (by omega))) fun a H => ?_
  refine H.ge HP [(30, (.bool (decide (((k + i : Nat) : Int) < (s.length : Int)))))] [] fun a H => ?_
  refine then_normal ?_
  refine w_if H rfl (fun g30 => ?_) (fun g30 => ?_)
  ·have g30p := of_decide_eq_true g30
   refine wp_skip (then_normal (wp_seq (wp_block (wp_seq ?_))))
   obtain ⟨b, hb0⟩ : ∃ b, s.getD (k + i) 0 = b := ⟨_, rfl⟩
   have hdr : s.drop (k + i) = b :: s.drop (k + i + 1) := by rw [← hb0]; exact drop_cons (by omega)
   have hbl := byte_lt b
   have hp128 := pow128_lt (j := i) (by omega)
   obtain ⟨P, hP⟩ : ∃ P, 128 ^ i = P := ⟨_, rfl⟩
   rw [hP] at hz hp128
   obtain ⟨M, hM⟩ : ∃ M, b.toNat % 128 * P = M := ⟨_, rfl⟩
   have hMe : b.toNat % 128 * 128 ^ i = M := by rw [hP]; exact hM
   have hMP : M ≤ 127 * P := by rw [← hM]; exact Nat.mul_le_mul (by omega) (Nat.le_refl _)
   refine w_region ?_
   refine H.go HP 3 [(33, (.string (bstr s))), (34, (ii k)), (35, (ii i))] [] fun a H => ?_
   refine H.valE 36 (ii (IntKind.i64.wrap ((k : Int) + (i : Int)))) (ii ((k + i : Nat) : Int)) (by kernel_rfl) (by kernel_rfl) ((by rw [wrap_ini64 _ (by omega)]; first | done | exact congrArg (Value.int .i64) (by omega))) fun a H => ?_
   refine H.valE 37 (.int .u8 (((s.getD (k + i) 0).toNat : Nat) : Int)) (.int .u8 (b.toNat : Int)) (by kernel_rfl) (ex_sindex (k := .i64) (l := s) (i := ((k + i : Nat) : Int)) (m := k + i) (by kernel_rfl) (by kernel_rfl) (by kernel_rfl) (by omega) (by omega)) ((congrArg (Value.int .u8) (by rw [hb0]))) fun a H => ?_
   refine H.valE 38 (.int .u64 (IntKind.u64.wrap (b.toNat : Int))) (.int .u64 (b.toNat : Int)) (by kernel_rfl) (by kernel_rfl) ((by rw [wrap_inu64 _ (by omega)])) fun a H => ?_
   refine H.ge HP [(9, (.int .u64 (b.toNat : Int)))] [] fun a H => ?_
   refine then_normal (wp_seq (w_region ?_))
   refine H.go HP 2 [(39, (.int .u64 (z : Int))), (40, (.int .u64 (b.toNat : Int)))] [] fun a H => ?_
   refine H.valE 41 (.int .u64 ((b.toNat : Int).tmod 128)) (.int .u64 ((b.toNat % 128 : Nat) : Int)) (by kernel_rfl) (by kernel_rfl) ((by rw [tmod_nn _ _ (by omega)]; exact congrArg (Value.int .u64) (by omega))) fun a H => ?_
   refine H.go HP 1 [(42, (ii i))] [] fun a H => ?_
   refine H.valE 43 (ii (IntKind.i64.wrap (7 * (i : Int)))) (ii ((7 * i : Nat) : Int)) (by kernel_rfl) (by kernel_rfl) ((by rw [wrap_ini64 _ (by omega)]; first | done | exact congrArg (Value.int .i64) (by omega))) fun a H => ?_
   refine H.valE 44 (.int .u64 (IntKind.u64.wrap (((b.toNat % 128 : Nat) : Int) * 2 ^ (7 * i)))) (.int .u64 (M : Int)) (by kernel_rfl) (ex_shl (by kernel_rfl) (by kernel_rfl) (by omega)) ((congrArg (Value.int .u64) (shl_val hMe (by omega)))) fun a H => ?_
   refine H.valE 45 (.int .u64 (IntKind.u64.wrap ((z : Int) + (M : Int)))) (.int .u64 ((z + M : Nat) : Int)) (by kernel_rfl) (by kernel_rfl) ((by rw [wrap_inu64 _ (by omega)]; exact congrArg (Value.int .u64) (by omega))) fun a H => ?_
   refine H.ge HP [(7, (.int .u64 ((z + M : Nat) : Int)))] [] fun a H => ?_
   refine then_normal (wp_seq (wp_seq (w_region ?_)))
   refine H.ge HP [(47, (.bool (decide ((b.toNat : Int) ≥ 128))))] [] fun a H => ?_
   refine then_normal ?_
   refine w_if H rfl (fun g47 => ?_) (fun g47 => ?_)
   ·have g47p := of_decide_eq_true g47
    refine wp_exit (then_exit ?_)
    refine w_exit_here ?_
    refine then_normal (w_region ?_)
    refine H.go HP 1 [(31, (ii i))] [] fun a H => ?_
    refine H.wi 32 ((i : Int) + 1) fun a H => ?_
    refine H.ge HP [(8, (ii ((i : Int) + 1)))] [] fun a H => ?_
    refine then_normal ?_
    have H := H.as 8 (ii ((i + 1 : Nat) : Int)) rfl rfl
    refine ⟨_, ?_, i + 1, z + M, rfl, H.keep (by kernel_rfl), HP, by omega, (by rw [Nat.pow_succ, hP]; omega), (by rw [← hR, hdr, show 9 - i = (9 - (i + 1)) + 1 by omega, vget, if_pos (by omega), hMe, Nat.add_assoc])⟩
    omega
   ·have g47p := of_decide_eq_false g47
    refine wp_skip (then_normal (wp_seq ?_))
    obtain ⟨zz, hzz⟩ : ∃ y, z + M = y := ⟨_, rfl⟩
    have hzb : zz < 9223372036854775808 := by omega
    rw [hzz] at H
    have hlast := int_last hR hdr (by omega) (by omega) (show z + b.toNat % 128 * 128 ^ i = zz by rw [hMe]; exact hzz)
    have H := H.keep (L' := [(7, (.int .u64 (zz : Int))), (8, (ii i)), (0, (.string (bstr s))), (1, (ii k))]) (by kernel_rfl)
    refine w_region ?_
    refine H.go HP 1 [(48, (.int .u64 (zz : Int)))] [] fun a H => ?_
    refine H.valE 49 (.int .u64 (IntKind.u64.wrap ((zz : Int).tdiv 2))) (.int .u64 ((zz / 2 : Nat) : Int)) (by kernel_rfl) (by kernel_rfl) ((by rw [tdiv_nn _ _ (by omega), wrap_inu64 _ (by omega)]; exact congrArg (Value.int .u64) (by omega))) fun a H => ?_
    refine H.valE 50 (ii (IntKind.i64.wrap ((zz / 2 : Nat) : Int))) (ii ((zz / 2 : Nat) : Int)) (by kernel_rfl) (by kernel_rfl) ((by rw [wrap_ini64 _ (by omega)])) fun a H => ?_
    refine H.ge HP [(10, (ii ((zz / 2 : Nat) : Int)))] [] fun a H => ?_
    refine then_normal ?_
    refine w_cut (fun a wv => Sl 80 [(10, (ii (unzig zz))), (8, (ii i)), (0, (.string (bstr s))), (1, (ii k))] a ∧ Hp w wv [] []) ?_ ?_
    ·
     refine wp_seq (w_region ?_)
     refine H.go HP 1 [(51, (.int .u64 (zz : Int)))] [] fun a H => ?_
     refine H.valE 52 (.int .u64 ((zz : Int).tmod 2)) (.int .u64 ((zz % 2 : Nat) : Int)) (by kernel_rfl) (by kernel_rfl) ((by rw [tmod_nn _ _ (by omega)]; exact congrArg (Value.int .u64) (by omega))) fun a H => ?_
     refine H.ge HP [(53, (.bool (((zz % 2 : Nat) : Int) == 1)))] [] fun a H => ?_
     refine then_normal ?_
     refine w_if H rfl (fun g53 => ?_) (fun g53 => ?_)
     ·have g53p := eq_of_beq g53
      refine w_region ?_
      refine H.go HP 1 [(54, (ii ((zz / 2 : Nat) : Int)))] [] fun a H => ?_
      refine H.valE 55 (ii (IntKind.i64.wrap (0 - ((zz / 2 : Nat) : Int)))) (ii (-((zz / 2 : Nat) : Int))) (by kernel_rfl) (by kernel_rfl) ((by rw [Int.zero_sub, wrap_ini64 _ (by omega)])) fun a H => ?_
      refine H.wi 56 ((-((zz / 2 : Nat) : Int)) - 1) fun a H => ?_
      refine H.ge HP [(10, (ii ((-((zz / 2 : Nat) : Int)) - 1)))] [] fun a H => ?_
      refine then_normal ?_
      have H := H.as 10 (ii (unzig zz)) rfl (congrArg (Value.int .i64) (by unfold unzig; rw [if_pos (by omega)]))
      exact ⟨H.keep (by kernel_rfl), HP⟩
     ·have g53p := ne_of_beq_false g53
      refine wp_skip (then_normal ?_)
      have H := H.as 10 (ii (unzig zz)) rfl (congrArg (Value.int .i64) (by unfold unzig; rw [if_neg (by omega)]))
      exact ⟨H.keep (by kernel_rfl), HP⟩
    ·
     rintro a w_2 ⟨H, HP⟩
     refine wp_seq ?_
     have hule := unzig_le zz hzb
     refine w_region ?_
     refine H.go HP 1 [(58, (ii (unzig zz)))] [] fun a H => ?_
     refine H.call 59 (by kernel_rfl) (Eq.trans (by kernel_rfl : _ = (callFunc 31 #[(ii (unzig zz))]).run Tryd.prog w_2) (Tryd.call31 _ _)) (rputInt_all (unzig zz) w_2 hule) ?_
     rintro e w_3 ⟨rfl, hb⟩
     refine ⟨_, rfl, ?_⟩
     intro a H
     have HP := HP.next hb
     refine H.ge HP [(11, (.string (bstr (if -wmax ≤ unzig zz then encInt (unzig zz) else [])))), (12, (ii (if -wmax ≤ unzig zz then 0 else 10 : Int)))] [] fun a H => ?_
     refine then_normal (wp_seq (wp_seq (w_region ?_)))
     refine H.go HP 3 [(64, (.bool ((if -wmax ≤ unzig zz then 0 else 10 : Int) != 0)))] [] fun a H => ?_
     refine H.split 64 rfl (fun g64 H => ?_) (fun g64 H => ?_)
     ·have g64p := bne_iff_ne.1 g64
      refine H.ge HP [(74, (.bool true))] [] fun a H => ?_
      refine then_normal ?_
      refine w_ift H rfl ?_
      refine wp_seq (w_region ?_)
      refine H.ge HP [(4, (ii 0)), (5, (ii 0)), (6, (ii 10))] [] fun a H => ?_
      refine then_normal (wp_ret (then_ret (inb_ret (then_ret (then_ret (inb_ret (then_ret ?_)))))))
      refine H.ret3 (fn := Tryd.f36) Tryd.results36 (RV.tmp_ (v := (ii 0)) (by kernel_rfl)) (RV.tmp_ (v := (ii 0)) (by kernel_rfl)) (RV.tmp_ (v := (ii 10)) (by kernel_rfl)) ?_
      exact ⟨by rw [int_no hk hlast (.inl g64p)]; rfl, HP.bl⟩
     ·have g64p := eq_of_bne_false g64
      refine H.go HP 5 [(65, (.string (bstr (if -wmax ≤ unzig zz then encInt (unzig zz) else [])))), (66, (.string (bstr s))), (67, (ii k)), (68, (ii k)), (69, (ii i))] [] fun a H => ?_
      refine H.valE 70 (ii (IntKind.i64.wrap ((k : Int) + (i : Int)))) (ii ((k + i : Nat) : Int)) (by kernel_rfl) (by kernel_rfl) ((by rw [wrap_ini64 _ (by omega)]; first | done | exact congrArg (Value.int .i64) (by omega))) fun a H => ?_
      refine H.valE 71 (ii (IntKind.i64.wrap (((k + i : Nat) : Int) + 1))) (ii ((k + i + 1 : Nat) : Int)) (by kernel_rfl) (by kernel_rfl) ((by rw [wrap_ini64 _ (by omega)]; first | done | exact congrArg (Value.int .i64) (by omega))) fun a H => ?_
      refine H.u 72 (.string (bstr ((s.drop k).take ((k + i + 1) - k)))) (ex_sslice (k := .i64) (kk := .i64) (l := s) (i := (k : Int)) (j := ((k + i + 1 : Nat) : Int)) (a := k) (b := (k + i + 1)) (by kernel_rfl) (by kernel_rfl) (by kernel_rfl) (by kernel_rfl) (by omega) (by omega) (by omega) (by omega)) fun a H => ?_
      refine H.valE 73 (.bool (!((bstr (if -wmax ≤ unzig zz then encInt (unzig zz) else [])).toList == (bstr ((s.drop k).take ((k + i + 1) - k))).toList))) (.bool (!((if -wmax ≤ unzig zz then encInt (unzig zz) else []) == ((s.drop k).take ((k + i + 1) - k))))) (by kernel_rfl) (by kernel_rfl) ((congrArg (fun b => Value.bool (!b)) (bstr_eq _ _))) fun a H => ?_
      refine H.ge HP [(74, (.bool (!((if -wmax ≤ unzig zz then encInt (unzig zz) else []) == ((s.drop k).take ((k + i + 1) - k))))))] [] fun a H => ?_
      refine then_normal ?_
      refine w_if H rfl (fun g74 => ?_) (fun g74 => ?_)
      ·have g74p := not_is_true g74
       refine wp_seq (w_region ?_)
       refine H.ge HP [(4, (ii 0)), (5, (ii 0)), (6, (ii 10))] [] fun a H => ?_
       refine then_normal (wp_ret (then_ret (inb_ret (then_ret (then_ret (inb_ret (then_ret ?_)))))))
       refine H.ret3 (fn := Tryd.f36) Tryd.results36 (RV.tmp_ (v := (ii 0)) (by kernel_rfl)) (RV.tmp_ (v := (ii 0)) (by kernel_rfl)) (RV.tmp_ (v := (ii 10)) (by kernel_rfl)) ?_
       exact ⟨by rw [int_no hk hlast (.inr (ne_of_beq_false g74p))]; rfl, HP.bl⟩
      ·have g74p := not_is_false g74
       refine wp_skip (then_normal (wp_seq (w_region ?_)))
       refine H.go HP 3 [(75, (ii (unzig zz))), (76, (ii k)), (77, (ii i))] [] fun a H => ?_
       refine H.valE 78 (ii (IntKind.i64.wrap ((k : Int) + (i : Int)))) (ii ((k + i : Nat) : Int)) (by kernel_rfl) (by kernel_rfl) ((by rw [wrap_ini64 _ (by omega)]; first | done | exact congrArg (Value.int .i64) (by omega))) fun a H => ?_
       refine H.valE 79 (ii (IntKind.i64.wrap (((k + i : Nat) : Int) + 1))) (ii ((k + i + 1 : Nat) : Int)) (by kernel_rfl) (by kernel_rfl) ((by rw [wrap_ini64 _ (by omega)]; first | done | exact congrArg (Value.int .i64) (by omega))) fun a H => ?_
       refine H.ge HP [(4, (ii (unzig zz))), (5, (ii ((k + i + 1 : Nat) : Int))), (6, (ii 0))] [] fun a H => ?_
       refine then_normal (wp_ret (inb_ret (then_ret (then_ret (inb_ret (then_ret ?_))))))
       refine H.ret3 (fn := Tryd.f36) Tryd.results36 (RV.tmp_ (v := (ii (unzig zz))) (by kernel_rfl)) (RV.tmp_ (v := (ii ((k + i + 1 : Nat) : Int))) (by kernel_rfl)) (RV.tmp_ (v := (ii 0)) (by kernel_rfl)) ?_
       exact ⟨by rw [int_yes hk (k2 := k + i + 1) (by omega) g64p (eq_of_beq g74p) hule]; rfl, HP.bl⟩
  ·have g30p := of_decide_eq_false g30
   refine wp_exit (then_exit (then_exit ?_))
   refine w_exit_here ?_
   refine then_normal (wp_seq (w_region ?_))
   refine H.ge HP [(4, (ii 0)), (5, (ii 0)), (6, (ii 10))] [] fun a H => ?_
   refine then_normal (wp_ret ?_)
   refine H.ret3 (fn := Tryd.f36) Tryd.results36 (RV.tmp_ (v := (ii 0)) (by kernel_rfl)) (RV.tmp_ (v := (ii 0)) (by kernel_rfl)) (RV.tmp_ (v := (ii 10)) (by kernel_rfl)) ?_
   exact ⟨by rw [int_out hR (by omega)]; rfl, HP.bl⟩
 ·have g23p := of_decide_eq_false g23
  refine H.ge HP [(30, (.bool false))] [] fun a H => ?_
  refine then_normal ?_
  refine w_iff H rfl ?_
  refine wp_exit (then_exit (then_exit ?_))
  refine w_exit_here ?_
  refine then_normal (wp_seq (w_region ?_))
  refine H.ge HP [(4, (ii 0)), (5, (ii 0)), (6, (ii 10))] [] fun a H => ?_
  refine then_normal (wp_ret ?_)
  refine H.ret3 (fn := Tryd.f36) Tryd.results36 (RV.tmp_ (v := (ii 0)) (by kernel_rfl)) (RV.tmp_ (v := (ii 0)) (by kernel_rfl)) (RV.tmp_ (v := (ii 10)) (by kernel_rfl)) ?_
  exact ⟨by rw [int_out hR (by omega)]; rfl, HP.bl⟩
section
variable {α : Type} {cs : α → Array Value} {size : Nat}
def dropA (A : Option Addr) (cap i sz : Nat) : Option Addr := if cap = i then A else A.map (·.add (i * sz))
theorem flat_drop (hk : ∀ x, (cs x).size = size) (l : List α) (j : Nat) : (flat cs l).drop (j * size) = flat cs (l.drop j) := by
  induction l generalizing j with
  | nil => simp
  | cons a l ih =>
    cases j with
    | zero => simp
    | succ j =>
      simp only [flat, List.flatMap_cons, List.drop_succ_cons] at *
      rw [List.drop_append, ← ih j, Array.length_toList, hk, Nat.succ_mul, Nat.add_sub_cancel, List.drop_of_length_le (by rw [Array.length_toList, hk]; omega), List.nil_append]
theorem IsRow.dropA (hk : ∀ x, (cs x).size = size) {w : World} {A : Option Addr} {l : List α} {cap i : Nat} (h : IsRow size cs w A l) (hc : l.length ≤ cap) (hi : i ≤ l.length) : Rd w size (dropA A cap i size) (l.length - i) (flat cs (l.drop i)) := by
  obtain ⟨h1, h2⟩ := h
  refine ⟨by rw [flat_len hk, List.length_drop], ?_⟩
  by_cases hz : l.length - i = 0
  · exact .inl hz
  · obtain ⟨b, off, rfl, hb, hcell⟩ := h2.resolve_left (by omega)
    refine .inr ⟨b, off + i * size, ?_, hb, fun j hj => ?_⟩
    · unfold Proofs.YtcifcipjndiegaaDoor.dropA
      rw [if_neg (by omega), Option.map_some, add_plain]
    · rw [Nat.add_assoc, hcell (i * size + j) (by rw [Nat.sub_mul] at hj; omega), ← flat_drop hk, List.getElem?_drop]
end
section
variable {P : Program} {ρ : Operand → Value} {w : World} {t e : TypeId} {x y : Operand} {dst : Option Tmp} {ty : TypeId} {pos : String} {af : Array Edge} {g : Option (Nat × Bool)}
theorem ex_sliceLo {A : Option Addr} {len cap i sz : Nat} {lo : Int} (hx : ρ x = .slice A len cap) (hy : ρ y = .int .i64 lo) (hu : P.underlying t = some (.slice (P.elem t))) (hs : sizeB P (P.elem t) = some sz) (h1 : lo = (i : Int)) (h2 : i ≤ len) :
    (execOp ρ ⟨dst, .slice t x (some y) none none, ty, pos, af, g⟩).run P w = .ok (.value (.slice (dropA A cap i sz) (len - i) (cap - i))) w := by
  subst h1
  have e : sliced A i len cap sz = .slice (dropA A cap i sz) (len - i) (cap - i) := rfl
  simp only [execOp, hx, hy, Option.map_none, Option.map_some, run_sliceAt_slice w t _ _ _ _ hu, run_slice_l w t A len cap hu .i64 (i : Int) (by omega) (by omega), run_sizeOf hs, Sem.run_bind, Result.andThen_ok, Sem.run_pure, Int.toNat_natCast, e]
theorem ex_indexD {A : Option Addr} {b off len cap m : Nat} {i : Int} (hA : A = some ⟨b, off, none⟩) (hx : ρ x = .slice (dropA A cap 1 1) len (cap - 1)) (hy : ρ y = .int .i64 i) (hm : i = (m : Int)) (hlt : m < len) (hlc : len < cap) (hu : P.underlying t = some (.slice e)) (hs : sizeB P e = some 1) :
    (execOp ρ ⟨dst, .indexAddr t x y, ty, pos, af, g⟩).run P w = .ok (.value (.pointer (some ⟨b, off + (m + 1) * 1, none⟩))) w := by
  subst hA
  have e1 : dropA (some ⟨b, off, none⟩) cap 1 1 = some ⟨b, off + 1, none⟩ := by
    unfold dropA
    rw [if_neg (by omega), Option.map_some, add_plain]
  rw [e1] at hx
  have := ex_index (P := P) (w := w) (dst := dst) (ty := ty) (pos := pos) (af := af) (g := g) hx hy hm hlt hu hs
  rw [this, show off + 1 + m * 1 = off + (m + 1) * 1 by omega]
end
theorem join_snoc : ∀ (l : List Str) (x : Str), l ≠ [] → joinL (l ++ [x]) = joinL l ++ 10 :: x
 | [], _, h => absurd rfl h
 | [y], x, _ => by simp [joinL]
 | y :: z :: l, x, _ => by
  have := join_snoc (z :: l) x (by simp)
  simp only [List.cons_append] at this ⊢
  rw [joinL, this, joinL]
  simp
theorem join_len {l : List Str} (hs : ∀ y ∈ l, y.length ≤ 1000) (k : Nat) : (joinL (l.take k)).length ≤ 1001 * k := by
 induction k with
 | zero => simp [joinL]
 | succ k ih =>
  by_cases hk : k < l.length
  ·rw [List.take_add_one, List.getElem?_eq_getElem hk]
   have hy := hs _ (List.getElem_mem hk)
   by_cases h0 : l.take k = []
   ·rw [h0]; simp [joinL]; omega
   ·simp only [Option.toList_some]
    rw [join_snoc _ _ h0, List.length_append, List.length_cons]
    omega
  ·rw [List.take_of_length_le (by omega)] at ih ⊢
   omega
theorem join_one {l : List Str} {x : Str} (h : l[0]? = some x) : [] ++ x = joinL (l.take (0 + 1)) := by
 cases l with
 | nil => cases h
 | cons y l => simp at h; subst h; rfl
theorem join_take {l : List Str} {x : Str} {i : Nat} (hi : i + 1 < l.length) (h : l[i + 1]? = some x) : joinL (l.take (i + 1 + 1)) = joinL (l.take (i + 1)) ++ [10] ++ x := by
 rw [List.take_add_one (i := i + 1), h]
 simp only [Option.toList_some]
 rw [join_snoc _ _ (by intro e; have := congrArg List.length e; rw [List.length_take] at this; simp only [List.length_nil] at this; omega)]
 simp
theorem join_ne {l : List Str} (h : 2 ≤ l.length) : joinL l ≠ [] := by
 match l, h with
 | x :: y :: l, _ => simp [joinL]
theorem join_single {l : List Str} {x : Str} (h : l.length = 1) (hx : l[0]? = some x) : joinL l = x := by
 match l, h with
 | [y], _ => simp at hx; subst hx; rfl
theorem join_quo {b : Int} (h : 1 ≤ b ∧ b ≤ 1000) : -9223372036854775808 ≤ (9223372036854775807 : Int) / b ∧ (9223372036854775807 : Int) / b ≤ 9223372036854775807 := by
 refine ⟨?_, Int.ediv_le_self _ (by omega)⟩
 have := Int.ediv_nonneg (a := 9223372036854775807) (b := b) (by omega) (by omega)
 omega
theorem join_far {b x : Int} (h : 1 ≤ b ∧ b ≤ 1000) (hx : x ≤ 1) : ¬ x ≥ (9223372036854775807 : Int) / b := fun h2 => by
 have h3 : (9223372036854775807 : Int) / 1000 ≤ 9223372036854775807 / b := by
  apply Int.le_ediv_of_mul_le (by omega)
  have : (9223372036854775807 : Int) / 1000 * b ≤ 9223372036854775807 / 1000 * 1000 := Int.mul_le_mul_of_nonneg_left h.2 (by omega)
  omega
 omega
theorem ex_quo {P : Program} {ρ : Operand → Value} {w : World} {x y : Operand} {dst : Option Tmp} {t t' ty : TypeId} {pos : String} {af : Array Edge} {g : Option (Nat × Bool)} {a b : Int} (hx : ρ x = .int .i64 a) (hy : ρ y = .int .i64 b) (hb : 0 < b) :
  (execOp ρ ⟨dst, .binOp .quo t x y t', ty, pos, af, g⟩).run P w = .ok (.value (.int .i64 (IntKind.i64.wrap (a.tdiv b)))) w := by
 have h : ¬ b = 0 := by omega
 simp [execOp, hx, hy, go_sem, h]
theorem Hp.grown {w0 w w' : World} {K : List FK} {b : Nat} {v v1 : Value} (H : Hp w0 w [bx b 79 [.pointer none, v1] true] K) (hbel : Below b w w') (h1 : w'.heap[b]? = some (.cells #[.pointer (some ⟨b, 0, none⟩), v] 79 (0, 0))) (h2 : w'.ownsRow b 5 1 v 0 []) (h3 : v.ownBlock ≠ some b) : Hp w0 w' [bldR w0.heap.size b v []] [] := by
 have hf := H.fresh _ (List.mem_cons_self ..) rfl b rfl
 have hown := own_weak h2 hf
 refine ((Hp.start w0).next ⟨hbel.os.trans H.os, hbel.tape.trans H.tape, hbel.output.trans H.output, Nat.le_trans H.size hbel.size, fun k hk => (hbel.block k (by omega)).trans (H.old k hk fun x hx e => ?_)⟩).add (bldR w0.heap.size b v []) ⟨hf, ⟨_, .inr rfl, h1⟩, World.ownsRowF_of hown, h3⟩ (bldG_ok _ _ _ _ _ _) (fun k hk => ?_) (fun _ _ => ⟨(fun _ h => by cases h), (fun _ h => by cases h)⟩) fun _ k hk => ?_
 ·rcases List.mem_singleton.1 hx with rfl
  have : k = b := e
  omega
 ·rcases hk with rfl | hk
  ·exact (Array.getElem?_eq_some_iff.1 h1).1
  ·exact (own_lt hown k hk).1
 ·rcases hk with rfl | hk
  ·exact hf
  ·exact own_ge hown k hk
set_option maxRecDepth 100000 in
set_option maxHeartbeats 4000000 in
theorem join_any (A : Option Addr) (c : Nat) (l : List Str) (w : World) (hr : IsRow 1 strC w A l) (hc : l.length ≤ c) (hl : l.length ≤ 1000) (hs : ∀ y ∈ l, y.length ≤ 1000) : Calls Tryd.prog 26 #[.slice A l.length c, .string (bstr [10])] w fun e w' => e = .returned (.string (bstr (joinL l))) ∧ Below w.heap.size w w' := by
 have HP := (Hp.start w).keepF (rowF 1 strC A l) hr (rowF_ok _ _ _ _) fun k hk => ⟨hr.lt k hk, fun x hx => by cases hx⟩
 refine w_enter 75 [(0, (.slice A l.length c)), (1, (.string (bstr ([10]))))] Tryd.func26 rfl Tryd.ntmps26 (by kernel_rfl) (by kernel_rfl) fun a H => ?_
 refine wp_seq (w_region ?_)
 refine H.ge HP [(4, (.string (bstr ([]))))] [] fun a H => ?_
 refine then_normal (wp_seq (wp_seq (w_region ?_)))
 refine H.ge HP [(12, (ii l.length))] [] fun a H => ?_
 refine then_normal (wp_block (wp_seq (w_region ?_)))
 refine H.ge HP [(13, (.bool ((l.length : Int) == 0)))] [] fun a H => ?_
 refine then_normal ?_
 refine w_if H rfl (fun g13 => ?_) (fun g13 => ?_)
 ·have g13p := eq_of_beq g13
  refine wp_seq (w_region ?_)
  refine H.ge HP [(4, (.string (bstr ([]))))] [] fun a H => ?_
  refine then_normal (wp_ret (inb_ret (then_ret ?_)))
  refine H.ret1 (fn := Tryd.f26) Tryd.results26 (RV.tmp_ (v := (.string (bstr ([])))) (by kernel_rfl)) ?_
  exact ⟨by rw [show l = [] from List.eq_nil_of_length_eq_zero (by omega)]; rfl, HP.bl⟩
 ·have g13p := ne_of_beq_false g13
  refine wp_seq (w_region ?_)
  refine H.ge HP [(15, (.bool ((l.length : Int) == 1)))] [] fun a H => ?_
  refine then_normal ?_
  refine w_if H rfl (fun g15 => ?_) (fun g15 => ?_)
  ·have g15p := eq_of_beq g15
   refine wp_seq (w_region ?_)
   refine H.go HP 1 [(17, (.slice A l.length c))] [] fun a H => ?_
   obtain ⟨bu_2, ou_3, x_1, hA_4, _, hd_6, hx_5, hm_7, _⟩ := IsRow.get strC_size (HP.fact 0 rfl : IsRow 1 strC _ A l) (i := 0) (by omega)
   have hxl := hs _ hm_7
   refine H.u 18 (.pointer (some ⟨bu_2, ou_3 + 0 * 1, none⟩)) (ex_indexA (b := bu_2) (off := ou_3) (len := l.length) (cap := c) (e := 9) (k := 1) (ik := .i64) (i := 0) (m := 0) hA_4 (by kernel_rfl) (by kernel_rfl) (by omega) (by omega) (by kernel_rfl) (by kernel_rfl)) fun a H => ?_
   refine H.u 19 (.string (bstr x_1)) (ex_l1 (by have hh := IsRow.cells strC_size (HP.fact 0 rfl : IsRow 1 strC _ A l) hA_4 hx_5 0 _ rfl; rwa [Nat.add_zero] at hh)) fun a H => ?_
   refine H.ge HP [(4, (.string (bstr x_1)))] [] fun a H => ?_
   refine then_normal (wp_ret (inb_ret (then_ret ?_)))
   refine H.ret1 (fn := Tryd.f26) Tryd.results26 (RV.tmp_ (v := (.string (bstr x_1))) (by kernel_rfl)) ?_
   exact ⟨by rw [join_single (by omega) hx_5], HP.bl⟩
  ·have g15p := ne_of_beq_false g15
   refine wp_skip (inb_normal (then_normal (wp_seq (w_region ?_))))
   refine H.ge HP [(5, (ii 0))] [] fun a H => ?_
   refine then_normal (wp_seq (wp_seq (w_region ?_)))
   refine H.ge HP [(22, (.bool true))] [] fun a H => ?_
   refine then_normal ?_
   refine w_ift H rfl ?_
   refine wp_seq (wp_seq (w_region ?_))
   refine H.go HP 4 [(24, (ii 1)), (26, (ii l.length))] [] fun a H => ?_
   refine H.wi 27 ((l.length : Int) - 1) fun a H => ?_
   refine H.valE 28 (ii (IntKind.i64.wrap ((9223372036854775807 : Int).tdiv ((l.length : Int) - 1)))) (ii ((9223372036854775807 : Int) / ((l.length : Int) - 1))) (by kernel_rfl) (ex_quo (by kernel_rfl) (by kernel_rfl) (by omega)) ((by rw [tdiv_nn _ _ (by omega), wrap_ini64 _ (join_quo (by omega))])) fun a H => ?_
   refine H.ge HP [(29, (.bool (decide (1 ≥ ((9223372036854775807 : Int) / ((l.length : Int) - 1))))))] [] fun a H => ?_
   refine then_normal ?_
   have H := H.as 29 (.bool false) rfl (congrArg Value.bool (decide_eq_false (join_far (by omega) (by omega))))
   refine w_iff H rfl ?_
   refine wp_skip (then_normal (w_region ?_))
   refine H.go HP 5 [(31, (ii 0)), (33, (ii 1)), (35, (ii l.length))] [] fun a H => ?_
   refine H.wi 36 ((l.length : Int) - 1) fun a H => ?_
   refine H.wi 37 (1 * ((l.length : Int) - 1)) fun a H => ?_
   refine H.wi 38 (0 + (1 * ((l.length : Int) - 1))) fun a H => ?_
   refine H.ge HP [(5, (ii (0 + (1 * ((l.length : Int) - 1)))))] [] fun a H => ?_
   refine then_normal (wp_seq (wp_seq (w_region ?_)))
   refine H.ge HP [(39, (.slice A l.length c)), (40, (ii l.length)), (41, (ii 0))] [] fun a H => ?_
   refine then_normal (wp_block ?_)
   have H := H.as 5 (ii ((l.length : Int) - 1)) rfl (congrArg (Value.int .i64) (by omega))
   refine w_loop (fun mm a wv => ∃ (i : Nat), ∃ (n : Int), l.length - i = mm ∧ Sl 75 [(41, (ii i)), (40, (ii l.length)), (39, (.slice A l.length c)), (5, (ii n)), (0, (.slice A l.length c)), (1, (.string (bstr ([10]))))] a ∧ Hp w wv [] [rowF 1 strC A l] ∧ (i ≤ l.length) ∧ (0 ≤ n ∧ n ≤ 1000 + 1000 * (i : Int))) (l.length - 0) ?_ ?_
   ·exact ⟨0, ((l.length : Int) - 1), (by omega), H.keep (by kernel_rfl), HP, (Nat.zero_le _), ⟨by omega, by omega⟩⟩
   rintro mm a w_8 ⟨i, n, hmeas, H, HP, hi, hn⟩
   refine wp_seq (w_region ?_)
   refine H.ge HP [(42, (.bool (decide ((i : Int) < (l.length : Int)))))] [] fun a H => ?_
   refine then_normal (wp_seq ?_)
   refine w_if H rfl (fun g42 => ?_) (fun g42 => ?_)
   ·have g42p := of_decide_eq_true g42
    refine wp_skip (then_normal (wp_seq (wp_block (wp_seq (w_region ?_)))))
    obtain ⟨bu_10, ou_11, x_9, hA_12, _, hd_14, hx_13, hm_15, _⟩ := IsRow.get strC_size (HP.fact 0 rfl : IsRow 1 strC _ A l) (i := i) (by omega)
    have hxl := hs _ hm_15
    refine H.u 43 (.pointer (some ⟨bu_10, ou_11 + i * 1, none⟩)) (ex_indexA (b := bu_10) (off := ou_11) (len := l.length) (cap := c) (e := 9) (k := 1) (ik := .i64) (i := (i : Int)) (m := i) hA_12 (by kernel_rfl) (by kernel_rfl) (by omega) (by omega) (by kernel_rfl) (by kernel_rfl)) fun a H => ?_
    refine H.u 44 (.string (bstr x_9)) (ex_l1 (by have hh := IsRow.cells strC_size (HP.fact 0 rfl : IsRow 1 strC _ A l) hA_12 hx_13 0 _ rfl; rwa [Nat.add_zero] at hh)) fun a H => ?_
    refine H.ge HP [(7, (.string (bstr x_9)))] [] fun a H => ?_
    refine then_normal (wp_seq (wp_seq (w_region ?_)))
    refine H.go HP 3 [(46, (ii x_9.length)), (47, (ii n))] [] fun a H => ?_
    refine H.wi 48 (9223372036854775807 - n) fun a H => ?_
    refine H.ge HP [(49, (.bool (decide ((x_9.length : Int) > (9223372036854775807 - n)))))] [] fun a H => ?_
    refine then_normal ?_
    have H := H.as 49 (.bool false) rfl (congrArg Value.bool (decide_eq_false (by have := hs _ hm_15; omega)))
    refine w_iff H rfl ?_
    refine wp_skip (then_normal (w_region ?_))
    refine H.go HP 3 [(51, (ii n)), (53, (ii x_9.length))] [] fun a H => ?_
    refine H.wi 54 (n + (x_9.length : Int)) fun a H => ?_
    refine H.ge HP [(5, (ii (n + (x_9.length : Int))))] [] fun a H => ?_
    refine inb_normal (then_normal (w_region ?_))
    refine H.wi 55 ((i : Int) + 1) fun a H => ?_
    refine H.ge HP [(41, (ii ((i : Int) + 1)))] [] fun a H => ?_
    refine then_normal ?_
    have H := H.as 41 (ii ((i + 1 : Nat) : Int)) rfl rfl
    refine ⟨_, ?_, i + 1, n + (x_9.length : Int), rfl, H.keep (by kernel_rfl), HP, (by omega), (by have := hs _ hm_15; constructor <;> omega)⟩
    omega
   ·have g42p := of_decide_eq_false g42
    refine wp_exit (then_exit (then_exit ?_))
    refine w_exit_here ?_
    refine then_normal (wp_seq (w_region ?_))
    refine H.alloc HP 8 (fun b => (pt b 0)) 79 [(.pointer none), (.slice none 0 0)] (by kernel_rfl) (fun w => by kernel_rfl) fun b_16 w_17 a H HP => ?_
    refine wpList_nil (then_normal (wp_seq ?_))
    obtain ⟨m, hm⟩ : ∃ m : Nat, n = (m : Int) := ⟨n.toNat, by omega⟩
    have H := H.as 5 (ii m) rfl (congrArg (Value.int .i64) hm)
    refine w_region ?_
    refine H.go HP 1 [(56, (ii m))] [] fun a H => ?_
    have hbx := HP.at_ 0 rfl
    have hbl := hbx.lt
    refine H.call 57 (by kernel_rfl) (Eq.trans (by kernel_rfl : _ = (callFunc 41 #[(pt b_16 0), (ii m)]).run Tryd.prog w_17) (Tryd.call41 _ _)) (Tryd.Builder_Grow_fresh b_16 b_16 m w_17 (Nat.le_refl _) hbx (by omega) (by omega)) ?_
    rintro e w_18 ⟨rfl, ⟨_, v0, hv1, hv2, hv3⟩, hbel⟩
    refine ⟨_, rfl, ?_⟩
    intro a H
    have HP := Hp.grown HP hbel hv1 hv2 hv3
    have HP := HP.keepF (rowF 1 strC A l) (IsRow.below hr HP.bl) (rowF_ok _ _ _ _) fun k hk => ⟨Nat.lt_of_lt_of_le (hr.lt k hk) HP.size, fun x hx hxk => by have h5 := HP.fresh x hx (by rcases List.mem_singleton.1 hx with rfl; rfl) k hxk; have h6 := hr.lt k hk; omega⟩
    refine wpList_nil (then_normal (wp_seq (w_region ?_)))
    refine H.go HP 1 [(58, (.slice A l.length c))] [] fun a H => ?_
    obtain ⟨bu_20, ou_21, x_19, hA_22, _, hd_24, hx_23, hm_25, _⟩ := IsRow.get strC_size (HP.fact 0 rfl : IsRow 1 strC _ A l) (i := 0) (by omega)
    have hxl := hs _ hm_25
    refine H.u 59 (.pointer (some ⟨bu_20, ou_21 + 0 * 1, none⟩)) (ex_indexA (b := bu_20) (off := ou_21) (len := l.length) (cap := c) (e := 9) (k := 1) (ik := .i64) (i := 0) (m := 0) hA_22 (by kernel_rfl) (by kernel_rfl) (by omega) (by omega) (by kernel_rfl) (by kernel_rfl)) fun a H => ?_
    refine H.u 60 (.string (bstr x_19)) (ex_l1 (by have hh := IsRow.cells strC_size (HP.fact 0 rfl : IsRow 1 strC _ A l) hA_22 hx_23 0 _ rfl; rwa [Nat.add_zero] at hh)) fun a H => ?_
    refine H.call 61 (by kernel_rfl) (Eq.trans (by kernel_rfl : _ = (callFunc 42 #[(pt b_16 0), (.string (bstr x_19))]).run Tryd.prog w_18) (Tryd.call42 _ _)) (writeStr_any w.heap.size b_16 v0 ([]) x_19 w_18 (HP.held 0 rfl) (by have := hs _ hm_25; simp only [List.length_append, List.length_cons, List.length_nil]; first | omega | (have := hjl; omega)) HP.size) ?_
    rintro e w_27 ⟨rfl, v_26, hF, hag, hvn⟩
    refine ⟨_, rfl, ?_⟩
    intro a H
    have HP := HP.wrote 0 rfl [(bldR w.heap.size b_16 v_26 ([] ++ x_19))] (by kernel_rfl) hF hag hvn
    refine wpList_nil ?_
    have hone : [] ++ x_19 = joinL (l.take (0 + 1)) := join_one hx_23
    rw [hone] at HP
    refine then_normal (wp_seq (wp_seq (w_region ?_)))
    refine H.go HP 1 [(62, (.slice A l.length c))] [] fun a H => ?_
    refine H.u 63 (.slice (dropA A c 1 1) (l.length - 1) (c - 1)) (ex_sliceLo (A := A) (len := l.length) (cap := c) (i := 1) (sz := 1) (by kernel_rfl) (by kernel_rfl) (by kernel_rfl) (by kernel_rfl) rfl (by omega)) fun a H => ?_
    refine H.ge HP [(64, (ii (((l.length - 1) : Nat) : Int))), (65, (ii 0))] [] fun a H => ?_
    refine then_normal (wp_block ?_)
    refine w_loop (fun mm a wv => ∃ (i : Nat), ∃ (v : Value), l.length - 1 - i = mm ∧ Sl 75 [(65, (ii i)), (64, (ii ((l.length - 1 : Nat) : Int))), (63, (.slice (dropA A c 1 1) (l.length - 1) (c - 1))), (8, (pt b_16 0)), (0, (.slice A l.length c)), (1, (.string (bstr ([10]))))] a ∧ Hp w wv [(bldR w.heap.size b_16 v (joinL (l.take (i + 1))))] [rowF 1 strC A l] ∧ (i ≤ l.length - 1)) (l.length - 1 - 0) ?_ ?_
    ·exact ⟨0, v_26, (by omega), H.keep (by kernel_rfl), HP, (Nat.zero_le _)⟩
    rintro mm a w_28 ⟨i, v, hmeas, H, HP, hi⟩
    have hjl := join_len hs (i + 1)
    refine wp_seq (w_region ?_)
    refine H.ge HP [(66, (.bool (decide ((i : Int) < ((l.length - 1 : Nat) : Int)))))] [] fun a H => ?_
    refine then_normal (wp_seq ?_)
    refine w_if H rfl (fun g66 => ?_) (fun g66 => ?_)
    ·have g66p := of_decide_eq_true g66
     refine wp_skip (then_normal (wp_seq (wp_block (wp_seq (w_region ?_)))))
     obtain ⟨bu_30, ou_31, x_29, hA_32, _, hd_34, hx_33, hm_35, _⟩ := IsRow.get strC_size (HP.fact 0 rfl : IsRow 1 strC _ A l) (i := (i + 1)) (by omega)
     have hxl := hs _ hm_35
     refine H.u 67 (.pointer (some ⟨bu_30, ou_31 + (i + 1) * 1, none⟩)) (ex_indexD (A := A) (cap := c) (len := l.length - 1) (b := bu_30) (off := ou_31) (e := 9) (i := (i : Int)) (m := i) hA_32 (by kernel_rfl) (by kernel_rfl) rfl (by omega) (by omega) (by kernel_rfl) (by kernel_rfl)) fun a H => ?_
     refine H.u 68 (.string (bstr x_29)) (ex_l1 (by have hh := IsRow.cells strC_size (HP.fact 0 rfl : IsRow 1 strC _ A l) hA_32 hx_33 0 _ rfl; rwa [Nat.add_zero] at hh)) fun a H => ?_
     refine H.ge HP [(10, (.string (bstr x_29)))] [] fun a H => ?_
     refine then_normal (wp_seq (w_region ?_))
     refine H.go HP 1 [(69, (.string (bstr ([10]))))] [] fun a H => ?_
     refine H.call 70 (by kernel_rfl) (Eq.trans (by kernel_rfl : _ = (callFunc 42 #[(pt b_16 0), (.string (bstr ([10])))]).run Tryd.prog w_28) (Tryd.call42 _ _)) (writeStr_any w.heap.size b_16 v (joinL (l.take (i + 1))) ([10]) w_28 (HP.held 0 rfl) (by rw [List.length_cons, List.length_nil]; have := hjl; omega) HP.size) ?_
     rintro e w_37 ⟨rfl, v_36, hF, hag, hvn⟩
     refine ⟨_, rfl, ?_⟩
     intro a H
     have HP := HP.wrote 0 rfl [(bldR w.heap.size b_16 v_36 (joinL (l.take (i + 1)) ++ ([10])))] (by kernel_rfl) hF hag hvn
     refine wpList_nil (then_normal (w_region ?_))
     refine H.go HP 1 [(71, (.string (bstr x_29)))] [] fun a H => ?_
     refine H.call 72 (by kernel_rfl) (Eq.trans (by kernel_rfl : _ = (callFunc 42 #[(pt b_16 0), (.string (bstr x_29))]).run Tryd.prog w_37) (Tryd.call42 _ _)) (writeStr_any w.heap.size b_16 v_36 (joinL (l.take (i + 1)) ++ ([10])) x_29 w_37 (HP.held 0 rfl) (by have := hs _ hm_35; simp only [List.length_append, List.length_cons, List.length_nil]; first | omega | (have := hjl; omega)) HP.size) ?_
     rintro e w_39 ⟨rfl, v_38, hF, hag, hvn⟩
     refine ⟨_, rfl, ?_⟩
     intro a H
     have HP := HP.wrote 0 rfl [(bldR w.heap.size b_16 v_38 (joinL (l.take (i + 1)) ++ ([10]) ++ x_29))] (by kernel_rfl) hF hag hvn
     refine wpList_nil (inb_normal (then_normal (w_region ?_)))
     refine H.wi 73 ((i : Int) + 1) fun a H => ?_
     refine H.ge HP [(65, (ii ((i : Int) + 1)))] [] fun a H => ?_
     refine then_normal ?_
     have H := H.as 65 (ii ((i + 1 : Nat) : Int)) rfl rfl
     refine ⟨_, ?_, i + 1, v_38, rfl, H.keep (by kernel_rfl), (by rw [join_take (by omega) hx_33]; exact HP), (by omega)⟩
     omega
    ·have g66p := of_decide_eq_false g66
     refine wp_exit (then_exit (then_exit ?_))
     refine w_exit_here ?_
     refine then_normal (wp_seq (w_region ?_))
     have hi2 : i + 1 = l.length := by omega
     rw [hi2, List.take_of_length_le (Nat.le_refl _)] at HP
     refine H.call 74 (by kernel_rfl) (Eq.trans (by kernel_rfl : _ = (callFunc 43 #[(pt b_16 0)]).run Tryd.prog w_28) (Tryd.call43 _ _)) (str_any w.heap.size b_16 v (joinL l) w_28 (HP.held 0 rfl) (join_ne (by omega))) ?_
     rintro e w_40 ⟨rfl, hF, hag⟩
     refine ⟨_, rfl, ?_⟩
     intro a H
     have HP := HP.wrote 0 rfl [(bldR w.heap.size b_16 v (joinL l))] (by kernel_rfl) hF hag (fun k hk => .inl hk)
     refine H.ge HP [(4, (.string (bstr (joinL l))))] [] fun a H => ?_
     refine then_normal (wp_ret ?_)
     refine H.ret1 (fn := Tryd.f26) Tryd.results26 (RV.tmp_ (v := (.string (bstr (joinL l)))) (by kernel_rfl)) ?_
     exact ⟨rfl, HP.bl⟩
attribute [local go_sem] Oper.semAt_some
abbrev Grp := { p : Nat × Bool // p.1 < 128 }
def grps : Nat → Nat → List Grp
  | 0, _ => []
  | f + 1, z => if h : z < 128 then [⟨(z, false), h⟩] else ⟨(z % 128, true), by omega⟩ :: grps f (z / 128)
def grpByte (g : Grp) : Nat := if g.1.2 then g.1.1 + 128 else g.1.1
theorem grps_put (f z : Nat) : (grps f z).map grpByte = vput f z := by
  induction f generalizing z with
  | zero => rfl
  | succ f ih =>
    unfold grps vput
    by_cases h : z < 128
    · rw [dif_pos h, if_pos h]; rfl
    · rw [dif_neg h, if_neg h, List.map_cons, ih]; rfl
theorem grps_len (f z : Nat) : (grps f z).length = (vput f z).length := by rw [← grps_put, List.length_map]
set_option maxHeartbeats 1000000 in
theorem groups_in (n : Nat) (z : Int) (w : World) :
    CallsIn Fence.wide n Tryd.prog 44 #[.int .u64 z] w fun e w' => e = .returned (.func (.func 54) #[] #[.pointer (some ⟨w.heap.size, 0, none⟩)]) ∧ w' = w.alloc (.cells #[.int .u64 z] 66) := by
  refine callsIn_of_wp Tryd.func44 rfl trivial ?_ rfl
  simp only [Tryd.ntmps44, List.size_toArray, List.length_cons, List.length_nil, Nat.reduceAdd, Nat.reduceSub, Array.replicate_succ, Array.replicate_zero, List.push_toArray, List.append_toArray, List.nil_append, List.cons_append]
  gi_wp2
  go_ret
  exact ⟨rfl, rfl⟩
theorem and127 (z : Nat) (h : z < 18446744073709551616) : bits BinOp.and IntKind.u64 (z : Int) 127 = ((z % 128 : Nat) : Int) := by
  rw [show (127 : Int) = ((127 : Nat) : Int) from rfl, u64_and_nat z 127 h (by omega)]
  congr 1
  exact Nat.and_two_pow_sub_one_eq_mod z 7
set_option maxRecDepth 100000 in
set_option maxHeartbeats 2000000 in
theorem groups1_in (n : Nat) (hn : 1 ≤ n) (l Bs : Nat) (z N : Nat) (f : Nat) (hz : z < 128 ^ f) (hf : 0 < f) (hf9 : f ≤ 9) (hN : (vput f z).length ≤ N) (Kp : World → World → Prop) (J Jx : List Grp → World → Prop)
    (hY : ∀ pre x W, J pre W → pre.length < N → YieldAt Fence.wide (n - 1) Tryd.prog l #[.int .u8 (x.1.1 : Int), .bool x.1.2] W fun e W' =>
      (e = .returned (.bool true) ∧ J (pre ++ [x]) W' ∧ Kp W W') ∨ (e = .returned (.bool false) ∧ Jx (pre ++ [x]) W'))
    (W : World) (hBs : W.cell? ⟨Bs, 0, none⟩ = some (.int .u64 (z : Int))) (h0 : J [] W) :
    CallsIn Fence.wide n Tryd.prog 54 #[.func (.yield l) #[] #[], .pointer (some ⟨Bs, 0, none⟩)] W fun e W' => (∃ v, e = .returned v) ∧
      ((∃ ys, ys = grps f z ∧ J ys W') ∨ (∃ pre, True ∧ Jx pre W')) := by
  have HZ := Lib.hid hz
  have HN := Lib.hid hN
  clear hz hN
  refine callsIn_of_wp Tryd.func54 rfl trivial ?_ rfl
  simp only [Tryd.ntmps54, List.size_toArray, List.length_cons, List.length_nil, Nat.reduceAdd, Nat.reduceSub, Array.replicate_succ, Array.replicate_zero, List.push_toArray, List.append_toArray, List.nil_append, List.cons_append]
  gi_wp2
  gi_loopw [3] (fun r wr => ∃ (pre : List Grp) (g y : Nat), g ≤ f ∧ 0 < g ∧ r = .int .u64 (y : Int) ∧ y < 128 ^ g ∧ grps f z = pre ++ grps g y ∧ J pre wr)
    (fun r _ => (intOf r).toNat)
  case atStart => exact ⟨[], f, z, Nat.le_refl _, hf, rfl, HZ.out, rfl, h0⟩
  case round =>
    obtain ⟨pre, g, y, hgf, hg, rfl, hy, hpre, hJs⟩ := hrel
    have hyb : y < 9223372036854775808 := by
      have : 128 ^ g ≤ 128 ^ 9 := Nat.pow_le_pow_right (by omega) (by omega)
      have h3 : (128 : Nat) ^ 9 = 9223372036854775808 := by decide
      omega
    have HY := Lib.hid hy
    have hlen : pre.length + (grps g y).length ≤ N := by
      have e := congrArg List.length hpre
      rw [grps_len, List.length_append] at e
      have := HN.out
      omega
    have hpos := (vput_len g y hg).1
    rw [← grps_len] at hpos
    have HP := Lib.hid hpre
    clear hy hpre
    obtain ⟨g', rfl⟩ : ∃ g', g = g' + 1 := ⟨g - 1, by omega⟩
    by_cases hlt : 128 ≤ y
    · have hlti : (128 : Int) ≤ (y : Int) := by omega
      obtain ⟨m, hm⟩ : ∃ m : Nat, y % 128 = m := ⟨_, rfl⟩
      have hm1 : m < 128 := by omega
      have hst : grps (g' + 1) y = ⟨(m, true), hm1⟩ :: grps g' (y / 128) := by
        rw [grps, dif_neg (by omega)]
        congr 1
        exact Subtype.ext (by simp [hm])
      obtain ⟨fn, tmps, assign, body, hyy, hR⟩ := hY pre ⟨(m, true), hm1⟩ wr hJs (by omega)
      dsimp only at hyy
      have hA : bits BinOp.and IntKind.u64 (y : Int) 127 = (m : Int) := by rw [and127 y (by omega), hm]
      have hA2 : (m : Int) % 256 = m := by omega
      have hp2 : grps f z = (pre ++ [⟨(m, true), hm1⟩]) ++ grps g' (y / 128) := by rw [HP.out, hst]; simp
      have HP2 := Lib.hid hp2
      have hg2 : 0 < g' := by
        rcases Nat.eq_zero_or_pos g' with h0 | h0
        · subst h0; have := HY.out; simp at this; omega
        · exact h0
      have hy2 : y / 128 < 128 ^ g' := by have := HY.out; rw [Nat.pow_succ] at this; omega
      have HY2 := Lib.hid hy2
      clear hst hp2 hy2 hm
      gi_wp2
      refine hR.mono ?_
      rintro e W3 (⟨rfl, hJ3, hk3⟩ | ⟨rfl, hJx3⟩)
      · clear hA hA2
        gi_wp2
        go_roundw
        case rel => exact ⟨pre ++ [⟨(m, true), hm1⟩], g', y / 128, by omega, hg2, congrArg (Value.int .u64) (by omega), HY2.out, HP2.out, hJ3⟩
        case measure => simp [intOf]; omega
      · clear hA hA2
        gi_wp2
        refine bodyPost_ret (results_none rfl _ _ _) rfl ?_
        exact ⟨⟨_, rfl⟩, .inr ⟨_, trivial, hJx3⟩⟩
    · have hlti : (y : Int) < 128 := by omega
      have hst : grps (g' + 1) y = [⟨(y, false), by omega⟩] := by
        rw [grps, dif_pos (by omega)]
      obtain ⟨fn, tmps, assign, body, hyy, hR⟩ := hY pre ⟨(y, false), by omega⟩ wr hJs (by omega)
      dsimp only at hyy
      have hp2 : grps f z = pre ++ [⟨(y, false), by omega⟩] := by rw [HP.out, hst]
      have HP2 := Lib.hid hp2
      have hA2 : (y : Int) % 256 = y := by omega
      clear hst hp2
      gi_wp2
      refine hR.mono ?_
      rintro e W3 (⟨rfl, hJ3, hk3⟩ | ⟨rfl, hJx3⟩)
      · clear hA2
        gi_wp2
        go_end0
        exact ⟨⟨_, rfl⟩, .inl ⟨_, HP2.out.symm, hJ3⟩⟩
      · clear hA2
        gi_wp2
        go_end0
        exact ⟨⟨_, rfl⟩, .inr ⟨_, trivial, hJx3⟩⟩
theorem groups_stops (n : Nat) (hn : 1 ≤ n) (Bs : Nat) (z N f : Nat) (hz : z < 128 ^ f) (hf : 0 < f) (hf9 : f ≤ 9) (hN : (vput f z).length ≤ N) (Kp : World → World → Prop) (w : World) (hBs : Bs < w.heap.size)
    (hc : w.cell? ⟨Bs, 0, none⟩ = some (.int .u64 (z : Int))) :
    SeqStopsK Fence.wide n Tryd.prog 54 #[.pointer (some ⟨Bs, 0, none⟩)] (fun x : Grp => #[Value.int .u8 (x.1.1 : Int), Value.bool x.1.2]) Kp (fun ys => ys = grps f z) (fun _ => True) N w := fun l J Jx W hW _ _ hY h0 =>
  groups1_in n hn l Bs z N f hz hf hf9 hN Kp J Jx hY W ((hW.cell (p := ⟨Bs, 0, none⟩) hBs).trans hc) h0
def putV (n : Int) : Value := .tuple #[.string ⟨(encInt n).toArray⟩, .int .i64 0]
def PBox (B : Nat) (W : World) (pre : List Grp) : Prop :=
  (∀ i, i < 9 → W.cell? ⟨B, i, none⟩ = some (.int .u8 (((pre.map grpByte).getD i 0 : Nat) : Int)) ∧ W.frozen? ⟨B, i, none⟩ = false) ∧ W.cell? ⟨B + 1, 0, none⟩ = some (.int .i64 pre.length) ∧ W.frozen? ⟨B + 1, 0, none⟩ = false
theorem pbox_step {B : Nat} {W : World} {pre : List Grp} {x : Grp} (h : PBox B W pre) (hl : pre.length < 9) :
    PBox B ((W.setCell ⟨B, pre.length, none⟩ (.int .u8 (grpByte x : Int))).setCell ⟨B + 1, 0, none⟩ (.int .i64 ((pre.length : Int) + 1))) (pre ++ [x]) := by
  obtain ⟨h1, h2, h3⟩ := h
  refine ⟨fun i hi => ?_, ?_, ?_⟩
  · rw [World.frozen?_setCell, World.frozen?_setCell, World.cell?_setCell_other _ _ _ _ (by simp)]
    refine ⟨?_, (h1 i hi).2⟩
    by_cases e : i = pre.length
    · subst e
      rw [World.cell?_setCell_same' _ _ _ (by rw [(h1 _ hl).1]; rfl)]
      simp [List.getD]
    · rw [World.cell?_setCell_other _ _ _ _ (by simp), (h1 i hi).1]
      congr 3
      simp only [List.map_append, List.getD]
      by_cases hi2 : i < pre.length
      · rw [List.getElem?_append_left (by simpa using hi2)]
      · rw [List.getElem?_eq_none (by simp; omega), List.getElem?_eq_none (by simp; omega)]
  · rw [World.cell?_setCell_same' _ _ _ (by rw [World.cell?_setCell_other _ _ _ _ (by simp), h2]; rfl)]
    simp
  · rw [World.frozen?_setCell, World.frozen?_setCell]; exact h3
theorem putInt_start (w : World) (z : Nat) (W0 : World) (hW0 : ((w.alloc (Obj.cells #[.int .u8 0, .int .u8 0, .int .u8 0, .int .u8 0, .int .u8 0, .int .u8 0, .int .u8 0, .int .u8 0, .int .u8 0] 86)).alloc (Obj.cells #[Value.int IntKind.i64 0] 3)).alloc (Obj.cells #[Value.int IntKind.u64 (z : Int)] 66) = W0) :
    Below w.heap.size w W0 ∧ W0.heap.size = w.heap.size + 1 + 1 + 1 ∧ PBox w.heap.size W0 [] ∧ W0.cell? ⟨w.heap.size + 1 + 1, 0, none⟩ = some (.int .u64 (z : Int)) := by
  refine ⟨by rw [← hW0]; exact (((Below.refl _ w).alloc (Nat.le_refl _) _).alloc (by simp) _).alloc (by simp; omega) _, by rw [← hW0]; simp, ⟨fun i hi => ?_, ?_, ?_⟩, ?_⟩ <;> rw [← hW0]
  · rw [World.cell?_alloc_lt _ _ _ (by simp; omega), World.frozen?_alloc_old _ _ _ (by simp; omega)]
    match i, hi with
    | 0, _ => simp
    | 1, _ => simp
    | 2, _ => simp
    | 3, _ => simp
    | 4, _ => simp
    | 5, _ => simp
    | 6, _ => simp
    | 7, _ => simp
    | 8, _ => simp
  · rw [World.cell?_alloc_lt _ _ _ (by simp)]; simp
  · rw [World.frozen?_alloc_old _ _ _ (by simp)]; simp
  · rw [World.cell?_alloc_at _ _ _ _ (by simp)]; rfl
theorem conv_put {P : Program} {src dst e : TypeId} (W : World) (B : Nat) (n : Int) (z : Nat) (hz : zig n = z) (h : PBox B W (grps 9 z)) (hs : P.underlying src = some (.slice e)) (he : P.underlying e = some (.int .u8)) (hd : P.underlying dst = some .string) (cap : Nat) :
    (convert src dst (.slice (some ⟨B, 0, none⟩) (encInt n).length cap)).run P W = .ok (.string ⟨(encInt n).toArray⟩) W := by
  refine run_convert_bytes_back W src dst e ⟨B, 0, none⟩ cap (encInt n) hs he hd (fun j hj => ?_)
  have h9 := (encInt_len n).2
  have hadd : (⟨B, 0, none⟩ : Addr).add j = ⟨B, j, none⟩ := by unfold Addr.add; split <;> simp_all
  rw [hadd, (h.1 j (by omega)).1, grps_put]
  have hj' : j < (vput 9 z).length := by unfold encInt at hj; rw [hz, List.length_map] at hj; exact hj
  have hb := vput_bytes 9 z (vput 9 z)[j] (List.getElem_mem hj')
  congr 3
  simp only [encInt, hz, List.getElem_map]
  rw [ofNat_toNat hb]
  simp [List.getD, List.getElem?_eq_getElem hj']
set_option maxRecDepth 100000 in
set_option maxHeartbeats 4000000 in
theorem putInt_z (n : Int) (z : Nat) (w : World) (h1 : -wmax ≤ n) (h2 : n ≤ wmax) (hz : zig n = z) (hzc : (0 ≤ n ∧ (z : Int) = n * 2) ∨ (n < 0 ∧ (z : Int) = -n * 2 - 1)) :
    Calls Tryd.prog 27 #[.int .i64 n] w fun e w' => e = .returned (putV n) ∧ Below w.heap.size w w' := by
  unfold wmax at h1 h2
  have hzb : z < 128 ^ 9 := by have h3 : (128 : Nat) ^ 9 = 9223372036854775808 := by decide
                               omega
  have HZB := Lib.hid hzb
  have hzz : z < 9223372036854775808 := by omega
  have HZ := Lib.hid hz
  clear hz hzb
  refine (callsIn_wide (n := 8)).1 ?_
  refine callsIn_of_wp_marks Tryd.func27 rfl trivial ?_ rfl
  simp only [Tryd.ntmps27, List.size_toArray, List.length_cons, List.length_nil, Nat.reduceAdd, Nat.reduceSub, Array.replicate_succ, Array.replicate_zero, List.push_toArray, List.append_toArray, List.nil_append, List.cons_append]
  rcases hzc with ⟨hn, hz⟩ | ⟨hn, hz⟩
  · have d1 : decide (n < -4611686018427387903) = false := by simp; omega
    have d2 : decide (4611686018427387903 < n) = false := by simp; omega
    have HZE := Lib.hid hz
    clear hz
    gi_wp2_with (refine ⟨trivial, ?_⟩; gi_at_call 44; refine (groups_in _ _ _).mono ?_; rintro e w' ⟨rfl, rfl⟩)
    rw [← HZE.out]
    obtain ⟨W0, hW0⟩ : ∃ W0, ((w.alloc (Obj.cells #[.int .u8 0, .int .u8 0, .int .u8 0, .int .u8 0, .int .u8 0, .int .u8 0, .int .u8 0, .int .u8 0, .int .u8 0] 86)).alloc (Obj.cells #[Value.int IntKind.i64 0] 3)).alloc (Obj.cells #[Value.int IntKind.u64 (z : Int)] 66) = W0 := ⟨_, rfl⟩
    obtain ⟨hB0, hs0, hP0, hc0⟩ := putInt_start w z W0 hW0
    rw [hW0]
    have HP0 := Lib.hid hP0
    have HC0 := Lib.hid hc0
    clear hW0 hP0 hc0
    refine wpIn_rangeFunc_ownF (F := Fence.wide) rfl (by omega) (gf := 54) (lb := #[.pointer (some ⟨w.heap.size + 1 + 1, 0, none⟩)]) rfl trivial (enters_of Tryd.func54 (by kernel_rfl) rfl)
      (groups_stops _ (by omega) (w.heap.size + 1 + 1) z 9 9 HZB.out (by omega) (by omega) (vput_len 9 z (by omega)).2 (Below w.heap.size) W0 (by omega) HC0.out) belowK_t (belowK_b (by omega)) (Below.refl _ _) (fun _ => rfl)
      (fun pre W => PBox w.heap.size W pre ∧ Below w.heap.size w W)
      (fun _ _ _ => False)
      (OwnFrom.and (Own.from (fun s A B row hs hg hr => ⟨fun i hi => ⟨cell_kept (hs.1 i hi).1 hg hr, (frozen_kept (hs.1 i hi).1 hg hr).trans (hs.1 i hi).2⟩, cell_kept hs.2.1 hg hr, (frozen_kept hs.2.1 hg hr).trans hs.2.2⟩) _) (ownFrom_below (Nat.le_refl _) (by omega)))
      (fun _ _ _ _ _ hs _ _ => hs)
      ⟨HP0.out, hB0⟩
      ?act ?assign ?body ?done ?stop
    case assign =>
      intro l x W K hK
      gi_wp2
      exact hK
    case body =>
      rintro l pre ⟨⟨x, more⟩, hx⟩ W ⟨hP, hB⟩ hpre
      have HP := Lib.hid hP
      have hcs := hP.2.1
      have hfs := hP.2.2
      have hcc := (hP.1 pre.length hpre).1
      have hfc := (hP.1 pre.length hpre).2
      have h9i : (pre.length : Int) < 9 := by omega
      clear hP
      dsimp only
      dsimp only at hx
      cases more with
      | true =>
        have hst := Lib.hid (pbox_step (x := ⟨(x, true), hx⟩) HP.out hpre)
        have hby : (grpByte ⟨(x, true), hx⟩ : Int) = (x : Int) + 128 := by simp [grpByte]
        rw [hby] at hst
        clear hby
        gi_wp2
        exact ⟨(KeepsOthers.setCell _ _ _).trans (KeepsOthers.setCell _ _ _), ((Below.refl w.heap.size W).setCell (p := ⟨w.heap.size, pre.length, none⟩) (Nat.le_refl _) _).setCell (p := ⟨w.heap.size + 1, 0, none⟩) (by simp) _, hst.out, (hB.setCell (p := ⟨w.heap.size, pre.length, none⟩) (Nat.le_refl _) _).setCell (p := ⟨w.heap.size + 1, 0, none⟩) (by simp) _⟩
      | false =>
        have hst := Lib.hid (pbox_step (x := ⟨(x, false), hx⟩) HP.out hpre)
        have hby : (grpByte ⟨(x, false), hx⟩ : Int) = (x : Int) := by simp [grpByte]
        rw [hby] at hst
        clear hby
        gi_wp2
        exact ⟨(KeepsOthers.setCell _ _ _).trans (KeepsOthers.setCell _ _ _), ((Below.refl w.heap.size W).setCell (p := ⟨w.heap.size, pre.length, none⟩) (Nat.le_refl _) _).setCell (p := ⟨w.heap.size + 1, 0, none⟩) (by simp) _, hst.out, (hB.setCell (p := ⟨w.heap.size, pre.length, none⟩) (Nat.le_refl _) _).setCell (p := ⟨w.heap.size + 1, 0, none⟩) (by simp) _⟩
    case done =>
      rintro D ys W hD rfl ⟨hP, hB⟩ hK
      have hcs := hP.2.1
      have hl9 := (vput_len 9 z (by omega)).2
      have hgl : (grps 9 z).length = (encInt n).length := by rw [grps_len]; unfold encInt; rw [HZ.out, List.length_map]
      have hgl9 : (encInt n).length ≤ 9 := (encInt_len n).2
      have hgl9i : ((encInt n).length : Int) ≤ 9 := by omega
      rw [hgl] at hcs
      have hcv := conv_put (P := Tryd.prog) W w.heap.size n z HZ.out hP Tryd.underlying58 Tryd.underlying5 Tryd.underlying9
      have HK := Lib.hid hK
      clear hK hl9 hgl hP
      generalize hL : encInt n = L at *
      have HL := Lib.hid hL
      clear hL
      gi_wp2
      refine ⟨by simp, .inl ⟨_, _, rfl, run_takeDeferred HK.out, ?_⟩⟩
      refine ⟨putV n, ?_, rfl, hB.trans (belowK_b (w := w) (Nat.le_refl _) W D _ _ (by omega) HK.out rfl rfl)⟩
      simp [results, Tryd.f27, go_sem, putV, HL.out]
    case stop =>
      rintro D c pre W _ _ h _
      exact h.elim
  · have d1 : decide (n < -4611686018427387903) = false := by simp; omega
    have d2 : decide (4611686018427387903 < n) = false := by simp; omega
    have HZE := Lib.hid hz
    clear hz
    gi_wp2_with (refine ⟨trivial, ?_⟩; gi_at_call 44; refine (groups_in _ _ _).mono ?_; rintro e w' ⟨rfl, rfl⟩)
    rw [← HZE.out]
    obtain ⟨W0, hW0⟩ : ∃ W0, ((w.alloc (Obj.cells #[.int .u8 0, .int .u8 0, .int .u8 0, .int .u8 0, .int .u8 0, .int .u8 0, .int .u8 0, .int .u8 0, .int .u8 0] 86)).alloc (Obj.cells #[Value.int IntKind.i64 0] 3)).alloc (Obj.cells #[Value.int IntKind.u64 (z : Int)] 66) = W0 := ⟨_, rfl⟩
    obtain ⟨hB0, hs0, hP0, hc0⟩ := putInt_start w z W0 hW0
    rw [hW0]
    have HP0 := Lib.hid hP0
    have HC0 := Lib.hid hc0
    clear hW0 hP0 hc0
    refine wpIn_rangeFunc_ownF (F := Fence.wide) rfl (by omega) (gf := 54) (lb := #[.pointer (some ⟨w.heap.size + 1 + 1, 0, none⟩)]) rfl trivial (enters_of Tryd.func54 (by kernel_rfl) rfl)
      (groups_stops _ (by omega) (w.heap.size + 1 + 1) z 9 9 HZB.out (by omega) (by omega) (vput_len 9 z (by omega)).2 (Below w.heap.size) W0 (by omega) HC0.out) belowK_t (belowK_b (by omega)) (Below.refl _ _) (fun _ => rfl)
      (fun pre W => PBox w.heap.size W pre ∧ Below w.heap.size w W)
      (fun _ _ _ => False)
      (OwnFrom.and (Own.from (fun s A B row hs hg hr => ⟨fun i hi => ⟨cell_kept (hs.1 i hi).1 hg hr, (frozen_kept (hs.1 i hi).1 hg hr).trans (hs.1 i hi).2⟩, cell_kept hs.2.1 hg hr, (frozen_kept hs.2.1 hg hr).trans hs.2.2⟩) _) (ownFrom_below (Nat.le_refl _) (by omega)))
      (fun _ _ _ _ _ hs _ _ => hs)
      ⟨HP0.out, hB0⟩
      ?act2 ?assign2 ?body2 ?done2 ?stop2
    case assign2 =>
      intro l x W K hK
      gi_wp2
      exact hK
    case body2 =>
      rintro l pre ⟨⟨x, more⟩, hx⟩ W ⟨hP, hB⟩ hpre
      have HP := Lib.hid hP
      have hcs := hP.2.1
      have hfs := hP.2.2
      have hcc := (hP.1 pre.length hpre).1
      have hfc := (hP.1 pre.length hpre).2
      have h9i : (pre.length : Int) < 9 := by omega
      clear hP
      dsimp only
      dsimp only at hx
      cases more with
      | true =>
        have hst := Lib.hid (pbox_step (x := ⟨(x, true), hx⟩) HP.out hpre)
        have hby : (grpByte ⟨(x, true), hx⟩ : Int) = (x : Int) + 128 := by simp [grpByte]
        rw [hby] at hst
        clear hby
        gi_wp2
        exact ⟨(KeepsOthers.setCell _ _ _).trans (KeepsOthers.setCell _ _ _), ((Below.refl w.heap.size W).setCell (p := ⟨w.heap.size, pre.length, none⟩) (Nat.le_refl _) _).setCell (p := ⟨w.heap.size + 1, 0, none⟩) (by simp) _, hst.out, (hB.setCell (p := ⟨w.heap.size, pre.length, none⟩) (Nat.le_refl _) _).setCell (p := ⟨w.heap.size + 1, 0, none⟩) (by simp) _⟩
      | false =>
        have hst := Lib.hid (pbox_step (x := ⟨(x, false), hx⟩) HP.out hpre)
        have hby : (grpByte ⟨(x, false), hx⟩ : Int) = (x : Int) := by simp [grpByte]
        rw [hby] at hst
        clear hby
        gi_wp2
        exact ⟨(KeepsOthers.setCell _ _ _).trans (KeepsOthers.setCell _ _ _), ((Below.refl w.heap.size W).setCell (p := ⟨w.heap.size, pre.length, none⟩) (Nat.le_refl _) _).setCell (p := ⟨w.heap.size + 1, 0, none⟩) (by simp) _, hst.out, (hB.setCell (p := ⟨w.heap.size, pre.length, none⟩) (Nat.le_refl _) _).setCell (p := ⟨w.heap.size + 1, 0, none⟩) (by simp) _⟩
    case done2 =>
      rintro D ys W hD rfl ⟨hP, hB⟩ hK
      have hcs := hP.2.1
      have hl9 := (vput_len 9 z (by omega)).2
      have hgl : (grps 9 z).length = (encInt n).length := by rw [grps_len]; unfold encInt; rw [HZ.out, List.length_map]
      have hgl9 : (encInt n).length ≤ 9 := (encInt_len n).2
      have hgl9i : ((encInt n).length : Int) ≤ 9 := by omega
      rw [hgl] at hcs
      have hcv := conv_put (P := Tryd.prog) W w.heap.size n z HZ.out hP Tryd.underlying58 Tryd.underlying5 Tryd.underlying9
      have HK := Lib.hid hK
      clear hK hl9 hgl hP
      generalize hL : encInt n = L at *
      have HL := Lib.hid hL
      clear hL
      gi_wp2
      refine ⟨by simp, .inl ⟨_, _, rfl, run_takeDeferred HK.out, ?_⟩⟩
      refine ⟨putV n, ?_, rfl, hB.trans (belowK_b (w := w) (Nat.le_refl _) W D _ _ (by omega) HK.out rfl rfl)⟩
      simp [results, Tryd.f27, go_sem, putV, HL.out]
    case stop2 =>
      rintro D c pre W _ _ h _
      exact h.elim
theorem putInt_any (n : Int) (w : World) (h1 : -wmax ≤ n) (h2 : n ≤ wmax) :
    Calls Tryd.prog 27 #[.int .i64 n] w fun e w' => e = .returned (putV n) ∧ Below w.heap.size w w' :=
  putInt_z n (zig n) w h1 h2 rfl (by unfold zig; split <;> omega)
theorem idx10 : ∀ s : Str, (Lib.index s [10] = -1 ∧ ∀ b ∈ s, b ≠ 10) ∨ ∃ i : Nat, Lib.index s [10] = (i : Int) ∧ s = s.take i ++ 10 :: s.drop (i + 1) ∧ ∀ b ∈ s.take i, b ≠ 10
 | [] => .inl ⟨rfl, fun _ h => by cases h⟩
 | b :: l => by
  by_cases hb : b = 10
  ·subst hb
   exact .inr ⟨0, by simp [Lib.index], by simp, fun _ h => by simp at h⟩
  ·have hp : ([10] : List UInt8).isPrefixOf (b :: l) = false := by simp [List.isPrefixOf, Ne.symm hb]
   rcases idx10 l with ⟨h1, h2⟩ | ⟨i, h1, h2, h3⟩
   ·refine .inl ⟨by simp only [Lib.index, hp, h1]; decide, fun x hx => ?_⟩
    rcases List.mem_cons.1 hx with rfl | hx
    ·exact hb
    ·exact h2 x hx
   ·refine .inr ⟨i + 1, ?_, ?_, fun x hx => ?_⟩
    ·have : ¬ (Lib.index l [10] == -1) = true := by rw [h1]; intro e; have := eq_of_beq e; omega
     simp only [Lib.index, hp, Bool.false_eq_true, if_false, this]
     rw [h1]; omega
    ·rw [List.take_succ_cons, List.drop_succ_cons, List.cons_append, ← h2]
    ·rw [List.take_succ_cons] at hx
     rcases List.mem_cons.1 hx with rfl | hx
     ·exact hb
     ·exact h3 x hx
theorem splitK_split : ∀ (n : Nat) (s : Str), s.length ≤ n → Lib.splitK [10] 0 (Lib.count s [10]) s = splitG [] s ∧ (splitG [] s).length = Lib.count s [10] + 1
 | n, s, hn => by
  rcases idx10 s with ⟨h1, h2⟩ | ⟨i, h1, h2, h3⟩
  ·rw [Lib.count_miss h1, splitG_end s [] h2]
   exact ⟨rfl, rfl⟩
  ·have hlen : (s.drop (i + 1)).length < s.length := by
    have := congrArg List.length h2
    rw [List.length_append, List.length_cons] at this
    omega
   cases n with
   | zero => omega
   | succ n =>
    have ih := splitK_split n (s.drop (i + 1)) (by omega)
    have hg : splitG [] s = s.take i :: splitG [] (s.drop (i + 1)) := by
     conv => lhs; rw [h2]
     rw [splitG_app _ _ _ h3]
     rfl
    have hc : Lib.count s [10] = Lib.count (s.drop (i + 1)) [10] + 1 := by
     rw [Lib.count_hit (by simp) h1, Nat.add_comm]
     rfl
    rw [hg, hc]
    refine ⟨?_, by rw [List.length_cons, ih.2]⟩
    rw [Lib.splitK, if_neg (by rw [h1]; intro e; have := eq_of_beq e; omega), h1]
    simp only [Int.toNat_natCast, Nat.add_zero, List.length_cons, List.length_nil]
    rw [ih.1]
theorem split_any (s : Str) (w : World) (hL : Laid w) (hl : s.length ≤ 1000000) : Calls Tryd.prog 49 #[.string (bstr s), .string (bstr [10])] w fun e w' => ∃ A c, e = .returned (.slice A (splitG [] s).length c) ∧ Below w.heap.size w w' ∧ (rowsR w.heap.size 9 1 strC okT feF (.slice A (splitG [] s).length c) (splitG [] s)).F w' := by
 obtain ⟨m, hm⟩ := hL.most
 have hsz : (bstr s).size = s.length := rfl
 refine (Tryd.strings_Split (bstr s) (bstr [10]) m w (by omega) hm (by decide)).mono ?_
 rintro e w' ⟨rfl, rfl⟩
 have hk := splitK_split s.length s (Nat.le_refl _)
 have hd : (Lib.splitB (bstr [10]) 0 (Lib.countB (bstr s) (bstr [10])) (bstr s)).map (·.data.toList) = splitG [] s := by
  rw [Lib.splitB_data]
  have e1 : (bstr s).data.toList = s := by simp
  have e2 : (bstr [10]).data.toList = [10] := by simp
  have e3 : Lib.countB (bstr s) (bstr [10]) = Lib.count s [10] := by show Lib.count _ _ = _; rw [e1, e2]
  rw [e3, e1, e2]; exact hk.1
 have hc : Lib.countB (bstr s) (bstr [10]) + 1 = (splitG [] s).length := by
  have e1 : (bstr s).data.toList = s := by simp
  have e2 : (bstr [10]).data.toList = [10] := by simp
  have e3 : Lib.countB (bstr s) (bstr [10]) = Lib.count s [10] := by show Lib.count _ _ = _; rw [e1, e2]
  rw [e3, hk.2]
 have hv : (Lib.splitB (bstr [10]) 0 (Lib.countB (bstr s) (bstr [10])) (bstr s)).map Value.string = (splitG [] s).map fun x => Value.string (bstr x) := by
  rw [← hd, List.map_map]
  apply List.map_congr_left
  intro x _
  simp [bstr]
 have hn : (splitG [] s).length ≤ maxLen := by
  have := Lib.count_le s [10]
  rw [hk.2]; unfold maxLen; omega
 refine ⟨some ⟨w.heap.size, 0, none⟩, _, by rw [hc], balloc w _, ?_⟩
 rw [hv]
 refine ⟨?_, fun a _ => ⟨trivial, fun k hk => by cases hk⟩⟩
 rw [flat_str]
 have := own_at w 9 ((splitG [] s).map fun x => Value.string (bstr x)) (by rw [List.length_map]; exact hn) w.heap.size (Nat.le_refl _)
 rw [List.length_map] at this
 exact this
theorem putI_any (n : Int) (w : World) (h1 : -wmax ≤ n) (h2 : n ≤ wmax) :
  Calls Tryd.prog 27 #[.int .i64 n] w fun e w' => e = .returned (.tuple #[.string (bstr (encInt n)), .int .i64 0]) ∧ Below w.heap.size w w' := putInt_any n w h1 h2
theorem sumw (t : Str) : -wmax ≤ ((sumP t : Nat) : Int) ∧ ((sumP t : Nat) : Int) ≤ wmax := by
 have := sumP_lt t
 unfold wmax
 omega
theorem put1_le {rows : List Str} {x : Str} (h : ∀ y ∈ rows, y.length ≤ 32) (hx : x.length ≤ 32) : ∀ y ∈ put1 rows x, y.length ≤ 32 := by
 unfold put1
 split
 ·rename_i h2
  refine rows_le_set h ?_
  rw [List.length_append, List.length_cons]
  omega
 ·exact rows_le_new h hx
theorem layW_le : ∀ (ws rows : List Str) {out : List Str}, (∀ y ∈ rows, y.length ≤ 32) → layW rows ws = some out → ∀ y ∈ out, y.length ≤ 32
 | [], rows, out, h, e => by cases e; exact h
 | x :: ws, rows, out, h, e => by
  rw [layW] at e
  split at e
  ·cases e
  ·exact layW_le ws _ (put1_le h (by omega)) e
theorem lay_facts {t : Str} {rows : List Str} (h : layP t = some rows) : rows.length ≤ 4 ∧ ∀ y ∈ rows, y.length ≤ 32 := by
 refine ⟨(layP_some h).2.1, ?_⟩
 unfold layP at h
 split at h
 ·split at h
  ·cases h
  ·rename_i h1
   split at h
   ·cases h; exact layW_le _ [] (fun _ h => by cases h) h1
   ·cases h
 ·cases h
theorem lay_join {t : Str} {rows : List Str} (h : layP t = some rows) : (joinL rows).length ≤ 4004 := by
 have h1 := lay_facts h
 have h2 := join_len (l := rows) (fun y hy => by have := h1.2 y hy; omega) rows.length
 rw [List.take_of_length_le (Nat.le_refl _)] at h2
 omega
theorem IsRow.ofRows {w : World} {base c : Nat} {A : Option Addr} {l : List Str} (h : (rowsR base 9 1 strC okT feF (.slice A l.length c) l).F w) : IsRow 1 strC w A l := Rd.of_own h.1
theorem rows_cap {w : World} {base c : Nat} {A : Option Addr} {l : List Str} (h : (rowsR base 9 1 strC okT feF (.slice A l.length c) l).F w) : l.length ≤ c := (own_facts h.1).1
theorem crowsU_any (t : Str) (w : World) (hl : t.length ≤ 1000000) : Calls Tryd.prog 24 #[.string (bstr t)] w fun e w' => ∃ A c rows ok, e = .returned (.tuple #[.slice A rows.length c, .bool ok]) ∧ Below w.heap.size w w' ∧ (ok = true → layP t = some rows ∧ (rowsR w.heap.size 9 1 strC okT feF (.slice A rows.length c) rows).F w') ∧ (ok = false → layP t = none) :=
 (crows_any t w hl).mono fun e w' h => by
  rcases h with ⟨rows, A, c, h1, rfl, hb, hF⟩ | ⟨h1, rfl, hb⟩
  ·exact ⟨A, c, rows, true, rfl, hb, fun _ => ⟨h1, hF⟩, fun h => by cases h⟩
  ·exact ⟨none, 0, [], false, rfl, hb, (fun h => by cases h), fun _ => h1⟩
def blkV : Option Str → Value
 | none => .tuple #[.string (bstr []), .int .i64 160]
 | some b => .tuple #[.string (bstr b), .int .i64 0]
set_option maxRecDepth 100000 in
set_option maxHeartbeats 4000000 in
theorem code_any (k p : Nat) (x1 x2 : UInt8) (w : World) (hk : k ≤ 3) (hp : p < 64) : Calls Tryd.prog 33 #[.int .i64 (k : Int), .int .i64 (p : Int), .int .u8 (x1.toNat : Int), .int .u8 (x2.toNat : Int)] w fun e w' => e = .returned (.string (bstr [UInt8.ofNat (64 * k + p), x1, x2])) ∧ Below w.heap.size w w' := by
 have HP := Hp.start w
 refine w_enter 18 [(0, (ii k)), (1, (ii p)), (2, (.int .u8 (x1.toNat : Int))), (3, (.int .u8 (x2.toNat : Int)))] Tryd.func33 rfl Tryd.ntmps33 (by kernel_rfl) (by kernel_rfl) fun a H => ?_
 refine wp_seq (w_region ?_)
 refine H.ge HP [(8, (.string (bstr ([]))))] [] fun a H => ?_
 refine then_normal (wp_seq (w_region ?_))
 refine H.go HP 1 [(9, (ii k))] [] fun a H => ?_
 refine H.wi 10 ((k : Int) * 64) fun a H => ?_
 refine H.go HP 1 [(11, (ii p))] [] fun a H => ?_
 refine H.wi 12 (((k : Int) * 64) + (p : Int)) fun a H => ?_
 refine H.valE 13 (.int .u8 (IntKind.u8.wrap (((k : Int) * 64) + (p : Int)))) (.int .u8 ((64 * k + p : Nat) : Int)) (by kernel_rfl) (by kernel_rfl) ((by rw [wrap_inu8 _ (by omega)]; exact congrArg (Value.int .u8) (by omega))) fun a H => ?_
 refine H.go HP 2 [(14, (.int .u8 (x1.toNat : Int))), (15, (.int .u8 (x2.toNat : Int)))] [] fun a H => ?_
 refine H.alloc HP 16 (fun b => (.slice (some ⟨b, 0, none⟩) 3 3)) 5 [(.int .u8 ((64 * k + p : Nat) : Int)), (.int .u8 (x1.toNat : Int)), (.int .u8 (x2.toNat : Int))] (by kernel_rfl) (fun w => by kernel_rfl) fun b_1 w_2 a H HP => ?_
 refine H.u 17 (.string (bstr ([UInt8.ofNat (64 * k + p), x1, x2]))) (ex_b2sR (l := ([UInt8.ofNat (64 * k + p), x1, x2])) (e := 5) (m := 3) (c := 3) (by kernel_rfl) (by rw [show Lib.byteCells [UInt8.ofNat (64 * k + p), x1, x2] = [.int .u8 ((64 * k + p : Nat) : Int), .int .u8 (x1.toNat : Int), .int .u8 (x2.toNat : Int)] from by simp only [Lib.byteCells, List.map_cons, List.map_nil, ofNat_toNat (show 64 * k + p < 256 by omega)]]; exact Rd.of_box (HP.at_ 0 rfl) rfl) (by kernel_rfl) (by kernel_rfl) (by kernel_rfl)) fun a H => ?_
 refine H.ge HP [(8, (.string (bstr ([UInt8.ofNat (64 * k + p), x1, x2]))))] [] fun a H => ?_
 refine then_normal (wp_ret ?_)
 refine H.ret1 (fn := Tryd.f33) Tryd.results33 (RV.tmp_ (v := (.string (bstr ([UInt8.ofNat (64 * k + p), x1, x2])))) (by kernel_rfl)) ?_
 exact ⟨rfl, HP.bl⟩
set_option maxRecDepth 100000 in
set_option maxHeartbeats 4000000 in
theorem block_any (c : Cue) (w : World) (hL : Laid w) (hl : c.text.length ≤ 1000000) : Calls Tryd.prog 9 #[(.agg #[(ii c.id), (ii c.from_), (ii c.to_), (ii c.pri), (.string (bstr c.text))])] w fun e w' => e = .returned (blkV (blockP c)) ∧ Below w.heap.size w w' := by
 have HP := Hp.start w
 refine w_enter 52 [(0, (.agg #[(ii c.id), (ii c.from_), (ii c.to_), (ii c.pri), (.string (bstr c.text))]))] Tryd.func9 rfl Tryd.ntmps9 (by kernel_rfl) (by kernel_rfl) fun a H => ?_
 refine wp_seq (w_region ?_)
 refine H.alloc HP 1 (fun b => (pt b 0)) 23 [(ii c.id), (ii c.from_), (ii c.to_), (ii c.pri), (.string (bstr c.text))] (by kernel_rfl) (fun w => by kernel_rfl) fun b_1 w_2 a H HP => ?_
 refine H.ge HP [(2, (.string (bstr ([])))), (3, (ii 0))] [] fun a H => ?_
 refine then_normal (wp_seq (wp_seq (w_region ?_)))
 refine H.go HP 1 [(10, (.agg #[(ii c.id), (ii c.from_), (ii c.to_), (ii c.pri), (.string (bstr c.text))]))] [0] fun a H => ?_
 refine H.call 11 (by kernel_rfl) (Eq.trans (by kernel_rfl : _ = (callFunc 25 #[(.agg #[(ii c.id), (ii c.from_), (ii c.to_), (ii c.pri), (.string (bstr c.text))])]).run Tryd.prog w_2) (Tryd.call25 _ _)) (cvalid_any c w_2 hl) ?_
 rintro e w_3 ⟨rfl, hbv⟩
 refine ⟨_, rfl, ?_⟩
 intro a H
 have HP := HP.next hbv
 refine H.ge HP [(12, (.bool (!(validC c))))] [] fun a H => ?_
 refine then_normal ?_
 refine w_if H rfl (fun g12 => ?_) (fun g12 => ?_)
 ·have g12p := not_is_true g12
  refine wp_seq (w_region ?_)
  refine H.ge HP [(2, (.string (bstr ([])))), (3, (ii 160))] [] fun a H => ?_
  refine then_normal (wp_ret (then_ret ?_))
  refine H.ret2 (fn := Tryd.f9) Tryd.results9 (RV.tmp_ (v := (.string (bstr ([])))) (by kernel_rfl)) (RV.tmp_ (v := (ii 160)) (by kernel_rfl)) ?_
  refine ⟨congrArg Ending.returned ?_, HP.bl⟩
  unfold blockP; rw [if_neg (by simp [g12p])]; rfl
 ·have g12p := not_is_false g12
  refine wp_skip (then_normal (wp_seq (w_region ?_)))
  refine H.go HP 2 [(15, (.string (bstr c.text)))] [0] fun a H => ?_
  refine H.call 16 (by kernel_rfl) (Eq.trans (by kernel_rfl : _ = (callFunc 24 #[(.string (bstr c.text))]).run Tryd.prog w_3) (Tryd.call24 _ _)) (crowsU_any c.text w_3 hl) ?_
  rintro e w_4 ⟨A, cc, rows, ok, rfl, hbr, hyes, hno⟩
  refine ⟨_, rfl, ?_⟩
  intro a H
  have HP := HP.next hbr
  refine H.ge HP [(4, (.slice A rows.length cc)), (5, (.bool ok))] [] fun a H => ?_
  refine then_normal (wp_seq (wp_seq (w_region ?_)))
  refine H.go HP 3 [(21, (.bool (!ok)))] [] fun a H => ?_
  refine H.split 21 rfl (fun g21 H => ?_) (fun g21 H => ?_)
  ·have g21p := not_is_true g21
   refine H.ge HP [(25, (.bool true))] [] fun a H => ?_
   refine then_normal ?_
   refine w_ift H rfl ?_
   refine wp_seq (w_region ?_)
   refine H.ge HP [(2, (.string (bstr ([])))), (3, (ii 160))] [] fun a H => ?_
   refine then_normal (wp_ret (then_ret ?_))
   refine H.ret2 (fn := Tryd.f9) Tryd.results9 (RV.tmp_ (v := (.string (bstr ([])))) (by kernel_rfl)) (RV.tmp_ (v := (ii 160)) (by kernel_rfl)) ?_
   refine ⟨congrArg Ending.returned ?_, HP.bl⟩
   unfold blockP; rw [if_pos g12p, hno g21p]; rfl
  ·have g21p := not_is_false g21
   refine H.ge HP [(25, (.bool ((rows.length : Int) == 0)))] [] fun a H => ?_
   refine then_normal ?_
   refine w_if H rfl (fun g25 => ?_) (fun g25 => ?_)
   ·have g25p := eq_of_beq g25
    refine wp_seq (w_region ?_)
    refine H.ge HP [(2, (.string (bstr ([])))), (3, (ii 160))] [] fun a H => ?_
    refine then_normal (wp_ret (then_ret ?_))
    refine H.ret2 (fn := Tryd.f9) Tryd.results9 (RV.tmp_ (v := (.string (bstr ([])))) (by kernel_rfl)) (RV.tmp_ (v := (ii 160)) (by kernel_rfl)) ?_
    refine ⟨congrArg Ending.returned ?_, HP.bl⟩
    exact absurd (layP_some (hyes g21p).1).1 (fun h => h (List.eq_nil_of_length_eq_zero (by omega)))
   ·have g25p := ne_of_beq_false g25
    refine wp_skip (then_normal (wp_seq (w_region ?_)))
    refine H.go HP 1 [(26, (.slice A rows.length cc))] [] fun a H => ?_
    obtain ⟨hlay, hrow⟩ := hyes g21p
    have hf := lay_facts hlay
    have hjl := lay_join hlay
    refine H.call 27 (by kernel_rfl) (Eq.trans (by kernel_rfl : _ = (callFunc 26 #[(.slice A rows.length cc), (.string (bstr ([10])))]).run Tryd.prog w_4) (Tryd.call26 _ _)) (join_any A cc rows w_4 (IsRow.ofRows hrow) (rows_cap hrow) (by omega) (fun y hy => by have := hf.2 y hy; omega)) ?_
    rintro e w_5 ⟨rfl, hbj⟩
    refine ⟨_, rfl, ?_⟩
    intro a H
    have HP := HP.next hbj
    refine H.ge HP [(6, (.string (bstr (joinL rows))))] [] fun a H => ?_
    refine then_normal (wp_seq (w_region ?_))
    refine H.go HP 1 [(29, (.string (bstr (joinL rows))))] [] fun a H => ?_
    refine H.call 30 (by kernel_rfl) (Eq.trans (by kernel_rfl : _ = (callFunc 28 #[(.string (bstr (joinL rows)))]).run Tryd.prog w_5) (Tryd.call28 _ _)) (sum_any (joinL rows) w_5 (hL.below HP.bl) (by omega)) ?_
    rintro e w_6 ⟨rfl, hbs⟩
    refine ⟨_, rfl, ?_⟩
    intro a H
    have HP := HP.next hbs
    refine H.call 31 (by kernel_rfl) (Eq.trans (by kernel_rfl : _ = (callFunc 27 #[(ii ((sumP (joinL rows) : Nat) : Int))]).run Tryd.prog w_6) (Tryd.call27 _ _)) (putI_any ((sumP (joinL rows) : Nat) : Int) w_6 (sumw _).1 (sumw _).2) ?_
    rintro e w_7 ⟨rfl, hbp⟩
    refine ⟨_, rfl, ?_⟩
    intro a H
    have HP := HP.next hbp
    have hsl := encSum_len (joinL rows)
    refine H.ge HP [(7, (.string (bstr (sumC (joinL rows))))), (8, (ii 0))] [] fun a H => ?_
    refine then_normal (wp_seq (wp_seq (w_region ?_)))
    refine H.ge HP [(35, (.bool false))] [] fun a H => ?_
    refine then_normal ?_
    refine w_iff H rfl ?_
    refine wp_skip (then_normal (wp_seq (w_region ?_)))
    refine H.go HP 4 [(37, (ii (((sumC (joinL rows)).length : Nat) : Int))), (39, (ii (((joinL rows).length : Nat) : Int)))] [] fun a H => ?_
    refine H.valE 40 (ii (IntKind.i64.wrap ((((sumC (joinL rows)).length : Nat) : Int) + (((joinL rows).length : Nat) : Int)))) (ii (((sumC (joinL rows)).length + (joinL rows).length : Nat) : Int)) (by kernel_rfl) (by kernel_rfl) ((by rw [wrap_ini64 _ (by omega)]; exact congrArg (Value.int .i64) (by omega))) fun a H => ?_
    refine H.ge HP [(9, (ii (((sumC (joinL rows)).length + (joinL rows).length : Nat) : Int)))] [] fun a H => ?_
    refine then_normal (wp_seq (wp_seq (w_region ?_)))
    refine H.go HP 1 [(41, (ii (((sumC (joinL rows)).length + (joinL rows).length : Nat) : Int)))] [] fun a H => ?_
    refine H.wi 42 ((((sumC (joinL rows)).length + (joinL rows).length : Nat) : Int) + 1) fun a H => ?_
    refine H.ge HP [(43, (.bool (decide (((((sumC (joinL rows)).length + (joinL rows).length : Nat) : Int) + 1) > 96))))] [] fun a H => ?_
    refine then_normal ?_
    refine w_if H rfl (fun g43 => ?_) (fun g43 => ?_)
    ·have g43p := of_decide_eq_true g43
     refine wp_seq (w_region ?_)
     refine H.ge HP [(2, (.string (bstr ([])))), (3, (ii 160))] [] fun a H => ?_
     refine then_normal (wp_ret (then_ret ?_))
     refine H.ret2 (fn := Tryd.f9) Tryd.results9 (RV.tmp_ (v := (.string (bstr ([])))) (by kernel_rfl)) (RV.tmp_ (v := (ii 160)) (by kernel_rfl)) ?_
     refine ⟨congrArg Ending.returned ?_, HP.bl⟩
     unfold blockP; rw [if_pos g12p, hlay]; simp only; rw [if_neg (by omega)]; rfl
    ·have g43p := of_decide_eq_false g43
     refine wp_skip (then_normal (wp_seq (w_region ?_)))
     refine H.go HP 1 [(44, (ii (((sumC (joinL rows)).length + (joinL rows).length : Nat) : Int)))] [] fun a H => ?_
     refine H.valE 45 (.int .u8 (IntKind.u8.wrap (((sumC (joinL rows)).length + (joinL rows).length : Nat) : Int))) (.int .u8 (((sumC (joinL rows)).length + (joinL rows).length : Nat) : Int)) (by kernel_rfl) (by kernel_rfl) ((by rw [wrap_inu8 _ (by omega)])) fun a H => ?_
     refine H.alloc HP 46 (fun b => (.slice (some ⟨b, 0, none⟩) 1 1)) 5 [(.int .u8 (((sumC (joinL rows)).length + (joinL rows).length : Nat) : Int))] (by kernel_rfl) (fun w => by kernel_rfl) fun b_8 w_9 a H HP => ?_
     refine H.u 47 (.string (bstr ([UInt8.ofNat ((sumC (joinL rows)).length + (joinL rows).length)]))) (ex_b2sR (l := ([UInt8.ofNat ((sumC (joinL rows)).length + (joinL rows).length)])) (e := 5) (m := 1) (c := 1) (by kernel_rfl) (by rw [show Lib.byteCells [UInt8.ofNat ((sumC (joinL rows)).length + (joinL rows).length)] = [.int .u8 (((sumC (joinL rows)).length + (joinL rows).length : Nat) : Int)] from by simp only [Lib.byteCells, List.map_cons, List.map_nil, ofNat_toNat (show (sumC (joinL rows)).length + (joinL rows).length < 256 by omega)]]; exact Rd.of_box (HP.at_ 0 rfl) rfl) (by kernel_rfl) (by kernel_rfl) (by kernel_rfl)) fun a H => ?_
     refine H.go HP 1 [(48, (.string (bstr (sumC (joinL rows)))))] [] fun a H => ?_
     refine H.u 49 (.string (bstr (([UInt8.ofNat ((sumC (joinL rows)).length + (joinL rows).length)]) ++ (sumC (joinL rows))))) (ex_sadd (by kernel_rfl) (by kernel_rfl) (by (simp only [List.length_append, List.length_cons, List.length_nil]; omega))) fun a H => ?_
     refine H.go HP 1 [(50, (.string (bstr (joinL rows))))] [] fun a H => ?_
     refine H.u 51 (.string (bstr ((([UInt8.ofNat ((sumC (joinL rows)).length + (joinL rows).length)]) ++ (sumC (joinL rows))) ++ (joinL rows)))) (ex_sadd (by kernel_rfl) (by kernel_rfl) (by (simp only [List.length_append, List.length_cons, List.length_nil]; omega))) fun a H => ?_
     refine H.ge HP [(2, (.string (bstr ((([UInt8.ofNat ((sumC (joinL rows)).length + (joinL rows).length)]) ++ (sumC (joinL rows))) ++ (joinL rows))))), (3, (ii 0))] [] fun a H => ?_
     refine then_normal (wp_ret ?_)
     refine H.ret2 (fn := Tryd.f9) Tryd.results9 (RV.tmp_ (v := (.string (bstr ((([UInt8.ofNat ((sumC (joinL rows)).length + (joinL rows).length)]) ++ (sumC (joinL rows))) ++ (joinL rows))))) (by kernel_rfl)) (RV.tmp_ (v := (ii 0)) (by kernel_rfl)) ?_
     refine ⟨congrArg Ending.returned ?_, HP.bl⟩
     unfold blockP; rw [if_pos g12p, hlay]; simp only; rw [if_pos (by omega)]; simp [blkV]
theorem run_copy_any {P : Program} (w : World) (dT sT ty elem : TypeId) (g o dLen dCap : Nat) (s : List UInt8) (cur : List Value) (t : TypeId)
    (hu : P.underlying dT = some (.slice elem)) (hs : sizeB P elem = some 1) (hg : w.heap[g]? = some (.cells cur.toArray t (0, 0))) (hfit : o + min s.length dLen ≤ cur.length) :
    (Builtin.copy_ #[dT, sT] ty #[.slice (some ⟨g, o, none⟩) dLen dCap, .string (bstr s)]).run P w =
      .ok (goInt ((min s.length dLen : Nat) : Int)) (w.setRow g (cur.take o ++ Lib.byteCells (s.take dLen) ++ cur.drop (o + min s.length dLen)).toArray) := by
  have hlen : (Lib.byteCells (s.take dLen)).length = min s.length dLen := by rw [byteCells_len, List.length_take, Nat.min_comm]
  have hst := run_storeCells_at P g o t (Lib.byteCells (s.take dLen)) 0 cur.toArray w hg (by rw [hlen]; simpa using hfit) (Lib.byteCells_one _)
  have htk : List.take (Nat.min s.length dLen) (List.map (fun b : UInt8 => Value.int IntKind.u8 (b.toNat : Int)) s) = Lib.byteCells (s.take dLen) := by
    rw [← List.map_take]
    show List.map _ (s.take (min s.length dLen)) = _
    rw [show s.take (min s.length dLen) = s.take dLen from by
      by_cases h : s.length ≤ dLen
      · rw [Nat.min_eq_left h, List.take_of_length_le (Nat.le_refl _), List.take_of_length_le h]
      · rw [Nat.min_eq_right (by omega)]]
    rfl
  rw [hlen] at hst
  simp only [Nat.add_zero] at hst
  have hsz : (bstr s).size = s.length := rfl
  have hda : (bstr s).data.toList = s := by simp
  unfold sizeB at hs
  cases hq : P.info? elem with
  | none => simp [hq] at hs
  | some i =>
    simp only [hq, Option.map_some, Option.some.injEq] at hs
    simp [Builtin.copy_, run_underlying hu, Builtin.lenOf, Builtin.firstCells, sizeOf, typeInfo, hq, hs, hsz, hda]
    rw [htk, hst]
    simp [Result.andThen]
theorem Op.copyG {P : Program} {ops : Array Oper} {Q : Exit → Act → World → Prop} {a : Act} {w : World} {o : Oper} {n i : Nat} {L : List (Nat × Value)} {K : Act → World → Prop} {KB : List FK} {w0 : World} {LH : List HB} (H : Sl n L a) (HP : Hp w0 w LH KB) (ib d b off m c : Nat) (tb : TypeId) (us : List Value) (s : List UInt8) (f : Bool) (LH' : List HB) {dT sT ty e : TypeId}
    (ho : ops[i]? = some o) (hc : chk ops n L o d = true)
    (hx : execOp (ev L) o = (do pure (.value (← Builtin.copy_ #[dT, sT] ty #[.slice (some ⟨b, off, none⟩) m c, .string (bstr s)]))))
    (hu : P.underlying dT = some (.slice e)) (hs : sizeB P e = some 1) (hi : LH[ib]? = some (bx b tb us f)) (hfit : off + min s.length m ≤ us.length)
    (hL : LH.set ib (bx b tb (us.take off ++ Lib.byteCells (s.take m) ++ us.drop (off + min s.length m)) f) = LH')
    (kk : ∀ w' a', Sl n ((d, .int .i64 ((min s.length m : Nat) : Int)) :: L) a' → Hp w0 w' LH' KB → K a' w') : wpOp P ops Q i K a w := by
  obtain ⟨hd, hn, hk, hs', hw⟩ := chk_spec hc
  refine wpOp_wanted ho (H.wanted hw) ?_
  have hb := HP.at_ ib hi
  have hrun := run_copy_any (P := P) w dT sT ty e b off m c s us tb hu hs hb hfit
  unfold Oper.wp
  rw [H.exec hk hs', hx]
  simp only [Sem.run_bind, hrun, Result.andThen_ok, Sem.run_pure]
  rw [Oper.upon_value, hd]
  refine kk _ _ (H.put _ hn) (HP.mut ib hi (bx b tb (us.take off ++ Lib.byteCells (s.take m) ++ us.drop (off + min s.length m)) f) _ hL ⟨rfl, rfl, rfl, by simp, fun k hkl hne => ?_⟩ ?_ (bx_ok _ _ _ _) (fun k hk => ?_) (fun k hk => .inl hk) (fun k _ hk => hk) rfl)
  · have : k ≠ b := hne
    simp [World.setRow, Array.getElem?_modify, Ne.symm this]
  · exact setRow_heap w b us.toArray _ tb (0, 0) hb
  · cases hk
    simpa using hb.lt
end Go.Proofs.YtcifcipjndiegaaDoor
