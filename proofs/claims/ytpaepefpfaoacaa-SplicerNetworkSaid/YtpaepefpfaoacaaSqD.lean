/- Contracts of unit, feed. -/
import Derived.Test.YtpaepefpfaoacaaSqC
import Derived.Test.YtpaepefpfaoacaaOptRefC
namespace Go.Proofs.Ytpaepefpfaoacaa
open Go.ChangeShapes Go.WideShapes Go.ChangeAt Go.RowKit
set_option linter.unusedVariables false
set_option linter.unusedSimpArgs false

theorem evs_below {w w' : World} {A : Option Addr} {n : Nat} {l : List EvA} (h : IsEvs w A n l) (hb : Below w.heap.size w w') : IsEvs w' A n l := ⟨h.1, h.2.1.below hb, fun e he => ⟨(h.2.2 e he).1.below hb, (h.2.2 e he).2⟩⟩
def evBd (e : EvA) : Prop := (0 ≤ e.ev.start ∧ e.ev.start ≤ 1000000) ∧ (1 ≤ e.ev.frames ∧ e.ev.frames ≤ 1000000) ∧ e.ev.inn = 0 ∧ (-9223372036854775808 ≤ e.ev.regions ∧ e.ev.regions ≤ 9223372036854775807) ∧ e.al.length ≤ 1000
theorem evBd_end {e : EvA} (h : evBd e) : 0 ≤ e.ev.start ∧ e.ev.start ≤ 1000000000 ∧ 0 ≤ e.ev.frames ∧ e.ev.frames ≤ 1000000000 := by unfold evBd at h; omega
theorem find_get {i : Int} {l : List AstA} {F : Option AstA} {fa : AstA} (h : findA i l = F) (hf : F.getD astZ = fa) (hs : F.isSome = true) : fa ∈ l := by
  cases F with
  | none => cases hs
  | some x => simp only [Option.getD_some] at hf; subst hf; exact (findA_mem h).1
theorem find_len {i : Int} {l : List AstA} {F : Option AstA} {fa : AstA} (h : findA i l = F) (hf : F.getD astZ = fa) (hl : ∀ a ∈ l, a.pics.length ≤ 2000000) : fa.pics.length ≤ 2000000 := by
  subst hf
  cases F with
  | none => simp [astZ]
  | some x => exact hl x (findA_mem h).1
/-- The event that is on at a frame, and its file, if there is a picture. -/
def hits (lib : List AstA) (f : Int) (e : EvA) : Option AstA :=
  match findA e.ev.item lib with
  | none => none
  | some a => if e.ev.start ≤ f ∧ f < e.ev.start + e.ev.frames ∧ f - e.ev.start + e.ev.inn < (a.pics.length : Int) then some a else none
def hitP : List EvA → List AstA → Int → Option (EvA × AstA)
  | [], _, _ => none
  | e :: es, lib, f => match hits lib f e with
    | some a => some (e, a)
    | none => hitP es lib f
theorem hitP_append {es es' : List EvA} {lib : List AstA} {f : Int} (h : hitP es lib f = none) : hitP (es ++ es') lib f = hitP es' lib f := by
  induction es with
  | nil => rfl
  | cons e es ih =>
    simp only [hitP, List.cons_append] at h ⊢
    cases hh : hits lib f e with
    | some a => rw [hh] at h; cases h
    | none => rw [hh] at h; exact ih h
theorem hits_none {lib : List AstA} {f : Int} {X : EvA} {F : Option AstA} {fa : AstA} (hF : findA X.ev.item lib = F) (hfa : F.getD astZ = fa) (h : f < X.ev.start ∨ X.ev.start + X.ev.frames ≤ f ∨ F.isSome = false ∨ ((fa.pics.length : Nat) : Int) ≤ f - X.ev.start + X.ev.inn) : hits lib f X = none := by
  unfold hits
  rw [hF]
  cases F with
  | none => rfl
  | some a => simp only [Option.getD_some] at hfa; subst hfa; simp only; rw [if_neg (by simp at h; omega)]
theorem hitP_snoc {es : List EvA} {lib : List AstA} {f : Int} {X : EvA} {F : Option AstA} {fa : AstA} (h : hitP es lib f = none) (hF : findA X.ev.item lib = F) (hfa : F.getD astZ = fa) (hx : f < X.ev.start ∨ X.ev.start + X.ev.frames ≤ f ∨ F.isSome = false ∨ ((fa.pics.length : Nat) : Int) ≤ f - X.ev.start + X.ev.inn) : hitP (es ++ [X]) lib f = none := by
  rw [hitP_append h]
  simp [hitP, hits_none hF hfa hx]
theorem hitP_hit {es : List EvA} {lib : List AstA} {f : Int} {X : EvA} {F : Option AstA} {fa : AstA} {j : Nat} (hj : j < es.length) (hX : es.getD j evZ = X) (h : hitP (es.take j) lib f = none) (hF : findA X.ev.item lib = F) (hfa : F.getD astZ = fa) (hs : F.isSome = true) (h1 : X.ev.start ≤ f) (h2 : f < X.ev.start + X.ev.frames) (h3 : f - X.ev.start + X.ev.inn < ((fa.pics.length : Nat) : Int)) : hitP es lib f = some (X, fa) := by
  have e : es = es.take j ++ X :: es.drop (j + 1) := by
    rw [← hX, ← drop_at hj, List.take_append_drop]
  rw [e, hitP_append h]
  have : hits lib f X = some fa := by
    unfold hits
    rw [hF]
    cases F with
    | none => cases hs
    | some a => simp only [Option.getD_some] at hfa; subst hfa; simp only; rw [if_pos ⟨h1, h2, h3⟩]
  simp [hitP, this]
/-- What a unit says, wherever its alternatives lie. -/
structure US where
  channel : Int
  frame : Int
  version : Int
  item : Int
  index : Int
  key : Bool
  data : ByteArray
  regions : Int
  os : Int
  of : Int
  al : Alts
abbrev UnitA.spec (u : UnitA) : US := ⟨u.channel, u.frame, u.version, u.item, u.index, u.key, u.data, u.regions, u.os, u.of, u.al⟩
def slateS (f : Int) : US := ⟨0, f, 0, 0, 0, true, ByteArray.mk #[], 255, 0, 0, []⟩
def unitP (es : List EvA) (lib : List AstA) (f : Int) : US :=
  match hitP es lib f with
  | none => slateS f
  | some (e, a) => ⟨0, f, 3, e.ev.item, f - e.ev.start + e.ev.inn, (a.pics.getD (f - e.ev.start + e.ev.inn).toNat picZ).key, (a.pics.getD (f - e.ev.start + e.ev.inn).toNat picZ).data, e.ev.regions, (nextP f es).s, (nextP f es).f, (nextP f es).al⟩
def RetUnit (s : US) (w : World) (e : Ending) (w' : World) : Prop :=
  ∃ u : UnitA, e = .returned u.val ∧ u.spec = s ∧ u.ok w' ∧ Below w.heap.size w w' ∧ ∀ b off, u.A = some ⟨b, off, none⟩ → w.heap.size ≤ b
theorem nextE_mem {f : Int} {es : List EvA} {e : EvA} (h : nextE f es = some e) : e ∈ es ∧ e.outs = true := by
  have key : ∀ e, annP f (opts (plac es)) = some e → e ∈ es ∧ e.outs = true := fun e h => by
    have := annP_mem h
    simp only [opts, plac, List.mem_filter] at this
    exact ⟨this.1.1, this.2⟩
  unfold nextE at h
  split at h
  · rename_i x hx
    split at h
    · cases h
      have := List.mem_of_find?_eq_some hx
      simp only [plac, List.mem_filter] at this
      exact ⟨this.1, by assumption⟩
    · exact key e h
  · exact key e h
theorem nextP_len {f : Int} {es : List EvA} : (nextP f es).al.length ≤ 7 := by
  unfold nextP
  cases h : nextE f es with
  | none => simp [outP, POpt.zero]
  | some e =>
    have := (nextE_mem h).2
    simp only [EvA.outs, Bool.and_eq_true] at this
    exact (valid_facts this.2).2.2.1
theorem nextP_bd {f : Int} {es : List EvA} (h : ∀ e ∈ es, evBd e) : (-9223372036854775808 ≤ (nextP f es).s ∧ (nextP f es).s ≤ 9223372036854775807) ∧ (-9223372036854775808 ≤ (nextP f es).f ∧ (nextP f es).f ≤ 9223372036854775807) := by
  unfold nextP
  cases hn : nextE f es with
  | none => simp [outP, POpt.zero]
  | some e =>
    have := h e (nextE_mem hn).1
    unfold evBd at this
    simp only [outP]
    omega
/-! ### feed -/
def intCells (z : Int) : Array Value := #[.int .i64 z]
theorem flat_ints (l : List Int) : flat intCells l = ints l := by
  induction l with
  | nil => rfl
  | cons a l ih => simp only [flat, ints, List.flatMap_cons, List.map_cons] at *; rw [ih]; rfl
theorem ints_of_row {w : World} {base t : Nat} {A : Option Addr} {c : Nat} {l : List Int} (h : (rowsR base t 1 intCells (fun _ _ => True) (fun _ _ => False) (.slice A l.length c) l).F w) : IsInts w A l.length l := by
  have := Rd.of_own h.1
  rw [flat_ints] at this
  exact toInts this
def goneP (zs : List Int) : List Int := zs.map fun z => pickI z 100
theorem getD_mem {zs : List Int} {j : Nat} (hj : j < zs.length) : zs.getD j 0 ∈ zs := by
  simp [List.getD, List.getElem?_eq_getElem hj]
def unOk (u : UnitA) (w : World) : Prop := u.ok w
def unFp (u : UnitA) (k : Nat) : Prop := rowFp u.al.length u.A k
theorem elOk_un : ElOk unOk unFp := fun _ _ _ h hk hs => ⟨⟨h.1.1, h.1.2.keep hk hs⟩, h.2⟩
def altR (u : UnitA) : HB := ⟨fun k => rowFp u.al.length u.A k, fun w => IsAlts w u.A u.al.length u.al, true⟩
theorem altR_ok (u : UnitA) : (altR u).ok := fun _ _ h hk hs => ⟨h.1, h.2.keep hk hs⟩
def slateA (f : Int) : UnitA := ⟨0, f, 0, 0, 0, true, ByteArray.mk #[], 255, 0, ByteArray.mk #[], 0, 0, none, 0, []⟩
theorem slateA_ok (f : Int) {w : World} (h : 0 ≤ f ∧ f ≤ 1000000) : unOk (slateA f) w := ⟨IsAlts.nil _ _, by simp [slateA, maxLen], by simp only [slateA, UnitA.bd]; omega⟩
def feedAt (es : List EvA) (lib : List AstA) (gl : List Int) (f : Int) : US := if hasP f gl = true then slateS f else unitP es lib f
def feedTo (es : List EvA) (lib : List AstA) (gl : List Int) (n : Nat) : List US := (List.range n).map fun f => feedAt es lib gl ((f : Nat) : Int)
theorem feedTo_snoc {es : List EvA} {lib : List AstA} {gl : List Int} {j : Nat} {ul : List UnitA} {u : UnitA} (h : ul.map UnitA.spec = feedTo es lib gl j) (hu : u.spec = if hasP ((j : Nat) : Int) gl = true then slateS ((j : Nat) : Int) else unitP es lib ((j : Nat) : Int)) : (ul ++ [u]).map UnitA.spec = feedTo es lib gl (j + 1) := by
  unfold feedTo at *
  rw [List.range_succ, List.map_append, List.map_append, h]
  simp only [List.map_cons, List.map_nil, feedAt, hu]
abbrev IsUnits (w : World) (A : Option Addr) (n : Nat) (l : List UnitA) : Prop := IsRow 13 UnitA.cells w A n l ∧ ∀ u ∈ l, u.ok w
def RetFeed (es : List EvA) (lib : List AstA) (gl : List Int) (w : World) (e : Ending) (w' : World) : Prop :=
  ∃ A c l, e = .returned (.slice A l.length c) ∧ IsUnits w' A l.length l ∧ l.map UnitA.spec = feedTo es lib gl (endP es).toNat ∧ l.length ≤ c ∧ c ≤ maxLen ∧ Below w.heap.size w w' ∧ ∀ j, (rowFp l.length A j ∨ ∃ u ∈ l, rowFp u.al.length u.A j) → w.heap.size ≤ j
theorem feed_end {es : List EvA} {lib : List AstA} {gl gl' : List Int} {w w' : World} {A : Option Addr} {c j M : Nat} {l : List UnitA} (h : (rowsR w.heap.size 46 13 UnitA.cells unOk unFp (.slice A l.length c) l).F w') (hf : ∀ k, (rowsR w.heap.size 46 13 UnitA.cells unOk unFp (.slice A l.length c) l).fp k → w.heap.size ≤ k) (hsp : l.map UnitA.spec = feedTo es lib gl j) (hM : endP es = M) (hj : j = M) (hb : Below w.heap.size w w') (hg : gl = gl' := by assumption) :
    RetFeed es lib gl' w (.returned (.slice A l.length c)) w' := by
  subst hg
  subst hj
  have f := own_facts h.1
  refine ⟨A, c, l, rfl, ⟨⟨rfl, Rd.of_own h.1⟩, fun a ha => (h.2 a ha).1⟩, ?_, f.1, f.2.1, hb, fun i hi => ?_⟩
  · rw [hsp, hM]; simp
  · rcases hi with ⟨_, off, e⟩ | hi
    · exact hf i (.inl (by rw [e]; rfl))
    · exact hf i (.inr hi)
set_option maxRecDepth 100000 in
set_option maxHeartbeats 8000000 in
theorem unit_any (A : Option Addr) (n c : Nat) (es : List EvA) (LA : Option Addr) (m lc : Nat) (lib : List AstA) (f : Int) (w : World) (h : IsEvs w A n es) (hn : n ≤ 1000000) (hbe : ∀ e ∈ es, evBd e) (hlib : IsAsts w LA m lib) (hm : m ≤ 1000000) (hpc : ∀ a ∈ lib, a.pics.length ≤ 2000000) (hf : 0 ≤ f ∧ f ≤ 1000000) :
    Calls Try.prog 27 #[.slice A n c, .slice LA m lc, .int .i64 f] w fun e w' => RetUnit (unitP es lib f) w e w' := by
  have hl := h.1
  have hpb := nextP_len (f := f) (es := es)
  have HP := Hp.start w
  refine w_enter 100 [(0, (.slice A n c)), (1, (.slice LA m lc)), (2, (.int .i64 f))] Try.func27 rfl Try.ntmps27 (by kernel_rfl) (by kernel_rfl) ?_
  intro a H
  refine wp_seq ?_
  refine w_region ?_
  refine H.alloc HP 6 (fun b => (.pointer (some ⟨b, 0, none⟩))) 46 [(.int .i64 0), (.int .i64 0), (.int .i64 0), (.int .i64 0), (.int .i64 0), (.bool false), (.string (ByteArray.mk #[])), (.int .i64 0), (.int .i64 0), (.string (ByteArray.mk #[])), (.int .i64 0), (.int .i64 0), (.slice none 0 0)] (by kernel_rfl) (fun w => by kernel_rfl) ?_
  intro b_1 w_2 a H HP
  refine wpList_nil ?_
  refine then_normal ?_
  refine wp_seq ?_
  refine wp_seq ?_
  refine w_region ?_
  refine H.val 7 (.int .i64 0) (by kernel_rfl) (by kernel_rfl) ?_
  intro a H
  refine wpList_nil ?_
  refine then_normal ?_
  refine wp_block ?_
  refine w_loop (fun mm a v => ∃ (j : Nat), n - j = mm ∧ Sl 100 [(7, (.int .i64 ((j : Nat) : Int))), (6, (.pointer (some ⟨b_1, 0, none⟩))), (0, (.slice A n c)), (1, (.slice LA m lc)), (2, (.int .i64 f))] a ∧ Hp w v [bx b_1 46 [(.int .i64 0), (.int .i64 0), (.int .i64 0), (.int .i64 0), (.int .i64 0), (.bool false), (.string (ByteArray.mk #[])), (.int .i64 0), (.int .i64 0), (.string (ByteArray.mk #[])), (.int .i64 0), (.int .i64 0), (.slice none 0 0)] true] [] ∧ (j ≤ n) ∧ (hitP (es.take j) lib f = none)) (n - 0) ?_ ?_
  · exact ⟨0, (by omega), H.keep (by kernel_rfl), HP, by omega, rfl⟩
  rintro mm a w_3 ⟨j, hmeas, H, HP, hj, hno⟩
  obtain ⟨X, hX⟩ : ∃ X, es.getD j evZ = X := ⟨_, rfl⟩
  obtain ⟨F, hF⟩ : ∃ F, findA X.ev.item lib = F := ⟨_, rfl⟩
  obtain ⟨fa, hfa⟩ : ∃ fa, F.getD astZ = fa := ⟨_, rfl⟩
  have CF := fun w h => rfind_any LA m lc lib X.ev.item w h (by unfold maxLen; omega)
  unfold findV at CF
  simp only [hF, hfa] at CF
  have hpl := find_len hF hfa hpc
  refine wp_seq ?_
  refine wp_seq ?_
  refine w_region ?_
  refine H.val 12 (.int .i64 ((j : Nat) : Int)) (by kernel_rfl) (by kernel_rfl) ?_
  intro a H
  refine H.val 13 (.slice A n c) (by kernel_rfl) (by kernel_rfl) ?_
  intro a H
  refine H.val 14 (.int .i64 ((n : Nat) : Int)) (by kernel_rfl) (by kernel_rfl) ?_
  intro a H
  refine H.val 15 (.bool (decide (((j : Nat) : Int) < ((n : Nat) : Int)))) (by kernel_rfl) (by kernel_rfl) ?_
  intro a H
  refine wpList_nil ?_
  refine then_normal ?_
  refine w_if H rfl (fun g15 => ?_) (fun g15 => ?_)
  · have g15p := of_decide_eq_true g15
    refine wp_skip ?_
    refine then_normal ?_
    refine wp_seq ?_
    obtain ⟨b0, off, hA, hbl, pc, hmem⟩ := IsEvs.get h (j := j) (by omega)
    subst hA
    rw [hX] at pc hmem
    have hbd := hbe X hmem
    unfold evBd at hbd
    refine wp_block ?_
    refine wp_seq ?_
    refine An.start (fun v => Hp w v [bx b_1 46 [(.int .i64 0), (.int .i64 0), (.int .i64 0), (.int .i64 0), (.int .i64 0), (.bool false), (.string (ByteArray.mk #[])), (.int .i64 0), (.int .i64 0), (.string (ByteArray.mk #[])), (.int .i64 0), (.int .i64 0), (.slice none 0 0)] true] []) 14 14 HP wide_follows rfl ?_
    intro w_4 HP
    refine An.pure H (.inr (HP)) 0 18 (.int .i64 f) rfl (by kernel_rfl) (by kernel_rfl) (fun _ _ _ h => h) (fun _ => by kernel_rfl) ?_
    intro a H
    refine An.pure H (.inr (HP)) 1 19 (.slice (some ⟨b0, off, none⟩) n c) rfl (by kernel_rfl) (by kernel_rfl) (fun _ _ _ h => h) (fun _ => by kernel_rfl) ?_
    intro a H
    refine An.pure H (.inr (HP)) 2 20 (.int .i64 ((j : Nat) : Int)) rfl (by kernel_rfl) (by kernel_rfl) (fun _ _ _ h => h) (fun _ => by kernel_rfl) ?_
    intro a H
    refine An.pure H (.inr (HP)) 3 21 (.pointer (some ⟨b0, off + j * 7, none⟩)) rfl (by kernel_rfl) (by kernel_rfl) (fun _ _ _ h => h) (fun _ => ex_index (b := b0) (off := off) (len := n) (cap := c) (e := 63) (k := 7) (ik := .i64) (i := ((j : Nat) : Int)) (m := j) (by kernel_rfl) (by kernel_rfl) (by omega) (by omega) (by kernel_rfl) (by kernel_rfl)) ?_
    intro a H
    refine An.pure H (.inr (HP)) 4 22 (.pointer (some ⟨b0, off + j * 7 + 2, none⟩)) rfl (by kernel_rfl) (by kernel_rfl) (fun _ _ _ h => h) (fun _ => by kernel_rfl) ?_
    intro a H
    refine An.val H (HP) 5 23 (.int .i64 X.ev.start) rfl (by kernel_rfl) (by kernel_rfl) (fun _ _ _ h => h) (fun _ hS => ex_load1 (by kernel_rfl) (by kernel_rfl) (hS.oldc (by kernel_rfl) (pc.2.2.1))) ?_
    intro a H
    refine An.pureE H (.inr (HP)) 6 24 (.int .i64 (IntKind.i64.wrap (f - X.ev.start))) (.int .i64 (f - X.ev.start)) rfl (by kernel_rfl) (by kernel_rfl) (fun _ _ _ h => h) (fun _ => by kernel_rfl) ((by rw [wrap_ini64 _ (by omega)])) ?_
    intro a H
    refine An.pure H (.inr (HP)) 7 25 (.slice (some ⟨b0, off, none⟩) n c) rfl (by kernel_rfl) (by kernel_rfl) (fun _ _ _ h => h) (fun _ => by kernel_rfl) ?_
    intro a H
    refine An.pure H (.inr (HP)) 8 26 (.int .i64 ((j : Nat) : Int)) rfl (by kernel_rfl) (by kernel_rfl) (fun _ _ _ h => h) (fun _ => by kernel_rfl) ?_
    intro a H
    refine An.pure H (.inr (HP)) 9 27 (.pointer (some ⟨b0, off + j * 7, none⟩)) rfl (by kernel_rfl) (by kernel_rfl) (fun _ _ _ h => h) (fun _ => ex_index (b := b0) (off := off) (len := n) (cap := c) (e := 63) (k := 7) (ik := .i64) (i := ((j : Nat) : Int)) (m := j) (by kernel_rfl) (by kernel_rfl) (by omega) (by omega) (by kernel_rfl) (by kernel_rfl)) ?_
    intro a H
    refine An.pure H (.inr (HP)) 10 28 (.pointer (some ⟨b0, off + j * 7 + 4, none⟩)) rfl (by kernel_rfl) (by kernel_rfl) (fun _ _ _ h => h) (fun _ => by kernel_rfl) ?_
    intro a H
    refine An.val H (HP) 11 29 (.int .i64 X.ev.inn) rfl (by kernel_rfl) (by kernel_rfl) (fun _ _ _ h => h) (fun _ hS => ex_load1 (by kernel_rfl) (by kernel_rfl) (hS.oldc (by kernel_rfl) (pc.2.2.2.2.1))) ?_
    intro a H
    refine An.pureE H (.inr (HP)) 12 30 (.int .i64 (IntKind.i64.wrap ((f - X.ev.start) + X.ev.inn))) (.int .i64 ((f - X.ev.start) + X.ev.inn)) rfl (by kernel_rfl) (by kernel_rfl) (fun _ _ _ h => h) (fun _ => by kernel_rfl) ((by rw [wrap_ini64 _ (by omega)])) ?_
    intro a H
    refine An.pure H (.inr (HP)) 13 8 (.int .i64 ((f - X.ev.start) + X.ev.inn)) rfl (by kernel_rfl) (by kernel_rfl) (fun _ _ _ h => h) (fun _ => by kernel_rfl) ?_
    intro a H
    refine An.done (by kernel_rfl) ?_
    have H := H.keep (L' := [(8, (.int .i64 ((f - X.ev.start) + X.ev.inn))), (15, (.bool (decide (((j : Nat) : Int) < ((n : Nat) : Int))))), (14, (.int .i64 ((n : Nat) : Int))), (13, (.slice (some ⟨b0, off, none⟩) n c)), (12, (.int .i64 ((j : Nat) : Int))), (7, (.int .i64 ((j : Nat) : Int))), (6, (.pointer (some ⟨b_1, 0, none⟩))), (0, (.slice (some ⟨b0, off, none⟩) n c)), (1, (.slice LA m lc)), (2, (.int .i64 f))]) (by kernel_rfl)
    refine then_normal ?_
    refine wp_seq ?_
    refine w_region ?_
    refine H.val 32 (.slice LA m lc) (by kernel_rfl) (by kernel_rfl) ?_
    intro a H
    refine H.val 33 (.slice (some ⟨b0, off, none⟩) n c) (by kernel_rfl) (by kernel_rfl) ?_
    intro a H
    refine H.val 34 (.int .i64 ((j : Nat) : Int)) (by kernel_rfl) (by kernel_rfl) ?_
    intro a H
    refine H.val 35 (.pointer (some ⟨b0, off + j * 7, none⟩)) (by kernel_rfl) (ex_index (b := b0) (off := off) (len := n) (cap := c) (e := 63) (k := 7) (ik := .i64) (i := ((j : Nat) : Int)) (m := j) (by kernel_rfl) (by kernel_rfl) (by omega) (by omega) (by kernel_rfl) (by kernel_rfl)) ?_
    intro a H
    refine H.val 36 (.pointer (some ⟨b0, off + j * 7 + 1, none⟩)) (by kernel_rfl) (by kernel_rfl) ?_
    intro a H
    refine H.val 37 (.int .i64 X.ev.item) (by kernel_rfl) (ex_load1 (by kernel_rfl) (by kernel_rfl) (HP.oldc (by kernel_rfl) (pc.2.1))) ?_
    intro a H
    refine H.call 38 (by kernel_rfl) (Eq.trans (by kernel_rfl : _ = (callFunc 15 #[(.slice LA m lc), (.int .i64 X.ev.item)]).run Try.prog w_4) (Try.call15 _ _)) (CF w_4 (hlib.below (HP.below (by kernel_rfl)))) ?_
    rintro e w_5 ⟨rfl, hb⟩
    refine ⟨_, rfl, ?_⟩
    intro a H
    have HP := HP.next hb
    refine H.val 31 (.tuple #[(.agg #[(.int .i64 fa.item), (.slice fa.A fa.pics.length fa.c)]), (.bool F.isSome)]) (by kernel_rfl) (by kernel_rfl) ?_
    intro a H
    refine H.val 39 (.agg #[(.int .i64 fa.item), (.slice fa.A fa.pics.length fa.c)]) (by kernel_rfl) (by kernel_rfl) ?_
    intro a H
    refine H.val 40 (.bool F.isSome) (by kernel_rfl) (by kernel_rfl) ?_
    intro a H
    refine H.alloc HP 9 (fun b => (.pointer (some ⟨b, 0, none⟩))) 49 [(.int .i64 0), (.slice none 0 0)] (by kernel_rfl) (fun w => by kernel_rfl) ?_
    intro b_6 w_7 a H HP
    refine H.store HP 0 b_6 0 2 49 [(.int .i64 0), (.slice none 0 0)] true (.agg #[(.int .i64 fa.item), (.slice fa.A fa.pics.length fa.c)]) [bx b_6 49 [(.int .i64 fa.item), (.slice fa.A fa.pics.length fa.c)] true, bx b_1 46 [(.int .i64 0), (.int .i64 0), (.int .i64 0), (.int .i64 0), (.int .i64 0), (.bool false), (.string (ByteArray.mk #[])), (.int .i64 0), (.int .i64 0), (.string (ByteArray.mk #[])), (.int .i64 0), (.int .i64 0), (.slice none 0 0)] true] (by kernel_rfl) (by kernel_rfl) (by kernel_rfl) rfl (by kernel_rfl) (by kernel_rfl) (by kernel_rfl) (by kernel_rfl) (by kernel_rfl) ?_
    intro w_8 a H HP
    refine H.val 10 (.bool F.isSome) (by kernel_rfl) (by kernel_rfl) ?_
    intro a H
    refine wpList_nil ?_
    have H := H.keep (L' := [(10, (.bool F.isSome)), (9, (.pointer (some ⟨b_6, 0, none⟩))), (8, (.int .i64 ((f - X.ev.start) + X.ev.inn))), (15, (.bool (decide (((j : Nat) : Int) < ((n : Nat) : Int))))), (14, (.int .i64 ((n : Nat) : Int))), (13, (.slice (some ⟨b0, off, none⟩) n c)), (12, (.int .i64 ((j : Nat) : Int))), (7, (.int .i64 ((j : Nat) : Int))), (6, (.pointer (some ⟨b_1, 0, none⟩))), (0, (.slice (some ⟨b0, off, none⟩) n c)), (1, (.slice LA m lc)), (2, (.int .i64 f))]) (by kernel_rfl)
    refine then_normal ?_
    refine wp_seq ?_
    refine An.start (fun v => Hp w v [bx b_6 49 [(.int .i64 fa.item), (.slice fa.A fa.pics.length fa.c)] true, bx b_1 46 [(.int .i64 0), (.int .i64 0), (.int .i64 0), (.int .i64 0), (.int .i64 0), (.bool false), (.string (ByteArray.mk #[])), (.int .i64 0), (.int .i64 0), (.string (ByteArray.mk #[])), (.int .i64 0), (.int .i64 0), (.slice none 0 0)] true] []) 32 32 HP wide_follows rfl ?_
    intro w_9 HP
    refine An.pure H (.inr (HP)) 0 41 (.int .i64 f) rfl (by kernel_rfl) (by kernel_rfl) (fun _ _ _ h => h) (fun _ => by kernel_rfl) ?_
    intro a H
    refine An.pure H (.inr (HP)) 1 42 (.slice (some ⟨b0, off, none⟩) n c) rfl (by kernel_rfl) (by kernel_rfl) (fun _ _ _ h => h) (fun _ => by kernel_rfl) ?_
    intro a H
    refine An.pure H (.inr (HP)) 2 43 (.int .i64 ((j : Nat) : Int)) rfl (by kernel_rfl) (by kernel_rfl) (fun _ _ _ h => h) (fun _ => by kernel_rfl) ?_
    intro a H
    refine An.pure H (.inr (HP)) 3 44 (.pointer (some ⟨b0, off + j * 7, none⟩)) rfl (by kernel_rfl) (by kernel_rfl) (fun _ _ _ h => h) (fun _ => ex_index (b := b0) (off := off) (len := n) (cap := c) (e := 63) (k := 7) (ik := .i64) (i := ((j : Nat) : Int)) (m := j) (by kernel_rfl) (by kernel_rfl) (by omega) (by omega) (by kernel_rfl) (by kernel_rfl)) ?_
    intro a H
    refine An.pure H (.inr (HP)) 4 45 (.pointer (some ⟨b0, off + j * 7 + 2, none⟩)) rfl (by kernel_rfl) (by kernel_rfl) (fun _ _ _ h => h) (fun _ => by kernel_rfl) ?_
    intro a H
    refine An.val H (HP) 5 46 (.int .i64 X.ev.start) rfl (by kernel_rfl) (by kernel_rfl) (fun _ _ _ h => h) (fun _ hS => ex_load1 (by kernel_rfl) (by kernel_rfl) (hS.oldc (by kernel_rfl) (pc.2.2.1))) ?_
    intro a H
    refine An.pure H (.inr (HP)) 6 47 (.bool (decide (f ≥ X.ev.start))) rfl (by kernel_rfl) (by kernel_rfl) (fun _ _ _ h => h) (fun _ => by kernel_rfl) ?_
    intro a H
    refine An.pure H (.inr (HP)) 7 48 (.bool (decide (f ≥ X.ev.start))) rfl (by kernel_rfl) (by kernel_rfl) (fun _ _ _ h => h) (fun _ => by kernel_rfl) ?_
    intro a H
    refine H.split 48 rfl (fun g48 H => ?_) (fun g48 H => ?_)
    · have g48p := of_decide_eq_true g48
      refine An.pure H (.inr (HP)) 8 49 (.int .i64 f) rfl (by kernel_rfl) (by kernel_rfl) (fun _ _ _ h => h) (fun _ => by kernel_rfl) ?_
      intro a H
      refine An.pure H (.inr (HP)) 9 50 (.slice (some ⟨b0, off, none⟩) n c) rfl (by kernel_rfl) (by kernel_rfl) (fun _ _ _ h => h) (fun _ => by kernel_rfl) ?_
      intro a H
      refine An.pure H (.inr (HP)) 10 51 (.int .i64 ((j : Nat) : Int)) rfl (by kernel_rfl) (by kernel_rfl) (fun _ _ _ h => h) (fun _ => by kernel_rfl) ?_
      intro a H
      refine An.pure H (.inr (HP)) 11 52 (.pointer (some ⟨b0, off + j * 7, none⟩)) rfl (by kernel_rfl) (by kernel_rfl) (fun _ _ _ h => h) (fun _ => ex_index (b := b0) (off := off) (len := n) (cap := c) (e := 63) (k := 7) (ik := .i64) (i := ((j : Nat) : Int)) (m := j) (by kernel_rfl) (by kernel_rfl) (by omega) (by omega) (by kernel_rfl) (by kernel_rfl)) ?_
      intro a H
      refine An.pure H (.inr (HP)) 12 53 (.pointer (some ⟨b0, off + j * 7 + 2, none⟩)) rfl (by kernel_rfl) (by kernel_rfl) (fun _ _ _ h => h) (fun _ => by kernel_rfl) ?_
      intro a H
      refine An.val H (HP) 13 54 (.int .i64 X.ev.start) rfl (by kernel_rfl) (by kernel_rfl) (fun _ _ _ h => h) (fun _ hS => ex_load1 (by kernel_rfl) (by kernel_rfl) (hS.oldc (by kernel_rfl) (pc.2.2.1))) ?_
      intro a H
      refine An.pure H (.inr (HP)) 14 55 (.slice (some ⟨b0, off, none⟩) n c) rfl (by kernel_rfl) (by kernel_rfl) (fun _ _ _ h => h) (fun _ => by kernel_rfl) ?_
      intro a H
      refine An.pure H (.inr (HP)) 15 56 (.int .i64 ((j : Nat) : Int)) rfl (by kernel_rfl) (by kernel_rfl) (fun _ _ _ h => h) (fun _ => by kernel_rfl) ?_
      intro a H
      refine An.pure H (.inr (HP)) 16 57 (.pointer (some ⟨b0, off + j * 7, none⟩)) rfl (by kernel_rfl) (by kernel_rfl) (fun _ _ _ h => h) (fun _ => ex_index (b := b0) (off := off) (len := n) (cap := c) (e := 63) (k := 7) (ik := .i64) (i := ((j : Nat) : Int)) (m := j) (by kernel_rfl) (by kernel_rfl) (by omega) (by omega) (by kernel_rfl) (by kernel_rfl)) ?_
      intro a H
      refine An.pure H (.inr (HP)) 17 58 (.pointer (some ⟨b0, off + j * 7 + 3, none⟩)) rfl (by kernel_rfl) (by kernel_rfl) (fun _ _ _ h => h) (fun _ => by kernel_rfl) ?_
      intro a H
      refine An.val H (HP) 18 59 (.int .i64 X.ev.frames) rfl (by kernel_rfl) (by kernel_rfl) (fun _ _ _ h => h) (fun _ hS => ex_load1 (by kernel_rfl) (by kernel_rfl) (hS.oldc (by kernel_rfl) (pc.2.2.2.1))) ?_
      intro a H
      refine An.pureE H (.inr (HP)) 19 60 (.int .i64 (IntKind.i64.wrap (X.ev.start + X.ev.frames))) (.int .i64 (X.ev.start + X.ev.frames)) rfl (by kernel_rfl) (by kernel_rfl) (fun _ _ _ h => h) (fun _ => by kernel_rfl) ((by rw [wrap_ini64 _ (by omega)])) ?_
      intro a H
      refine An.pure H (.inr (HP)) 20 61 (.bool (decide (f < (X.ev.start + X.ev.frames)))) rfl (by kernel_rfl) (by kernel_rfl) (fun _ _ _ h => h) (fun _ => by kernel_rfl) ?_
      intro a H
      refine An.pure H (.inr (HP)) 21 62 (.bool (decide (f < (X.ev.start + X.ev.frames)))) rfl (by kernel_rfl) (by kernel_rfl) (fun _ _ _ h => h) (fun _ => by kernel_rfl) ?_
      intro a H
      refine An.pure H (.inr (HP)) 22 63 (.bool (decide (f < (X.ev.start + X.ev.frames)))) rfl (by kernel_rfl) (by kernel_rfl) (fun _ _ _ h => h) (fun _ => by kernel_rfl) ?_
      intro a H
      refine H.split 63 rfl (fun g63 H => ?_) (fun g63 H => ?_)
      · have g63p := of_decide_eq_true g63
        refine An.pure H (.inr (HP)) 23 64 (.bool F.isSome) rfl (by kernel_rfl) (by kernel_rfl) (fun _ _ _ h => h) (fun _ => by kernel_rfl) ?_
        intro a H
        refine An.pure H (.inr (HP)) 24 65 (.bool F.isSome) rfl (by kernel_rfl) (by kernel_rfl) (fun _ _ _ h => h) (fun _ => by kernel_rfl) ?_
        intro a H
        refine An.pure H (.inr (HP)) 25 66 (.bool F.isSome) rfl (by kernel_rfl) (by kernel_rfl) (fun _ _ _ h => h) (fun _ => by kernel_rfl) ?_
        intro a H
        refine H.split 66 rfl (fun g66 H => ?_) (fun g66 H => ?_)
        · have g66p := g66
          refine An.pure H (.inr (HP)) 26 67 (.int .i64 ((f - X.ev.start) + X.ev.inn)) rfl (by kernel_rfl) (by kernel_rfl) (fun _ _ _ h => h) (fun _ => by kernel_rfl) ?_
          intro a H
          refine An.pure H (.inr (HP)) 27 68 (.pointer (some ⟨b_6, 1, none⟩)) rfl (by kernel_rfl) (by kernel_rfl) (fun _ _ _ h => h) (fun _ => by kernel_rfl) ?_
          intro a H
          refine An.val H (HP) 28 69 (.slice fa.A fa.pics.length fa.c) rfl (by kernel_rfl) (by kernel_rfl) (fun _ _ _ h => h) (fun _ hS => ex_load1 (by kernel_rfl) (by kernel_rfl) (hS.cell 0 rfl 1 rfl)) ?_
          intro a H
          refine An.pure H (.inr (HP)) 29 70 (.int .i64 ((fa.pics.length : Nat) : Int)) rfl (by kernel_rfl) (by kernel_rfl) (fun _ _ _ h => h) (fun _ => by kernel_rfl) ?_
          intro a H
          refine An.pure H (.inr (HP)) 30 71 (.bool (decide (((f - X.ev.start) + X.ev.inn) < ((fa.pics.length : Nat) : Int)))) rfl (by kernel_rfl) (by kernel_rfl) (fun _ _ _ h => h) (fun _ => by kernel_rfl) ?_
          intro a H
          refine An.pure H (.inr (HP)) 31 72 (.bool (decide (((f - X.ev.start) + X.ev.inn) < ((fa.pics.length : Nat) : Int)))) rfl (by kernel_rfl) (by kernel_rfl) (fun _ _ _ h => h) (fun _ => by kernel_rfl) ?_
          intro a H
          refine An.done (by kernel_rfl) ?_
          have H := H.keep (L' := [(72, (.bool (decide (((f - X.ev.start) + X.ev.inn) < ((fa.pics.length : Nat) : Int))))), (10, (.bool F.isSome)), (9, (.pointer (some ⟨b_6, 0, none⟩))), (8, (.int .i64 ((f - X.ev.start) + X.ev.inn))), (15, (.bool (decide (((j : Nat) : Int) < ((n : Nat) : Int))))), (14, (.int .i64 ((n : Nat) : Int))), (13, (.slice (some ⟨b0, off, none⟩) n c)), (12, (.int .i64 ((j : Nat) : Int))), (7, (.int .i64 ((j : Nat) : Int))), (6, (.pointer (some ⟨b_1, 0, none⟩))), (0, (.slice (some ⟨b0, off, none⟩) n c)), (1, (.slice LA m lc)), (2, (.int .i64 f))]) (by kernel_rfl)
          refine then_normal ?_
          refine w_if H rfl (fun g72 => ?_) (fun g72 => ?_)
          · have g72p := of_decide_eq_true g72
            refine wp_seq ?_
            obtain ⟨b2, of2, hA2, hbl2, pa, pb, pp⟩ := IsPics.get (hlib.2 fa (find_get hF hfa g66)).1 (i := (f - X.ev.start + X.ev.inn).toNat) (by omega)
            obtain ⟨PX, hPX⟩ : ∃ PX, fa.pics.getD (f - X.ev.start + X.ev.inn).toNat picZ = PX := ⟨_, rfl⟩
            rw [hPX] at pa pb pp
            have HP : Hp w w_9 [bx b_6 49 [(.int .i64 fa.item), (.slice (some ⟨b2, of2, none⟩) fa.pics.length fa.c)] true, bx b_1 46 [(.int .i64 0), (.int .i64 0), (.int .i64 0), (.int .i64 0), (.int .i64 0), (.bool false), (.string (ByteArray.mk #[])), (.int .i64 0), (.int .i64 0), (.string (ByteArray.mk #[])), (.int .i64 0), (.int .i64 0), (.slice none 0 0)] true] [] := by rw [hA2] at HP; exact HP
            have H : Sl 100 [(72, (.bool (decide (((f - X.ev.start) + X.ev.inn) < ((fa.pics.length : Nat) : Int))))), (10, (.bool F.isSome)), (9, (.pointer (some ⟨b_6, 0, none⟩))), (8, (.int .i64 ((f - X.ev.start) + X.ev.inn))), (15, (.bool (decide (((j : Nat) : Int) < ((n : Nat) : Int))))), (14, (.int .i64 ((n : Nat) : Int))), (13, (.slice (some ⟨b0, off, none⟩) n c)), (12, (.int .i64 ((j : Nat) : Int))), (7, (.int .i64 ((j : Nat) : Int))), (6, (.pointer (some ⟨b_1, 0, none⟩))), (0, (.slice (some ⟨b0, off, none⟩) n c)), (1, (.slice LA m lc)), (2, (.int .i64 f))] a := by first | (rw [hA2] at H; exact H) | exact H
            refine w_region ?_
            refine H.val 73 (.pointer (some ⟨b_6, 1, none⟩)) (by kernel_rfl) (by kernel_rfl) ?_
            intro a H
            refine H.val 74 (.slice (some ⟨b2, of2, none⟩) fa.pics.length fa.c) (by kernel_rfl) (ex_load1 (by kernel_rfl) (by kernel_rfl) (HP.cell 0 rfl 1 rfl)) ?_
            intro a H
            refine H.val 75 (.int .i64 ((f - X.ev.start) + X.ev.inn)) (by kernel_rfl) (by kernel_rfl) ?_
            intro a H
            refine H.val 76 (.pointer (some ⟨b2, of2 + (f - X.ev.start + X.ev.inn).toNat * 3, none⟩)) (by kernel_rfl) (ex_index (b := b2) (off := of2) (len := fa.pics.length) (cap := fa.c) (e := 53) (k := 3) (ik := .i64) (i := ((f - X.ev.start) + X.ev.inn)) (m := (f - X.ev.start + X.ev.inn).toNat) (by kernel_rfl) (by kernel_rfl) (by omega) (by omega) (by kernel_rfl) (by kernel_rfl)) ?_
            intro a H
            refine H.val 77 (.agg #[(.bool PX.key), (.string PX.data), (.int .i64 PX.power)]) (by kernel_rfl) (ex_loadN (vs := [(.bool PX.key), (.string PX.data), (.int .i64 PX.power)]) (by kernel_rfl) (by kernel_rfl) (by kernel_rfl) rfl (cells3 (HP.oldc (by kernel_rfl) pa) (HP.oldc (by kernel_rfl) pb) (HP.oldc (by kernel_rfl) pp))) ?_
            intro a H
            refine H.alloc HP 11 (fun b => (.pointer (some ⟨b, 0, none⟩))) 53 [(.bool false), (.string (ByteArray.mk #[])), (.int .i64 0)] (by kernel_rfl) (fun w => by kernel_rfl) ?_
            intro b_10 w_11 a H HP
            refine H.store HP 0 b_10 0 3 53 [(.bool false), (.string (ByteArray.mk #[])), (.int .i64 0)] true (.agg #[(.bool PX.key), (.string PX.data), (.int .i64 PX.power)]) [bx b_10 53 [(.bool PX.key), (.string PX.data), (.int .i64 PX.power)] true, bx b_6 49 [(.int .i64 fa.item), (.slice (some ⟨b2, of2, none⟩) fa.pics.length fa.c)] true, bx b_1 46 [(.int .i64 0), (.int .i64 0), (.int .i64 0), (.int .i64 0), (.int .i64 0), (.bool false), (.string (ByteArray.mk #[])), (.int .i64 0), (.int .i64 0), (.string (ByteArray.mk #[])), (.int .i64 0), (.int .i64 0), (.slice none 0 0)] true] (by kernel_rfl) (by kernel_rfl) (by kernel_rfl) rfl (by kernel_rfl) (by kernel_rfl) (by kernel_rfl) (by kernel_rfl) (by kernel_rfl) ?_
            intro w_12 a H HP
            refine wpList_nil ?_
            refine then_normal ?_
            refine wp_seq ?_
            refine An.start (fun v => Hp w v [bx b_10 53 [(.bool PX.key), (.string PX.data), (.int .i64 PX.power)] true, bx b_6 49 [(.int .i64 fa.item), (.slice (some ⟨b2, of2, none⟩) fa.pics.length fa.c)] true, bx b_1 46 [(.int .i64 0), (.int .i64 0), (.int .i64 0), (.int .i64 0), (.int .i64 0), (.bool false), (.string (ByteArray.mk #[])), (.int .i64 0), (.int .i64 0), (.string (ByteArray.mk #[])), (.int .i64 0), (.int .i64 0), (.slice none 0 0)] true] []) 20 21 HP wide_follows rfl ?_
            intro w_13 HP
            refine An.pure H (.inr (HP)) 0 78 (.int .i64 f) rfl (by kernel_rfl) (by kernel_rfl) (fun _ _ _ h => h) (fun _ => by kernel_rfl) ?_
            intro a H
            refine An.pure H (.inr (HP)) 1 79 (.slice (some ⟨b0, off, none⟩) n c) rfl (by kernel_rfl) (by kernel_rfl) (fun _ _ _ h => h) (fun _ => by kernel_rfl) ?_
            intro a H
            refine An.pure H (.inr (HP)) 2 80 (.int .i64 ((j : Nat) : Int)) rfl (by kernel_rfl) (by kernel_rfl) (fun _ _ _ h => h) (fun _ => by kernel_rfl) ?_
            intro a H
            refine An.pure H (.inr (HP)) 3 81 (.pointer (some ⟨b0, off + j * 7, none⟩)) rfl (by kernel_rfl) (by kernel_rfl) (fun _ _ _ h => h) (fun _ => ex_index (b := b0) (off := off) (len := n) (cap := c) (e := 63) (k := 7) (ik := .i64) (i := ((j : Nat) : Int)) (m := j) (by kernel_rfl) (by kernel_rfl) (by omega) (by omega) (by kernel_rfl) (by kernel_rfl)) ?_
            intro a H
            refine An.pure H (.inr (HP)) 4 82 (.pointer (some ⟨b0, off + j * 7 + 1, none⟩)) rfl (by kernel_rfl) (by kernel_rfl) (fun _ _ _ h => h) (fun _ => by kernel_rfl) ?_
            intro a H
            refine An.val H (HP) 5 83 (.int .i64 X.ev.item) rfl (by kernel_rfl) (by kernel_rfl) (fun _ _ _ h => h) (fun _ hS => ex_load1 (by kernel_rfl) (by kernel_rfl) (hS.oldc (by kernel_rfl) (pc.2.1))) ?_
            intro a H
            refine An.pure H (.inr (HP)) 6 84 (.int .i64 ((f - X.ev.start) + X.ev.inn)) rfl (by kernel_rfl) (by kernel_rfl) (fun _ _ _ h => h) (fun _ => by kernel_rfl) ?_
            intro a H
            refine An.pure H (.inr (HP)) 7 85 (.pointer (some ⟨b_10, 0, none⟩)) rfl (by kernel_rfl) (by kernel_rfl) (fun _ _ _ h => h) (fun _ => by kernel_rfl) ?_
            intro a H
            refine An.val H (HP) 8 86 (.bool PX.key) rfl (by kernel_rfl) (by kernel_rfl) (fun _ _ _ h => h) (fun _ hS => ex_load1 (by kernel_rfl) (by kernel_rfl) (hS.cell 0 rfl 0 rfl)) ?_
            intro a H
            refine An.pure H (.inr (HP)) 9 87 (.pointer (some ⟨b_10, 1, none⟩)) rfl (by kernel_rfl) (by kernel_rfl) (fun _ _ _ h => h) (fun _ => by kernel_rfl) ?_
            intro a H
            refine An.val H (HP) 10 88 (.string PX.data) rfl (by kernel_rfl) (by kernel_rfl) (fun _ _ _ h => h) (fun _ hS => ex_load1 (by kernel_rfl) (by kernel_rfl) (hS.cell 0 rfl 1 rfl)) ?_
            intro a H
            refine An.pure H (.inr (HP)) 11 89 (.slice (some ⟨b0, off, none⟩) n c) rfl (by kernel_rfl) (by kernel_rfl) (fun _ _ _ h => h) (fun _ => by kernel_rfl) ?_
            intro a H
            refine An.pure H (.inr (HP)) 12 90 (.int .i64 ((j : Nat) : Int)) rfl (by kernel_rfl) (by kernel_rfl) (fun _ _ _ h => h) (fun _ => by kernel_rfl) ?_
            intro a H
            refine An.pure H (.inr (HP)) 13 91 (.pointer (some ⟨b0, off + j * 7, none⟩)) rfl (by kernel_rfl) (by kernel_rfl) (fun _ _ _ h => h) (fun _ => ex_index (b := b0) (off := off) (len := n) (cap := c) (e := 63) (k := 7) (ik := .i64) (i := ((j : Nat) : Int)) (m := j) (by kernel_rfl) (by kernel_rfl) (by omega) (by omega) (by kernel_rfl) (by kernel_rfl)) ?_
            intro a H
            refine An.pure H (.inr (HP)) 14 92 (.pointer (some ⟨b0, off + j * 7 + 5, none⟩)) rfl (by kernel_rfl) (by kernel_rfl) (fun _ _ _ h => h) (fun _ => by kernel_rfl) ?_
            intro a H
            refine An.val H (HP) 15 93 (.int .i64 X.ev.regions) rfl (by kernel_rfl) (by kernel_rfl) (fun _ _ _ h => h) (fun _ hS => ex_load1 (by kernel_rfl) (by kernel_rfl) (hS.oldc (by kernel_rfl) (pc.2.2.2.2.2.1))) ?_
            intro a H
            refine An.pure H (.inr (HP)) 16 94 (.slice (some ⟨b0, off, none⟩) n c) rfl (by kernel_rfl) (by kernel_rfl) (fun _ _ _ h => h) (fun _ => by kernel_rfl) ?_
            intro a H
            refine An.pure H (.inr (HP)) 17 95 (.int .i64 f) rfl (by kernel_rfl) (by kernel_rfl) (fun _ _ _ h => h) (fun _ => by kernel_rfl) ?_
            intro a H
            refine An.one 18 (by kernel_rfl) ?_
            have hsz0 := HP.size
            refine Op.call H 96 rfl (by kernel_rfl) (Eq.trans (by kernel_rfl : _ = (callFunc 35 #[(.slice (some ⟨b0, off, none⟩) n c), (.int .i64 f)]).run Try.prog w_13) (Try.call35 _ _)) (rnext_any _ n c f es w_13 (evs_below h (HP.below (by kernel_rfl))) (by omega)) ?_
            rintro e w_14 ⟨BN, cN, rfl, q1, q2, q3, q4, hb, q5⟩
            refine ⟨_, rfl, ?_⟩
            intro a H
            have HP := (HP.next hb).keepF ⟨rowFp (nextP f es).al.length BN, fun w => IsAlts w BN (nextP f es).al.length (nextP f es).al⟩ q1 (fun _ _ h hk hs => ⟨h.1, h.2.keep hk hs⟩) (fun j hj => row_sep HP q1.2 q5 hj)
            have HB := hb
            have Q1 := q1
            have wq := HP.size
            refine ⟨.inr (HP.untop), ?_⟩
            refine An.pure H (.inr (HP.untop)) 19 97 (.agg #[(.int .i64 0), (.int .i64 f), (.int .i64 3), (.int .i64 X.ev.item), (.int .i64 ((f - X.ev.start) + X.ev.inn)), (.bool PX.key), (.string PX.data), (.int .i64 X.ev.regions), (.int .i64 0), (.string (ByteArray.mk #[])), (.int .i64 ((nextP f es).s)), (.int .i64 ((nextP f es).f)), (.slice BN ((nextP f es).al.length) cN)]) rfl (by kernel_rfl) (by kernel_rfl) (fun _ _ _ h => h) (fun _ => by kernel_rfl) ?_
            intro a H
            refine An.one 20 (by kernel_rfl) ?_
            refine Op.store H HP 2 b_1 0 13 46 [(.int .i64 0), (.int .i64 0), (.int .i64 0), (.int .i64 0), (.int .i64 0), (.bool false), (.string (ByteArray.mk #[])), (.int .i64 0), (.int .i64 0), (.string (ByteArray.mk #[])), (.int .i64 0), (.int .i64 0), (.slice none 0 0)] true (.agg #[(.int .i64 0), (.int .i64 f), (.int .i64 3), (.int .i64 X.ev.item), (.int .i64 ((f - X.ev.start) + X.ev.inn)), (.bool PX.key), (.string PX.data), (.int .i64 X.ev.regions), (.int .i64 0), (.string (ByteArray.mk #[])), (.int .i64 ((nextP f es).s)), (.int .i64 ((nextP f es).f)), (.slice BN ((nextP f es).al.length) cN)]) [bx b_10 53 [(.bool PX.key), (.string PX.data), (.int .i64 PX.power)] true, bx b_6 49 [(.int .i64 fa.item), (.slice (some ⟨b2, of2, none⟩) fa.pics.length fa.c)] true, bx b_1 46 [(.int .i64 0), (.int .i64 f), (.int .i64 3), (.int .i64 X.ev.item), (.int .i64 ((f - X.ev.start) + X.ev.inn)), (.bool PX.key), (.string PX.data), (.int .i64 X.ev.regions), (.int .i64 0), (.string (ByteArray.mk #[])), (.int .i64 ((nextP f es).s)), (.int .i64 ((nextP f es).f)), (.slice BN ((nextP f es).al.length) cN)] true] rfl (by kernel_rfl) (by kernel_rfl) (by kernel_rfl) rfl (by kernel_rfl) (by kernel_rfl) (by kernel_rfl) (by kernel_rfl) (by kernel_rfl) ?_
            intro w_15 a H HP
            refine ⟨.inl (by kernel_rfl), ?_⟩
            refine An.done (by kernel_rfl) ?_
            have H := H.keep (L' := [(11, (.pointer (some ⟨b_10, 0, none⟩))), (77, (.agg #[(.bool PX.key), (.string PX.data), (.int .i64 PX.power)])), (76, (.pointer (some ⟨b2, of2 + (f - X.ev.start + X.ev.inn).toNat * 3, none⟩))), (75, (.int .i64 ((f - X.ev.start) + X.ev.inn))), (74, (.slice (some ⟨b2, of2, none⟩) fa.pics.length fa.c)), (73, (.pointer (some ⟨b_6, 1, none⟩))), (72, (.bool (decide (((f - X.ev.start) + X.ev.inn) < ((fa.pics.length : Nat) : Int))))), (10, (.bool F.isSome)), (9, (.pointer (some ⟨b_6, 0, none⟩))), (8, (.int .i64 ((f - X.ev.start) + X.ev.inn))), (15, (.bool (decide (((j : Nat) : Int) < ((n : Nat) : Int))))), (14, (.int .i64 ((n : Nat) : Int))), (13, (.slice (some ⟨b0, off, none⟩) n c)), (12, (.int .i64 ((j : Nat) : Int))), (7, (.int .i64 ((j : Nat) : Int))), (6, (.pointer (some ⟨b_1, 0, none⟩))), (0, (.slice (some ⟨b0, off, none⟩) n c)), (1, (.slice LA m lc)), (2, (.int .i64 f))]) (by kernel_rfl)
            refine then_normal ?_
            refine wp_ret ?_
            refine inb_ret ?_
            refine then_ret ?_
            refine then_ret ?_
            refine inb_ret ?_
            refine then_ret ?_
            refine H.ret1 (fn := Try.f27) Try.results27 (RV.cellN (vs := [(.int .i64 0), (.int .i64 f), (.int .i64 3), (.int .i64 X.ev.item), (.int .i64 ((f - X.ev.start) + X.ev.inn)), (.bool PX.key), (.string PX.data), (.int .i64 X.ev.regions), (.int .i64 0), (.string (ByteArray.mk #[])), (.int .i64 ((nextP f es).s)), (.int .i64 ((nextP f es).f)), (.slice BN ((nextP f es).al.length) cN)]) (b := b_1) (off := 0) (k := 13) (by kernel_rfl) (by kernel_rfl) (by kernel_rfl) rfl (HP.cells 2 rfl 0 13 (by kernel_rfl))) ?_
            have hhit : hitP es lib f = some (X, fa) := hitP_hit (by omega) hX hno hF hfa g66p (by omega) (by omega) (by omega)
            exact ⟨⟨0, f, 3, X.ev.item, (f - X.ev.start + X.ev.inn), PX.key, PX.data, X.ev.regions, 0, ByteArray.mk #[], (nextP f es).s, (nextP f es).f, BN, cN, (nextP f es).al⟩, rfl, by unfold unitP; rw [hhit]; simp only [UnitA.spec, hPX], ⟨HP.fact 0 rfl, Nat.le_trans q2 q3, ⟨by simp only; omega, by simp only; omega⟩, ⟨by simp only; omega, by simp only; omega⟩, nextP_bd hbe⟩, (HP.below (by kernel_rfl)), fun b off e => Nat.le_trans hsz0 (q5 b off e)⟩
          · have g72p := of_decide_eq_false g72
            refine wp_skip ?_
            refine inb_normal ?_
            refine then_normal ?_
            refine w_region ?_
            refine H.val 16 (.int .i64 ((j : Nat) : Int)) (by kernel_rfl) (by kernel_rfl) ?_
            intro a H
            refine H.valE 17 (.int .i64 (IntKind.i64.wrap (((j : Nat) : Int) + 1))) (.int .i64 (((j : Nat) : Int) + 1)) (by kernel_rfl) (by kernel_rfl) ((by rw [wrap_ini64 _ (by omega)])) ?_
            intro a H
            refine H.val 7 (.int .i64 (((j : Nat) : Int) + 1)) (by kernel_rfl) (by kernel_rfl) ?_
            intro a H
            refine wpList_nil ?_
            refine then_normal ?_
            have H := H.as 7 (.int .i64 ((j + 1 : Nat) : Int)) rfl rfl
            refine ⟨_, ?_, j + 1, rfl, H.keep (by kernel_rfl), (HP.tail rfl), by omega, by rw [take_at (d := evZ) (by omega), hX]; exact hitP_snoc hno hF hfa (.inr (.inr (.inr (by omega))))⟩
            omega
        · have g66p := g66
          refine An.skip H (.inr (HP)) 26 67 rfl (by kernel_rfl) (by kernel_rfl) (fun _ _ _ h => h) ?_
          intro a H
          refine An.skip H (.inr (HP)) 27 68 rfl (by kernel_rfl) (by kernel_rfl) (fun _ _ _ h => h) ?_
          intro a H
          refine An.skip H (.inr (HP)) 28 69 rfl (by kernel_rfl) (by kernel_rfl) (fun _ _ _ h => h) ?_
          intro a H
          refine An.skip H (.inr (HP)) 29 70 rfl (by kernel_rfl) (by kernel_rfl) (fun _ _ _ h => h) ?_
          intro a H
          refine An.skip H (.inr (HP)) 30 71 rfl (by kernel_rfl) (by kernel_rfl) (fun _ _ _ h => h) ?_
          intro a H
          refine An.pure H (.inr (HP)) 31 72 (.bool false) rfl (by kernel_rfl) (by kernel_rfl) (fun _ _ _ h => h) (fun _ => by kernel_rfl) ?_
          intro a H
          refine An.done (by kernel_rfl) ?_
          have H := H.keep (L' := [(72, (.bool false)), (10, (.bool F.isSome)), (9, (.pointer (some ⟨b_6, 0, none⟩))), (8, (.int .i64 ((f - X.ev.start) + X.ev.inn))), (15, (.bool (decide (((j : Nat) : Int) < ((n : Nat) : Int))))), (14, (.int .i64 ((n : Nat) : Int))), (13, (.slice (some ⟨b0, off, none⟩) n c)), (12, (.int .i64 ((j : Nat) : Int))), (7, (.int .i64 ((j : Nat) : Int))), (6, (.pointer (some ⟨b_1, 0, none⟩))), (0, (.slice (some ⟨b0, off, none⟩) n c)), (1, (.slice LA m lc)), (2, (.int .i64 f))]) (by kernel_rfl)
          refine then_normal ?_
          refine w_iff H rfl ?_
          refine wp_skip ?_
          refine inb_normal ?_
          refine then_normal ?_
          refine w_region ?_
          refine H.val 16 (.int .i64 ((j : Nat) : Int)) (by kernel_rfl) (by kernel_rfl) ?_
          intro a H
          refine H.valE 17 (.int .i64 (IntKind.i64.wrap (((j : Nat) : Int) + 1))) (.int .i64 (((j : Nat) : Int) + 1)) (by kernel_rfl) (by kernel_rfl) ((by rw [wrap_ini64 _ (by omega)])) ?_
          intro a H
          refine H.val 7 (.int .i64 (((j : Nat) : Int) + 1)) (by kernel_rfl) (by kernel_rfl) ?_
          intro a H
          refine wpList_nil ?_
          refine then_normal ?_
          have H := H.as 7 (.int .i64 ((j + 1 : Nat) : Int)) rfl rfl
          refine ⟨_, ?_, j + 1, rfl, H.keep (by kernel_rfl), (HP.tail rfl), by omega, by rw [take_at (d := evZ) (by omega), hX]; exact hitP_snoc hno hF hfa (.inr (.inr (.inl g66p)))⟩
          omega
      · have g63p := of_decide_eq_false g63
        refine An.skip H (.inr (HP)) 23 64 rfl (by kernel_rfl) (by kernel_rfl) (fun _ _ _ h => h) ?_
        intro a H
        refine An.pure H (.inr (HP)) 24 65 (.bool false) rfl (by kernel_rfl) (by kernel_rfl) (fun _ _ _ h => h) (fun _ => by kernel_rfl) ?_
        intro a H
        refine An.pure H (.inr (HP)) 25 66 (.bool false) rfl (by kernel_rfl) (by kernel_rfl) (fun _ _ _ h => h) (fun _ => by kernel_rfl) ?_
        intro a H
        refine An.skip H (.inr (HP)) 26 67 rfl (by kernel_rfl) (by kernel_rfl) (fun _ _ _ h => h) ?_
        intro a H
        refine An.skip H (.inr (HP)) 27 68 rfl (by kernel_rfl) (by kernel_rfl) (fun _ _ _ h => h) ?_
        intro a H
        refine An.skip H (.inr (HP)) 28 69 rfl (by kernel_rfl) (by kernel_rfl) (fun _ _ _ h => h) ?_
        intro a H
        refine An.skip H (.inr (HP)) 29 70 rfl (by kernel_rfl) (by kernel_rfl) (fun _ _ _ h => h) ?_
        intro a H
        refine An.skip H (.inr (HP)) 30 71 rfl (by kernel_rfl) (by kernel_rfl) (fun _ _ _ h => h) ?_
        intro a H
        refine An.pure H (.inr (HP)) 31 72 (.bool false) rfl (by kernel_rfl) (by kernel_rfl) (fun _ _ _ h => h) (fun _ => by kernel_rfl) ?_
        intro a H
        refine An.done (by kernel_rfl) ?_
        have H := H.keep (L' := [(72, (.bool false)), (10, (.bool F.isSome)), (9, (.pointer (some ⟨b_6, 0, none⟩))), (8, (.int .i64 ((f - X.ev.start) + X.ev.inn))), (15, (.bool (decide (((j : Nat) : Int) < ((n : Nat) : Int))))), (14, (.int .i64 ((n : Nat) : Int))), (13, (.slice (some ⟨b0, off, none⟩) n c)), (12, (.int .i64 ((j : Nat) : Int))), (7, (.int .i64 ((j : Nat) : Int))), (6, (.pointer (some ⟨b_1, 0, none⟩))), (0, (.slice (some ⟨b0, off, none⟩) n c)), (1, (.slice LA m lc)), (2, (.int .i64 f))]) (by kernel_rfl)
        refine then_normal ?_
        refine w_iff H rfl ?_
        refine wp_skip ?_
        refine inb_normal ?_
        refine then_normal ?_
        refine w_region ?_
        refine H.val 16 (.int .i64 ((j : Nat) : Int)) (by kernel_rfl) (by kernel_rfl) ?_
        intro a H
        refine H.valE 17 (.int .i64 (IntKind.i64.wrap (((j : Nat) : Int) + 1))) (.int .i64 (((j : Nat) : Int) + 1)) (by kernel_rfl) (by kernel_rfl) ((by rw [wrap_ini64 _ (by omega)])) ?_
        intro a H
        refine H.val 7 (.int .i64 (((j : Nat) : Int) + 1)) (by kernel_rfl) (by kernel_rfl) ?_
        intro a H
        refine wpList_nil ?_
        refine then_normal ?_
        have H := H.as 7 (.int .i64 ((j + 1 : Nat) : Int)) rfl rfl
        refine ⟨_, ?_, j + 1, rfl, H.keep (by kernel_rfl), (HP.tail rfl), by omega, by rw [take_at (d := evZ) (by omega), hX]; exact hitP_snoc hno hF hfa (.inr (.inl (by omega)))⟩
        omega
    · have g48p := of_decide_eq_false g48
      refine An.skip H (.inr (HP)) 8 49 rfl (by kernel_rfl) (by kernel_rfl) (fun _ _ _ h => h) ?_
      intro a H
      refine An.skip H (.inr (HP)) 9 50 rfl (by kernel_rfl) (by kernel_rfl) (fun _ _ _ h => h) ?_
      intro a H
      refine An.skip H (.inr (HP)) 10 51 rfl (by kernel_rfl) (by kernel_rfl) (fun _ _ _ h => h) ?_
      intro a H
      refine An.skip H (.inr (HP)) 11 52 rfl (by kernel_rfl) (by kernel_rfl) (fun _ _ _ h => h) ?_
      intro a H
      refine An.skip H (.inr (HP)) 12 53 rfl (by kernel_rfl) (by kernel_rfl) (fun _ _ _ h => h) ?_
      intro a H
      refine An.skip H (.inr (HP)) 13 54 rfl (by kernel_rfl) (by kernel_rfl) (fun _ _ _ h => h) ?_
      intro a H
      refine An.skip H (.inr (HP)) 14 55 rfl (by kernel_rfl) (by kernel_rfl) (fun _ _ _ h => h) ?_
      intro a H
      refine An.skip H (.inr (HP)) 15 56 rfl (by kernel_rfl) (by kernel_rfl) (fun _ _ _ h => h) ?_
      intro a H
      refine An.skip H (.inr (HP)) 16 57 rfl (by kernel_rfl) (by kernel_rfl) (fun _ _ _ h => h) ?_
      intro a H
      refine An.skip H (.inr (HP)) 17 58 rfl (by kernel_rfl) (by kernel_rfl) (fun _ _ _ h => h) ?_
      intro a H
      refine An.skip H (.inr (HP)) 18 59 rfl (by kernel_rfl) (by kernel_rfl) (fun _ _ _ h => h) ?_
      intro a H
      refine An.skip H (.inr (HP)) 19 60 rfl (by kernel_rfl) (by kernel_rfl) (fun _ _ _ h => h) ?_
      intro a H
      refine An.skip H (.inr (HP)) 20 61 rfl (by kernel_rfl) (by kernel_rfl) (fun _ _ _ h => h) ?_
      intro a H
      refine An.pure H (.inr (HP)) 21 62 (.bool false) rfl (by kernel_rfl) (by kernel_rfl) (fun _ _ _ h => h) (fun _ => by kernel_rfl) ?_
      intro a H
      refine An.pure H (.inr (HP)) 22 63 (.bool false) rfl (by kernel_rfl) (by kernel_rfl) (fun _ _ _ h => h) (fun _ => by kernel_rfl) ?_
      intro a H
      refine An.skip H (.inr (HP)) 23 64 rfl (by kernel_rfl) (by kernel_rfl) (fun _ _ _ h => h) ?_
      intro a H
      refine An.pure H (.inr (HP)) 24 65 (.bool false) rfl (by kernel_rfl) (by kernel_rfl) (fun _ _ _ h => h) (fun _ => by kernel_rfl) ?_
      intro a H
      refine An.pure H (.inr (HP)) 25 66 (.bool false) rfl (by kernel_rfl) (by kernel_rfl) (fun _ _ _ h => h) (fun _ => by kernel_rfl) ?_
      intro a H
      refine An.skip H (.inr (HP)) 26 67 rfl (by kernel_rfl) (by kernel_rfl) (fun _ _ _ h => h) ?_
      intro a H
      refine An.skip H (.inr (HP)) 27 68 rfl (by kernel_rfl) (by kernel_rfl) (fun _ _ _ h => h) ?_
      intro a H
      refine An.skip H (.inr (HP)) 28 69 rfl (by kernel_rfl) (by kernel_rfl) (fun _ _ _ h => h) ?_
      intro a H
      refine An.skip H (.inr (HP)) 29 70 rfl (by kernel_rfl) (by kernel_rfl) (fun _ _ _ h => h) ?_
      intro a H
      refine An.skip H (.inr (HP)) 30 71 rfl (by kernel_rfl) (by kernel_rfl) (fun _ _ _ h => h) ?_
      intro a H
      refine An.pure H (.inr (HP)) 31 72 (.bool false) rfl (by kernel_rfl) (by kernel_rfl) (fun _ _ _ h => h) (fun _ => by kernel_rfl) ?_
      intro a H
      refine An.done (by kernel_rfl) ?_
      have H := H.keep (L' := [(72, (.bool false)), (10, (.bool F.isSome)), (9, (.pointer (some ⟨b_6, 0, none⟩))), (8, (.int .i64 ((f - X.ev.start) + X.ev.inn))), (15, (.bool (decide (((j : Nat) : Int) < ((n : Nat) : Int))))), (14, (.int .i64 ((n : Nat) : Int))), (13, (.slice (some ⟨b0, off, none⟩) n c)), (12, (.int .i64 ((j : Nat) : Int))), (7, (.int .i64 ((j : Nat) : Int))), (6, (.pointer (some ⟨b_1, 0, none⟩))), (0, (.slice (some ⟨b0, off, none⟩) n c)), (1, (.slice LA m lc)), (2, (.int .i64 f))]) (by kernel_rfl)
      refine then_normal ?_
      refine w_iff H rfl ?_
      refine wp_skip ?_
      refine inb_normal ?_
      refine then_normal ?_
      refine w_region ?_
      refine H.val 16 (.int .i64 ((j : Nat) : Int)) (by kernel_rfl) (by kernel_rfl) ?_
      intro a H
      refine H.valE 17 (.int .i64 (IntKind.i64.wrap (((j : Nat) : Int) + 1))) (.int .i64 (((j : Nat) : Int) + 1)) (by kernel_rfl) (by kernel_rfl) ((by rw [wrap_ini64 _ (by omega)])) ?_
      intro a H
      refine H.val 7 (.int .i64 (((j : Nat) : Int) + 1)) (by kernel_rfl) (by kernel_rfl) ?_
      intro a H
      refine wpList_nil ?_
      refine then_normal ?_
      have H := H.as 7 (.int .i64 ((j + 1 : Nat) : Int)) rfl rfl
      refine ⟨_, ?_, j + 1, rfl, H.keep (by kernel_rfl), (HP.tail rfl), by omega, by rw [take_at (d := evZ) (by omega), hX]; exact hitP_snoc hno hF hfa (.inl (by omega))⟩
      omega
  · have g15p := of_decide_eq_false g15
    refine wp_exit ?_
    refine then_exit ?_
    refine then_exit ?_
    refine w_exit_here ?_
    refine then_normal ?_
    refine wp_seq ?_
    refine w_region ?_
    refine H.val 98 (.int .i64 f) (by kernel_rfl) (by kernel_rfl) ?_
    intro a H
    refine H.val 99 (.agg #[(.int .i64 0), (.int .i64 f), (.int .i64 0), (.int .i64 0), (.int .i64 0), (.bool true), (.string (ByteArray.mk #[])), (.int .i64 255), (.int .i64 0), (.string (ByteArray.mk #[])), (.int .i64 0), (.int .i64 0), (.slice none 0 0)]) (by kernel_rfl) (by kernel_rfl) ?_
    intro a H
    refine H.store HP 0 b_1 0 13 46 [(.int .i64 0), (.int .i64 0), (.int .i64 0), (.int .i64 0), (.int .i64 0), (.bool false), (.string (ByteArray.mk #[])), (.int .i64 0), (.int .i64 0), (.string (ByteArray.mk #[])), (.int .i64 0), (.int .i64 0), (.slice none 0 0)] true (.agg #[(.int .i64 0), (.int .i64 f), (.int .i64 0), (.int .i64 0), (.int .i64 0), (.bool true), (.string (ByteArray.mk #[])), (.int .i64 255), (.int .i64 0), (.string (ByteArray.mk #[])), (.int .i64 0), (.int .i64 0), (.slice none 0 0)]) [bx b_1 46 [(.int .i64 0), (.int .i64 f), (.int .i64 0), (.int .i64 0), (.int .i64 0), (.bool true), (.string (ByteArray.mk #[])), (.int .i64 255), (.int .i64 0), (.string (ByteArray.mk #[])), (.int .i64 0), (.int .i64 0), (.slice none 0 0)] true] (by kernel_rfl) (by kernel_rfl) (by kernel_rfl) rfl (by kernel_rfl) (by kernel_rfl) (by kernel_rfl) (by kernel_rfl) (by kernel_rfl) ?_
    intro w_16 a H HP
    refine wpList_nil ?_
    refine then_normal ?_
    refine wp_ret ?_
    refine H.ret1 (fn := Try.f27) Try.results27 (RV.cellN (vs := [(.int .i64 0), (.int .i64 f), (.int .i64 0), (.int .i64 0), (.int .i64 0), (.bool true), (.string (ByteArray.mk #[])), (.int .i64 255), (.int .i64 0), (.string (ByteArray.mk #[])), (.int .i64 0), (.int .i64 0), (.slice none 0 0)]) (b := b_1) (off := 0) (k := 13) (by kernel_rfl) (by kernel_rfl) (by kernel_rfl) rfl (HP.cells 0 rfl 0 13 (by kernel_rfl))) ?_
    rw [List.take_of_length_le (by omega)] at hno
    exact ⟨⟨0, f, 0, 0, 0, true, ByteArray.mk #[], 255, 0, ByteArray.mk #[], 0, 0, none, 0, []⟩, rfl, by unfold unitP; rw [hno]; rfl, ⟨IsAlts.nil _ _, by simp [maxLen], by simp only [UnitA.bd]; omega⟩, (HP.below (by kernel_rfl)), fun b off e => by cases e⟩
set_option maxRecDepth 100000 in
set_option maxHeartbeats 8000000 in
theorem feed_any (A : Option Addr) (n c : Nat) (es : List EvA) (LA : Option Addr) (m lc : Nat) (lib : List AstA) (ZA : Option Addr) (zn zc : Nat) (zs : List Int) (w : World) (h : IsEvs w A n es) (hn : n ≤ 1000000) (hbe : ∀ e ∈ es, evBd e) (hlib : IsAsts w LA m lib) (hm : m ≤ 1000000) (hpc : ∀ a ∈ lib, a.pics.length ≤ 2000000) (hz : IsInts w ZA zn zs) (hzn : zn ≤ 9223372036854775807) (hzb : ∀ z ∈ zs, -9223372036854775808 ≤ z ∧ z ≤ 9223372036854775807) (hend : 0 ≤ endP es ∧ endP es ≤ 1000000) :
    Calls Try.prog 12 #[.slice A n c, .slice LA m lc, .slice ZA zn zc] w fun e w' => RetFeed es lib (goneP (zs.take (min zn 20))) w e w' := by
  have hl := h.1
  have hzl := hz.1
  have HP := Hp.start w
  refine w_enter 52 [(0, (.slice A n c)), (1, (.slice LA m lc)), (2, (.slice ZA zn zc))] Try.func12 rfl Try.ntmps12 (by kernel_rfl) (by kernel_rfl) ?_
  intro a H
  refine wp_seq ?_
  refine w_region ?_
  refine H.val 6 (.slice none 0 0) (by kernel_rfl) (by kernel_rfl) ?_
  intro a H
  refine wpList_nil ?_
  refine then_normal ?_
  refine wp_seq ?_
  refine w_region ?_
  refine H.val 7 (.slice none 0 0) (by kernel_rfl) (by kernel_rfl) ?_
  intro a H
  refine wpList_nil ?_
  refine then_normal ?_
  refine wp_seq ?_
  refine wp_seq ?_
  refine w_region ?_
  refine H.val 8 (.int .i64 0) (by kernel_rfl) (by kernel_rfl) ?_
  intro a H
  refine wpList_nil ?_
  refine then_normal ?_
  refine wp_block ?_
  have HP := HP.nilRow w.heap.size 3 1 intCells (fun _ _ => True) (fun _ _ => False) elOk_flat
  refine w_loop (fun mm a v => ∃ (j : Nat), ∃ (GA : Option Addr), ∃ (gc : Nat), ∃ (gl : List Int), zn - j = mm ∧ Sl 52 [(8, (.int .i64 ((j : Nat) : Int))), (7, (.slice GA gl.length gc)), (6, (.slice none 0 0)), (0, (.slice A n c)), (1, (.slice LA m lc)), (2, (.slice ZA zn zc))] a ∧ Hp w v [(rowsR w.heap.size 3 1 intCells (fun _ _ => True) (fun _ _ => False) (.slice GA gl.length gc) gl)] [] ∧ (j ≤ zn ∧ j ≤ 20) ∧ (gl = goneP (zs.take j))) (zn - 0) ?_ ?_
  · exact ⟨0, none, 0, [], (by omega), H.keep (by kernel_rfl), HP, by omega, rfl⟩
  rintro mm a w_1 ⟨j, GA, gc, gl, hmeas, H, HP, hj, hgl⟩
  have hgll : gl.length = j := by rw [hgl]; simp [goneP]; omega
  refine wp_seq ?_
  refine wp_seq ?_
  refine w_region ?_
  refine H.val 13 (.int .i64 ((j : Nat) : Int)) (by kernel_rfl) (by kernel_rfl) ?_
  intro a H
  refine H.val 14 (.slice ZA zn zc) (by kernel_rfl) (by kernel_rfl) ?_
  intro a H
  refine H.val 15 (.int .i64 ((zn : Nat) : Int)) (by kernel_rfl) (by kernel_rfl) ?_
  intro a H
  refine H.val 16 (.bool (decide (((j : Nat) : Int) < ((zn : Nat) : Int)))) (by kernel_rfl) (by kernel_rfl) ?_
  intro a H
  refine H.val 17 (.bool (decide (((j : Nat) : Int) < ((zn : Nat) : Int)))) (by kernel_rfl) (by kernel_rfl) ?_
  intro a H
  refine H.split 17 rfl (fun g17 H => ?_) (fun g17 H => ?_)
  · have g17p := of_decide_eq_true g17
    refine H.val 18 (.int .i64 ((j : Nat) : Int)) (by kernel_rfl) (by kernel_rfl) ?_
    intro a H
    refine H.val 19 (.bool (decide (((j : Nat) : Int) < 20))) (by kernel_rfl) (by kernel_rfl) ?_
    intro a H
    refine H.val 20 (.bool (decide (((j : Nat) : Int) < 20))) (by kernel_rfl) (by kernel_rfl) ?_
    intro a H
    refine wpList_nil ?_
    have H := H.keep (L' := [(20, (.bool (decide (((j : Nat) : Int) < 20)))), (8, (.int .i64 ((j : Nat) : Int))), (7, (.slice GA gl.length gc)), (6, (.slice none 0 0)), (0, (.slice A n c)), (1, (.slice LA m lc)), (2, (.slice ZA zn zc))]) (by kernel_rfl)
    refine then_normal ?_
    refine w_if H rfl (fun g20 => ?_) (fun g20 => ?_)
    · have g20p := of_decide_eq_true g20
      refine wp_skip ?_
      refine then_normal ?_
      refine wp_seq ?_
      obtain ⟨b3, of3, hA3, hbl3, hcz⟩ := hz.2.resolve_left (by omega)
      subst hA3
      have pz : w.cell? ⟨b3, of3 + j * 1, none⟩ = some (.int .i64 (zs.getD j 0)) := by rw [Nat.mul_one]; exact hcz j (by omega)
      have hmz : zs.getD j 0 ∈ zs := getD_mem (by omega)
      refine wp_block ?_
      refine w_region ?_
      refine H.val 23 (.slice GA gl.length gc) (by kernel_rfl) (by kernel_rfl) ?_
      intro a H
      refine H.val 24 (.slice (some ⟨b3, of3, none⟩) zn zc) (by kernel_rfl) (by kernel_rfl) ?_
      intro a H
      refine H.val 25 (.int .i64 ((j : Nat) : Int)) (by kernel_rfl) (by kernel_rfl) ?_
      intro a H
      refine H.val 26 (.pointer (some ⟨b3, of3 + j * 1, none⟩)) (by kernel_rfl) (ex_index (b := b3) (off := of3) (len := zn) (cap := zc) (e := 3) (k := 1) (ik := .i64) (i := ((j : Nat) : Int)) (m := j) (by kernel_rfl) (by kernel_rfl) (by omega) (by omega) (by kernel_rfl) (by kernel_rfl)) ?_
      intro a H
      refine H.val 27 (.int .i64 (zs.getD j 0)) (by kernel_rfl) (ex_load1 (by kernel_rfl) (by kernel_rfl) (HP.oldc (by kernel_rfl) pz)) ?_
      intro a H
      refine H.call 28 (by kernel_rfl) (Eq.trans (by kernel_rfl : _ = (callFunc 11 #[(.int .i64 (zs.getD j 0)), (.int .i64 100)]).run Try.prog w_1) (Try.call11 _ _)) (pick_any (zs.getD j 0) 100 w_1 (hzb _ hmz) (by omega)) ?_
      rintro e w_2 ⟨rfl, hw⟩
      refine ⟨_, rfl, ?_⟩
      intro a H
      have HP := hw ▸ HP
      refine H.alloc HP 29 (fun b => (.slice (some ⟨b, 0, none⟩) 1 1)) 3 [(.int .i64 (pickI (zs.getD j 0) 100))] (by kernel_rfl) (fun w => by kernel_rfl) ?_
      intro b_3 w_4 a H HP
      have HP := HP.pend0 1 rfl elOk_flat (pickI (zs.getD j 0) 100) [bx b_3 3 [(.int .i64 (pickI (zs.getD j 0) 100))] true, (rowsP w.heap.size 3 1 intCells (fun _ _ => True) (fun _ _ => False) (.slice GA gl.length gc) gl (pickI (zs.getD j 0) 100))] (by kernel_rfl) trivial (fun _ h => h)
      refine H.push HP 30 1 0 (v := (.slice GA gl.length gc)) (e := 3) (p := (pickI (zs.getD j 0) 100)) (l := gl) (cs := intCells) (ok := (fun _ _ => True)) (fe := (fun _ _ => False)) (size := 1) (z := (.int .i64 0)) (bytes := 8) (bb := b_3) (tb := 3) (fb := true) (by kernel_rfl) elOk_flat (by kernel_rfl) (by kernel_rfl) rfl (by kernel_rfl) (by kernel_rfl) (by kernel_rfl) (by kernel_rfl) (by kernel_rfl) rfl (by kernel_rfl) (by unfold maxLen; omega) (by omega) ?_
      intro B_5 c_6 w_7 a H HP
      have HP : Hp w w_7 [bx b_3 3 [(.int .i64 (pickI (zs.getD j 0) 100))] true, (rowsR w.heap.size 3 1 intCells (fun _ _ => True) (fun _ _ => False) (.slice B_5 (gl.length + 1) c_6) (gl ++ [(pickI (zs.getD j 0) 100)]))] [] := HP
      refine H.val 7 (.slice B_5 (gl.length + 1) c_6) (by kernel_rfl) (by kernel_rfl) ?_
      intro a H
      refine wpList_nil ?_
      have H := H.keep (L' := [(7, (.slice B_5 (gl.length + 1) c_6)), (20, (.bool (decide (((j : Nat) : Int) < 20)))), (8, (.int .i64 ((j : Nat) : Int))), (6, (.slice none 0 0)), (0, (.slice A n c)), (1, (.slice LA m lc)), (2, (.slice (some ⟨b3, of3, none⟩) zn zc))]) (by kernel_rfl)
      refine inb_normal ?_
      refine then_normal ?_
      refine w_region ?_
      refine H.val 21 (.int .i64 ((j : Nat) : Int)) (by kernel_rfl) (by kernel_rfl) ?_
      intro a H
      refine H.valE 22 (.int .i64 (IntKind.i64.wrap (((j : Nat) : Int) + 1))) (.int .i64 (((j : Nat) : Int) + 1)) (by kernel_rfl) (by kernel_rfl) ((by rw [wrap_ini64 _ (by omega)])) ?_
      intro a H
      refine H.val 8 (.int .i64 (((j : Nat) : Int) + 1)) (by kernel_rfl) (by kernel_rfl) ?_
      intro a H
      refine wpList_nil ?_
      refine then_normal ?_
      have H := H.as 8 (.int .i64 ((j + 1 : Nat) : Int)) rfl rfl
      have H := H.as 7 (.slice B_5 ((gl ++ [(pickI (zs.getD j 0) 100)]).length) c_6) rfl (by simp)
      refine ⟨_, ?_, j + 1, B_5, c_6, gl ++ [(pickI (zs.getD j 0) 100)], rfl, H.keep (by kernel_rfl), (by simpa using HP.tail rfl), by omega, by rw [hgl, take_getD (by omega)]; simp [goneP]⟩
      omega
    · have g20p := of_decide_eq_false g20
      refine wp_exit ?_
      refine then_exit ?_
      refine then_exit ?_
      refine w_exit_here ?_
      refine then_normal ?_
      refine wp_seq ?_
      refine w_region ?_
      refine H.val 9 (.slice none 0 0) (by kernel_rfl) (by kernel_rfl) ?_
      intro a H
      refine wpList_nil ?_
      refine then_normal ?_
      refine wp_seq ?_
      refine wp_seq ?_
      refine w_region ?_
      refine H.val 10 (.int .i64 0) (by kernel_rfl) (by kernel_rfl) ?_
      intro a H
      refine wpList_nil ?_
      refine then_normal ?_
      refine wp_block ?_
      have hgn : gl = goneP (zs.take (min zn 20)) := by rw [hgl]; congr 1; congr 1; omega
      have hgl20 : gl.length ≤ 20 := by omega
      clear hgl hgll hj hmeas
      obtain ⟨M, hM⟩ : ∃ M : Nat, endP es = M := ⟨(endP es).toNat, by omega⟩
      rw [hM] at hend
      have HP := HP.nilRow w.heap.size 46 13 UnitA.cells unOk unFp elOk_un
      refine w_loop (fun mm a v => ∃ (j : Nat), ∃ (UA : Option Addr), ∃ (uc : Nat), ∃ (ul : List UnitA), M - j = mm ∧ Sl 52 [(10, (.int .i64 ((j : Nat) : Int))), (9, (.slice UA ul.length uc)), (7, (.slice GA gl.length gc)), (6, (.slice none 0 0)), (0, (.slice A n c)), (1, (.slice LA m lc))] a ∧ Hp w v [(rowsR w.heap.size 46 13 UnitA.cells unOk unFp (.slice UA ul.length uc) ul), (rowsR w.heap.size 3 1 intCells (fun _ _ => True) (fun _ _ => False) (.slice GA gl.length gc) gl)] [] ∧ (j ≤ M) ∧ (ul.map UnitA.spec = feedTo es lib gl j)) (M - 0) ?_ ?_
      · exact ⟨0, none, 0, [], (by omega), H.keep (by kernel_rfl), HP, by omega, rfl⟩
      rintro mm a w_8 ⟨j, UA, uc, ul, hmeas, H, HP, hj, hus⟩
      have hull : ul.length = j := by have := congrArg List.length hus; simpa [feedTo] using this
      refine wp_seq ?_
      refine wp_seq ?_
      refine w_region ?_
      refine H.val 31 (.int .i64 ((j : Nat) : Int)) (by kernel_rfl) (by kernel_rfl) ?_
      intro a H
      refine H.val 32 (.slice A n c) (by kernel_rfl) (by kernel_rfl) ?_
      intro a H
      refine H.call 33 (by kernel_rfl) (Eq.trans (by kernel_rfl : _ = (callFunc 26 #[(.slice A n c)]).run Try.prog w_8) (Try.call26 _ _)) (by have := end_any _ n c es w_8 (evs_below h (HP.below (by kernel_rfl))) (by omega) (fun e he => evBd_end (hbe e he)); rw [hM] at this; exact this) ?_
      rintro e w_9 ⟨rfl, hb⟩
      refine ⟨_, rfl, ?_⟩
      intro a H
      have HP := HP.next hb
      refine H.val 34 (.bool (decide (((j : Nat) : Int) < ((M : Nat) : Int)))) (by kernel_rfl) (by kernel_rfl) ?_
      intro a H
      refine wpList_nil ?_
      refine then_normal ?_
      refine w_if H rfl (fun g34 => ?_) (fun g34 => ?_)
      · have g34p := of_decide_eq_true g34
        refine wp_skip ?_
        refine then_normal ?_
        refine wp_seq ?_
        refine wp_block ?_
        refine wp_seq ?_
        refine w_region ?_
        refine H.val 37 (.slice A n c) (by kernel_rfl) (by kernel_rfl) ?_
        intro a H
        refine H.val 38 (.slice LA m lc) (by kernel_rfl) (by kernel_rfl) ?_
        intro a H
        refine H.val 39 (.int .i64 ((j : Nat) : Int)) (by kernel_rfl) (by kernel_rfl) ?_
        intro a H
        refine H.call 40 (by kernel_rfl) (Eq.trans (by kernel_rfl : _ = (callFunc 27 #[(.slice A n c), (.slice LA m lc), (.int .i64 ((j : Nat) : Int))]).run Try.prog w_9) (Try.call27 _ _)) (unit_any _ n c es LA m lc lib ((j : Nat) : Int) w_9 (evs_below h (HP.below (by kernel_rfl))) (by omega) hbe (hlib.below (HP.below (by kernel_rfl))) hm hpc (by omega)) ?_
        rintro e w_10 ⟨u, rfl, husp, huo, hb, hnew⟩
        refine ⟨_, rfl, ?_⟩
        intro a H
        have HP := HP.gain hb (altR u) huo.1 (altR_ok u) (fun k hk => row_lt huo.1.2 hk) (fun k hk => hk.2.elim fun off e => hnew k off e)
        refine H.alloc HP 11 (fun b => (.pointer (some ⟨b, 0, none⟩))) 46 [(.int .i64 0), (.int .i64 0), (.int .i64 0), (.int .i64 0), (.int .i64 0), (.bool false), (.string (ByteArray.mk #[])), (.int .i64 0), (.int .i64 0), (.string (ByteArray.mk #[])), (.int .i64 0), (.int .i64 0), (.slice none 0 0)] (by kernel_rfl) (fun w => by kernel_rfl) ?_
        intro b_11 w_12 a H HP
        refine H.store HP 0 b_11 0 13 46 [(.int .i64 0), (.int .i64 0), (.int .i64 0), (.int .i64 0), (.int .i64 0), (.bool false), (.string (ByteArray.mk #[])), (.int .i64 0), (.int .i64 0), (.string (ByteArray.mk #[])), (.int .i64 0), (.int .i64 0), (.slice none 0 0)] true (.agg #[(.int .i64 u.channel), (.int .i64 u.frame), (.int .i64 u.version), (.int .i64 u.item), (.int .i64 u.index), (.bool u.key), (.string u.data), (.int .i64 u.regions), (.int .i64 u.gain), (.string u.caption), (.int .i64 u.os), (.int .i64 u.of), (.slice u.A u.al.length u.c)]) [bx b_11 46 [(.int .i64 u.channel), (.int .i64 u.frame), (.int .i64 u.version), (.int .i64 u.item), (.int .i64 u.index), (.bool u.key), (.string u.data), (.int .i64 u.regions), (.int .i64 u.gain), (.string u.caption), (.int .i64 u.os), (.int .i64 u.of), (.slice u.A u.al.length u.c)] true, (altR u), (rowsR w.heap.size 46 13 UnitA.cells unOk unFp (.slice UA ul.length uc) ul), (rowsR w.heap.size 3 1 intCells (fun _ _ => True) (fun _ _ => False) (.slice GA gl.length gc) gl)] (by kernel_rfl) (by kernel_rfl) (by kernel_rfl) rfl (by kernel_rfl) (by kernel_rfl) (by kernel_rfl) (by kernel_rfl) (by kernel_rfl) ?_
        intro w_13 a H HP
        refine wpList_nil ?_
        refine then_normal ?_
        refine wp_seq ?_
        refine w_region ?_
        refine H.val 41 (.slice GA gl.length gc) (by kernel_rfl) (by kernel_rfl) ?_
        intro a H
        refine H.val 42 (.int .i64 ((j : Nat) : Int)) (by kernel_rfl) (by kernel_rfl) ?_
        intro a H
        refine H.call 43 (by kernel_rfl) (Eq.trans (by kernel_rfl : _ = (callFunc 28 #[(.slice GA gl.length gc), (.int .i64 ((j : Nat) : Int))]).run Try.prog w_13) (Try.call28 _ _)) (has_any GA gl.length gc gl ((j : Nat) : Int) w_13 (ints_of_row (HP.held 3 rfl)) (by omega)) ?_
        rintro e w_14 ⟨rfl, hb⟩
        refine ⟨_, rfl, ?_⟩
        intro a H
        have HP := HP.next hb
        refine H.val 12 (.bool (hasP ((j : Nat) : Int) gl)) (by kernel_rfl) (by kernel_rfl) ?_
        intro a H
        refine wpList_nil ?_
        refine then_normal ?_
        refine wp_seq ?_
        refine wp_seq ?_
        refine w_region ?_
        refine H.val 44 (.bool (hasP ((j : Nat) : Int) gl)) (by kernel_rfl) (by kernel_rfl) ?_
        intro a H
        refine wpList_nil ?_
        refine then_normal ?_
        refine w_if H rfl (fun g44 => ?_) (fun g44 => ?_)
        · have g44p := g44
          refine w_region ?_
          refine H.val 45 (.int .i64 ((j : Nat) : Int)) (by kernel_rfl) (by kernel_rfl) ?_
          intro a H
          refine H.val 46 (.agg #[(.int .i64 0), (.int .i64 ((j : Nat) : Int)), (.int .i64 0), (.int .i64 0), (.int .i64 0), (.bool true), (.string (ByteArray.mk #[])), (.int .i64 255), (.int .i64 0), (.string (ByteArray.mk #[])), (.int .i64 0), (.int .i64 0), (.slice none 0 0)]) (by kernel_rfl) (by kernel_rfl) ?_
          intro a H
          refine H.store HP 0 b_11 0 13 46 [(.int .i64 u.channel), (.int .i64 u.frame), (.int .i64 u.version), (.int .i64 u.item), (.int .i64 u.index), (.bool u.key), (.string u.data), (.int .i64 u.regions), (.int .i64 u.gain), (.string u.caption), (.int .i64 u.os), (.int .i64 u.of), (.slice u.A u.al.length u.c)] true (.agg #[(.int .i64 0), (.int .i64 ((j : Nat) : Int)), (.int .i64 0), (.int .i64 0), (.int .i64 0), (.bool true), (.string (ByteArray.mk #[])), (.int .i64 255), (.int .i64 0), (.string (ByteArray.mk #[])), (.int .i64 0), (.int .i64 0), (.slice none 0 0)]) [bx b_11 46 [(.int .i64 0), (.int .i64 ((j : Nat) : Int)), (.int .i64 0), (.int .i64 0), (.int .i64 0), (.bool true), (.string (ByteArray.mk #[])), (.int .i64 255), (.int .i64 0), (.string (ByteArray.mk #[])), (.int .i64 0), (.int .i64 0), (.slice none 0 0)] true, (altR u), (rowsR w.heap.size 46 13 UnitA.cells unOk unFp (.slice UA ul.length uc) ul), (rowsR w.heap.size 3 1 intCells (fun _ _ => True) (fun _ _ => False) (.slice GA gl.length gc) gl)] (by kernel_rfl) (by kernel_rfl) (by kernel_rfl) rfl (by kernel_rfl) (by kernel_rfl) (by kernel_rfl) (by kernel_rfl) (by kernel_rfl) ?_
          intro w_15 a H HP
          refine wpList_nil ?_
          refine then_normal ?_
          refine w_region ?_
          refine H.val 47 (.slice UA ul.length uc) (by kernel_rfl) (by kernel_rfl) ?_
          intro a H
          refine H.val 48 (.agg #[(.int .i64 0), (.int .i64 ((j : Nat) : Int)), (.int .i64 0), (.int .i64 0), (.int .i64 0), (.bool true), (.string (ByteArray.mk #[])), (.int .i64 255), (.int .i64 0), (.string (ByteArray.mk #[])), (.int .i64 0), (.int .i64 0), (.slice none 0 0)]) (by kernel_rfl) (ex_loadN (vs := [(.int .i64 0), (.int .i64 ((j : Nat) : Int)), (.int .i64 0), (.int .i64 0), (.int .i64 0), (.bool true), (.string (ByteArray.mk #[])), (.int .i64 255), (.int .i64 0), (.string (ByteArray.mk #[])), (.int .i64 0), (.int .i64 0), (.slice none 0 0)]) (by kernel_rfl) (by kernel_rfl) (by kernel_rfl) rfl (HP.cells 0 rfl 0 13 (by kernel_rfl))) ?_
          intro a H
          refine H.alloc HP 49 (fun b => (.slice (some ⟨b, 0, none⟩) 1 1)) 46 [(.int .i64 0), (.int .i64 ((j : Nat) : Int)), (.int .i64 0), (.int .i64 0), (.int .i64 0), (.bool true), (.string (ByteArray.mk #[])), (.int .i64 255), (.int .i64 0), (.string (ByteArray.mk #[])), (.int .i64 0), (.int .i64 0), (.slice none 0 0)] (by kernel_rfl) (fun w => by kernel_rfl) ?_
          intro b_16 w_17 a H HP
          have HP := HP.front 2 rfl [(altR u), bx b_16 46 [(.int .i64 0), (.int .i64 ((j : Nat) : Int)), (.int .i64 0), (.int .i64 0), (.int .i64 0), (.bool true), (.string (ByteArray.mk #[])), (.int .i64 255), (.int .i64 0), (.string (ByteArray.mk #[])), (.int .i64 0), (.int .i64 0), (.slice none 0 0)] true, bx b_11 46 [(.int .i64 0), (.int .i64 ((j : Nat) : Int)), (.int .i64 0), (.int .i64 0), (.int .i64 0), (.bool true), (.string (ByteArray.mk #[])), (.int .i64 255), (.int .i64 0), (.string (ByteArray.mk #[])), (.int .i64 0), (.int .i64 0), (.slice none 0 0)] true, (rowsR w.heap.size 46 13 UnitA.cells unOk unFp (.slice UA ul.length uc) ul), (rowsR w.heap.size 3 1 intCells (fun _ _ => True) (fun _ _ => False) (.slice GA gl.length gc) gl)] (by kernel_rfl)
          have HP := HP.tail rfl
          have HP := HP.pend0 2 rfl elOk_un (slateA ((j : Nat) : Int)) [bx b_16 46 [(.int .i64 0), (.int .i64 ((j : Nat) : Int)), (.int .i64 0), (.int .i64 0), (.int .i64 0), (.bool true), (.string (ByteArray.mk #[])), (.int .i64 255), (.int .i64 0), (.string (ByteArray.mk #[])), (.int .i64 0), (.int .i64 0), (.slice none 0 0)] true, bx b_11 46 [(.int .i64 0), (.int .i64 ((j : Nat) : Int)), (.int .i64 0), (.int .i64 0), (.int .i64 0), (.bool true), (.string (ByteArray.mk #[])), (.int .i64 255), (.int .i64 0), (.string (ByteArray.mk #[])), (.int .i64 0), (.int .i64 0), (.slice none 0 0)] true, (rowsP w.heap.size 46 13 UnitA.cells unOk unFp (.slice UA ul.length uc) ul (slateA ((j : Nat) : Int))), (rowsR w.heap.size 3 1 intCells (fun _ _ => True) (fun _ _ => False) (.slice GA gl.length gc) gl)] (by kernel_rfl) (slateA_ok _ (by omega)) (fun k hk => by have := hk.1; simp [slateA] at this)
          refine H.push HP 50 2 0 (v := (.slice UA ul.length uc)) (e := 46) (p := (slateA ((j : Nat) : Int))) (l := ul) (cs := UnitA.cells) (ok := unOk) (fe := unFp) (size := 13) (z := (.agg #[(.int .i64 0), (.int .i64 0), (.int .i64 0), (.int .i64 0), (.int .i64 0), (.bool false), (.string (ByteArray.mk #[])), (.int .i64 0), (.int .i64 0), (.string (ByteArray.mk #[])), (.int .i64 0), (.int .i64 0), (.slice none 0 0)])) (bytes := 136) (bb := b_16) (tb := 46) (fb := true) (by kernel_rfl) elOk_un (by kernel_rfl) (by kernel_rfl) rfl (by kernel_rfl) (by kernel_rfl) (by kernel_rfl) (by kernel_rfl) (by kernel_rfl) rfl (by kernel_rfl) (by unfold maxLen; omega) (by omega) ?_
          intro B_18 c_19 w_20 a H HP
          have HP : Hp w w_20 [bx b_16 46 [(.int .i64 0), (.int .i64 ((j : Nat) : Int)), (.int .i64 0), (.int .i64 0), (.int .i64 0), (.bool true), (.string (ByteArray.mk #[])), (.int .i64 255), (.int .i64 0), (.string (ByteArray.mk #[])), (.int .i64 0), (.int .i64 0), (.slice none 0 0)] true, bx b_11 46 [(.int .i64 0), (.int .i64 ((j : Nat) : Int)), (.int .i64 0), (.int .i64 0), (.int .i64 0), (.bool true), (.string (ByteArray.mk #[])), (.int .i64 255), (.int .i64 0), (.string (ByteArray.mk #[])), (.int .i64 0), (.int .i64 0), (.slice none 0 0)] true, (rowsR w.heap.size 46 13 UnitA.cells unOk unFp (.slice B_18 (ul.length + 1) c_19) (ul ++ [(slateA ((j : Nat) : Int))])), (rowsR w.heap.size 3 1 intCells (fun _ _ => True) (fun _ _ => False) (.slice GA gl.length gc) gl)] [] := HP
          refine H.val 9 (.slice B_18 (ul.length + 1) c_19) (by kernel_rfl) (by kernel_rfl) ?_
          intro a H
          refine wpList_nil ?_
          refine inb_normal ?_
          refine then_normal ?_
          refine w_region ?_
          refine H.val 35 (.int .i64 ((j : Nat) : Int)) (by kernel_rfl) (by kernel_rfl) ?_
          intro a H
          refine H.valE 36 (.int .i64 (IntKind.i64.wrap (((j : Nat) : Int) + 1))) (.int .i64 (((j : Nat) : Int) + 1)) (by kernel_rfl) (by kernel_rfl) ((by rw [wrap_ini64 _ (by omega)])) ?_
          intro a H
          refine H.val 10 (.int .i64 (((j : Nat) : Int) + 1)) (by kernel_rfl) (by kernel_rfl) ?_
          intro a H
          refine wpList_nil ?_
          refine then_normal ?_
          have H := H.as 10 (.int .i64 ((j + 1 : Nat) : Int)) rfl rfl
          have H := H.as 9 (.slice B_18 ((ul ++ [(slateA ((j : Nat) : Int))]).length) c_19) rfl (by simp)
          refine ⟨_, ?_, j + 1, B_18, c_19, ul ++ [(slateA ((j : Nat) : Int))], rfl, H.keep (by kernel_rfl), (by simpa using ((HP.tail rfl).tail rfl)), by omega, feedTo_snoc hus (by rw [if_pos g44p]; rfl)⟩
          omega
        · have g44p := g44
          refine wp_skip ?_
          refine then_normal ?_
          refine w_region ?_
          refine H.val 47 (.slice UA ul.length uc) (by kernel_rfl) (by kernel_rfl) ?_
          intro a H
          refine H.val 48 (.agg #[(.int .i64 u.channel), (.int .i64 u.frame), (.int .i64 u.version), (.int .i64 u.item), (.int .i64 u.index), (.bool u.key), (.string u.data), (.int .i64 u.regions), (.int .i64 u.gain), (.string u.caption), (.int .i64 u.os), (.int .i64 u.of), (.slice u.A u.al.length u.c)]) (by kernel_rfl) (ex_loadN (vs := [(.int .i64 u.channel), (.int .i64 u.frame), (.int .i64 u.version), (.int .i64 u.item), (.int .i64 u.index), (.bool u.key), (.string u.data), (.int .i64 u.regions), (.int .i64 u.gain), (.string u.caption), (.int .i64 u.os), (.int .i64 u.of), (.slice u.A u.al.length u.c)]) (by kernel_rfl) (by kernel_rfl) (by kernel_rfl) rfl (HP.cells 0 rfl 0 13 (by kernel_rfl))) ?_
          intro a H
          refine H.alloc HP 49 (fun b => (.slice (some ⟨b, 0, none⟩) 1 1)) 46 [(.int .i64 u.channel), (.int .i64 u.frame), (.int .i64 u.version), (.int .i64 u.item), (.int .i64 u.index), (.bool u.key), (.string u.data), (.int .i64 u.regions), (.int .i64 u.gain), (.string u.caption), (.int .i64 u.os), (.int .i64 u.of), (.slice u.A u.al.length u.c)] (by kernel_rfl) (fun w => by kernel_rfl) ?_
          intro b_21 w_22 a H HP
          have HP := HP.front 2 rfl [(altR u), bx b_21 46 [(.int .i64 u.channel), (.int .i64 u.frame), (.int .i64 u.version), (.int .i64 u.item), (.int .i64 u.index), (.bool u.key), (.string u.data), (.int .i64 u.regions), (.int .i64 u.gain), (.string u.caption), (.int .i64 u.os), (.int .i64 u.of), (.slice u.A u.al.length u.c)] true, bx b_11 46 [(.int .i64 u.channel), (.int .i64 u.frame), (.int .i64 u.version), (.int .i64 u.item), (.int .i64 u.index), (.bool u.key), (.string u.data), (.int .i64 u.regions), (.int .i64 u.gain), (.string u.caption), (.int .i64 u.os), (.int .i64 u.of), (.slice u.A u.al.length u.c)] true, (rowsR w.heap.size 46 13 UnitA.cells unOk unFp (.slice UA ul.length uc) ul), (rowsR w.heap.size 3 1 intCells (fun _ _ => True) (fun _ _ => False) (.slice GA gl.length gc) gl)] (by kernel_rfl)
          have HP := HP.absorb 2 rfl elOk_un u [bx b_21 46 [(.int .i64 u.channel), (.int .i64 u.frame), (.int .i64 u.version), (.int .i64 u.item), (.int .i64 u.index), (.bool u.key), (.string u.data), (.int .i64 u.regions), (.int .i64 u.gain), (.string u.caption), (.int .i64 u.os), (.int .i64 u.of), (.slice u.A u.al.length u.c)] true, bx b_11 46 [(.int .i64 u.channel), (.int .i64 u.frame), (.int .i64 u.version), (.int .i64 u.item), (.int .i64 u.index), (.bool u.key), (.string u.data), (.int .i64 u.regions), (.int .i64 u.gain), (.string u.caption), (.int .i64 u.os), (.int .i64 u.of), (.slice u.A u.al.length u.c)] true, (rowsP w.heap.size 46 13 UnitA.cells unOk unFp (.slice UA ul.length uc) ul u), (rowsR w.heap.size 3 1 intCells (fun _ _ => True) (fun _ _ => False) (.slice GA gl.length gc) gl)] (by kernel_rfl) ⟨HP.held 0 rfl, huo.2⟩ (fun k hk => hk) rfl
          refine H.push HP 50 2 0 (v := (.slice UA ul.length uc)) (e := 46) (p := u) (l := ul) (cs := UnitA.cells) (ok := unOk) (fe := unFp) (size := 13) (z := (.agg #[(.int .i64 0), (.int .i64 0), (.int .i64 0), (.int .i64 0), (.int .i64 0), (.bool false), (.string (ByteArray.mk #[])), (.int .i64 0), (.int .i64 0), (.string (ByteArray.mk #[])), (.int .i64 0), (.int .i64 0), (.slice none 0 0)])) (bytes := 136) (bb := b_21) (tb := 46) (fb := true) (by kernel_rfl) elOk_un (by kernel_rfl) (by kernel_rfl) rfl (by kernel_rfl) (by kernel_rfl) (by kernel_rfl) (by kernel_rfl) (by kernel_rfl) rfl (by kernel_rfl) (by unfold maxLen; omega) (by omega) ?_
          intro B_23 c_24 w_25 a H HP
          have HP : Hp w w_25 [bx b_21 46 [(.int .i64 u.channel), (.int .i64 u.frame), (.int .i64 u.version), (.int .i64 u.item), (.int .i64 u.index), (.bool u.key), (.string u.data), (.int .i64 u.regions), (.int .i64 u.gain), (.string u.caption), (.int .i64 u.os), (.int .i64 u.of), (.slice u.A u.al.length u.c)] true, bx b_11 46 [(.int .i64 u.channel), (.int .i64 u.frame), (.int .i64 u.version), (.int .i64 u.item), (.int .i64 u.index), (.bool u.key), (.string u.data), (.int .i64 u.regions), (.int .i64 u.gain), (.string u.caption), (.int .i64 u.os), (.int .i64 u.of), (.slice u.A u.al.length u.c)] true, (rowsR w.heap.size 46 13 UnitA.cells unOk unFp (.slice B_23 (ul.length + 1) c_24) (ul ++ [u])), (rowsR w.heap.size 3 1 intCells (fun _ _ => True) (fun _ _ => False) (.slice GA gl.length gc) gl)] [] := HP
          refine H.val 9 (.slice B_23 (ul.length + 1) c_24) (by kernel_rfl) (by kernel_rfl) ?_
          intro a H
          refine wpList_nil ?_
          refine inb_normal ?_
          refine then_normal ?_
          refine w_region ?_
          refine H.val 35 (.int .i64 ((j : Nat) : Int)) (by kernel_rfl) (by kernel_rfl) ?_
          intro a H
          refine H.valE 36 (.int .i64 (IntKind.i64.wrap (((j : Nat) : Int) + 1))) (.int .i64 (((j : Nat) : Int) + 1)) (by kernel_rfl) (by kernel_rfl) ((by rw [wrap_ini64 _ (by omega)])) ?_
          intro a H
          refine H.val 10 (.int .i64 (((j : Nat) : Int) + 1)) (by kernel_rfl) (by kernel_rfl) ?_
          intro a H
          refine wpList_nil ?_
          refine then_normal ?_
          have H := H.as 10 (.int .i64 ((j + 1 : Nat) : Int)) rfl rfl
          have H := H.as 9 (.slice B_23 ((ul ++ [u]).length) c_24) rfl (by simp)
          refine ⟨_, ?_, j + 1, B_23, c_24, ul ++ [u], rfl, H.keep (by kernel_rfl), (by simpa using ((HP.tail rfl).tail rfl)), by omega, feedTo_snoc hus (by rw [if_neg (by simp [g44p])]; exact husp)⟩
          omega
      · have g34p := of_decide_eq_false g34
        refine wp_exit ?_
        refine then_exit ?_
        refine then_exit ?_
        refine w_exit_here ?_
        refine then_normal ?_
        refine wp_seq ?_
        refine w_region ?_
        refine H.val 51 (.slice UA ul.length uc) (by kernel_rfl) (by kernel_rfl) ?_
        intro a H
        refine H.val 6 (.slice UA ul.length uc) (by kernel_rfl) (by kernel_rfl) ?_
        intro a H
        refine wpList_nil ?_
        refine then_normal ?_
        refine wp_ret ?_
        refine H.ret1 (fn := Try.f12) Try.results12 (RV.tmp_ (v := (.slice UA ul.length uc)) (by kernel_rfl)) ?_
        exact feed_end (HP.held 0 rfl) (HP.fresh _ (List.mem_of_getElem? (i := 0) rfl) rfl) hus hM (by omega) (HP.below (by kernel_rfl))
  · have g17p := of_decide_eq_false g17
    refine H.skip 18 (by kernel_rfl) ?_
    intro a H
    refine H.skip 19 (by kernel_rfl) ?_
    intro a H
    refine H.val 20 (.bool false) (by kernel_rfl) (by kernel_rfl) ?_
    intro a H
    refine wpList_nil ?_
    have H := H.keep (L' := [(20, (.bool false)), (8, (.int .i64 ((j : Nat) : Int))), (7, (.slice GA gl.length gc)), (6, (.slice none 0 0)), (0, (.slice A n c)), (1, (.slice LA m lc)), (2, (.slice ZA zn zc))]) (by kernel_rfl)
    refine then_normal ?_
    refine w_iff H rfl ?_
    refine wp_exit ?_
    refine then_exit ?_
    refine then_exit ?_
    refine w_exit_here ?_
    refine then_normal ?_
    refine wp_seq ?_
    refine w_region ?_
    refine H.val 9 (.slice none 0 0) (by kernel_rfl) (by kernel_rfl) ?_
    intro a H
    refine wpList_nil ?_
    refine then_normal ?_
    refine wp_seq ?_
    refine wp_seq ?_
    refine w_region ?_
    refine H.val 10 (.int .i64 0) (by kernel_rfl) (by kernel_rfl) ?_
    intro a H
    refine wpList_nil ?_
    refine then_normal ?_
    refine wp_block ?_
    have hgn : gl = goneP (zs.take (min zn 20)) := by rw [hgl]; congr 1; congr 1; omega
    have hgl20 : gl.length ≤ 20 := by omega
    clear hgl hgll hj hmeas
    obtain ⟨M, hM⟩ : ∃ M : Nat, endP es = M := ⟨(endP es).toNat, by omega⟩
    rw [hM] at hend
    have HP := HP.nilRow w.heap.size 46 13 UnitA.cells unOk unFp elOk_un
    refine w_loop (fun mm a v => ∃ (j : Nat), ∃ (UA : Option Addr), ∃ (uc : Nat), ∃ (ul : List UnitA), M - j = mm ∧ Sl 52 [(10, (.int .i64 ((j : Nat) : Int))), (9, (.slice UA ul.length uc)), (7, (.slice GA gl.length gc)), (6, (.slice none 0 0)), (0, (.slice A n c)), (1, (.slice LA m lc))] a ∧ Hp w v [(rowsR w.heap.size 46 13 UnitA.cells unOk unFp (.slice UA ul.length uc) ul), (rowsR w.heap.size 3 1 intCells (fun _ _ => True) (fun _ _ => False) (.slice GA gl.length gc) gl)] [] ∧ (j ≤ M) ∧ (ul.map UnitA.spec = feedTo es lib gl j)) (M - 0) ?_ ?_
    · exact ⟨0, none, 0, [], (by omega), H.keep (by kernel_rfl), HP, by omega, rfl⟩
    rintro mm a w_26 ⟨j, UA, uc, ul, hmeas, H, HP, hj, hus⟩
    have hull : ul.length = j := by have := congrArg List.length hus; simpa [feedTo] using this
    refine wp_seq ?_
    refine wp_seq ?_
    refine w_region ?_
    refine H.val 31 (.int .i64 ((j : Nat) : Int)) (by kernel_rfl) (by kernel_rfl) ?_
    intro a H
    refine H.val 32 (.slice A n c) (by kernel_rfl) (by kernel_rfl) ?_
    intro a H
    refine H.call 33 (by kernel_rfl) (Eq.trans (by kernel_rfl : _ = (callFunc 26 #[(.slice A n c)]).run Try.prog w_26) (Try.call26 _ _)) (by have := end_any _ n c es w_26 (evs_below h (HP.below (by kernel_rfl))) (by omega) (fun e he => evBd_end (hbe e he)); rw [hM] at this; exact this) ?_
    rintro e w_27 ⟨rfl, hb⟩
    refine ⟨_, rfl, ?_⟩
    intro a H
    have HP := HP.next hb
    refine H.val 34 (.bool (decide (((j : Nat) : Int) < ((M : Nat) : Int)))) (by kernel_rfl) (by kernel_rfl) ?_
    intro a H
    refine wpList_nil ?_
    refine then_normal ?_
    refine w_if H rfl (fun g34 => ?_) (fun g34 => ?_)
    · have g34p := of_decide_eq_true g34
      refine wp_skip ?_
      refine then_normal ?_
      refine wp_seq ?_
      refine wp_block ?_
      refine wp_seq ?_
      refine w_region ?_
      refine H.val 37 (.slice A n c) (by kernel_rfl) (by kernel_rfl) ?_
      intro a H
      refine H.val 38 (.slice LA m lc) (by kernel_rfl) (by kernel_rfl) ?_
      intro a H
      refine H.val 39 (.int .i64 ((j : Nat) : Int)) (by kernel_rfl) (by kernel_rfl) ?_
      intro a H
      refine H.call 40 (by kernel_rfl) (Eq.trans (by kernel_rfl : _ = (callFunc 27 #[(.slice A n c), (.slice LA m lc), (.int .i64 ((j : Nat) : Int))]).run Try.prog w_27) (Try.call27 _ _)) (unit_any _ n c es LA m lc lib ((j : Nat) : Int) w_27 (evs_below h (HP.below (by kernel_rfl))) (by omega) hbe (hlib.below (HP.below (by kernel_rfl))) hm hpc (by omega)) ?_
      rintro e w_28 ⟨u, rfl, husp, huo, hb, hnew⟩
      refine ⟨_, rfl, ?_⟩
      intro a H
      have HP := HP.gain hb (altR u) huo.1 (altR_ok u) (fun k hk => row_lt huo.1.2 hk) (fun k hk => hk.2.elim fun off e => hnew k off e)
      refine H.alloc HP 11 (fun b => (.pointer (some ⟨b, 0, none⟩))) 46 [(.int .i64 0), (.int .i64 0), (.int .i64 0), (.int .i64 0), (.int .i64 0), (.bool false), (.string (ByteArray.mk #[])), (.int .i64 0), (.int .i64 0), (.string (ByteArray.mk #[])), (.int .i64 0), (.int .i64 0), (.slice none 0 0)] (by kernel_rfl) (fun w => by kernel_rfl) ?_
      intro b_29 w_30 a H HP
      refine H.store HP 0 b_29 0 13 46 [(.int .i64 0), (.int .i64 0), (.int .i64 0), (.int .i64 0), (.int .i64 0), (.bool false), (.string (ByteArray.mk #[])), (.int .i64 0), (.int .i64 0), (.string (ByteArray.mk #[])), (.int .i64 0), (.int .i64 0), (.slice none 0 0)] true (.agg #[(.int .i64 u.channel), (.int .i64 u.frame), (.int .i64 u.version), (.int .i64 u.item), (.int .i64 u.index), (.bool u.key), (.string u.data), (.int .i64 u.regions), (.int .i64 u.gain), (.string u.caption), (.int .i64 u.os), (.int .i64 u.of), (.slice u.A u.al.length u.c)]) [bx b_29 46 [(.int .i64 u.channel), (.int .i64 u.frame), (.int .i64 u.version), (.int .i64 u.item), (.int .i64 u.index), (.bool u.key), (.string u.data), (.int .i64 u.regions), (.int .i64 u.gain), (.string u.caption), (.int .i64 u.os), (.int .i64 u.of), (.slice u.A u.al.length u.c)] true, (altR u), (rowsR w.heap.size 46 13 UnitA.cells unOk unFp (.slice UA ul.length uc) ul), (rowsR w.heap.size 3 1 intCells (fun _ _ => True) (fun _ _ => False) (.slice GA gl.length gc) gl)] (by kernel_rfl) (by kernel_rfl) (by kernel_rfl) rfl (by kernel_rfl) (by kernel_rfl) (by kernel_rfl) (by kernel_rfl) (by kernel_rfl) ?_
      intro w_31 a H HP
      refine wpList_nil ?_
      refine then_normal ?_
      refine wp_seq ?_
      refine w_region ?_
      refine H.val 41 (.slice GA gl.length gc) (by kernel_rfl) (by kernel_rfl) ?_
      intro a H
      refine H.val 42 (.int .i64 ((j : Nat) : Int)) (by kernel_rfl) (by kernel_rfl) ?_
      intro a H
      refine H.call 43 (by kernel_rfl) (Eq.trans (by kernel_rfl : _ = (callFunc 28 #[(.slice GA gl.length gc), (.int .i64 ((j : Nat) : Int))]).run Try.prog w_31) (Try.call28 _ _)) (has_any GA gl.length gc gl ((j : Nat) : Int) w_31 (ints_of_row (HP.held 3 rfl)) (by omega)) ?_
      rintro e w_32 ⟨rfl, hb⟩
      refine ⟨_, rfl, ?_⟩
      intro a H
      have HP := HP.next hb
      refine H.val 12 (.bool (hasP ((j : Nat) : Int) gl)) (by kernel_rfl) (by kernel_rfl) ?_
      intro a H
      refine wpList_nil ?_
      refine then_normal ?_
      refine wp_seq ?_
      refine wp_seq ?_
      refine w_region ?_
      refine H.val 44 (.bool (hasP ((j : Nat) : Int) gl)) (by kernel_rfl) (by kernel_rfl) ?_
      intro a H
      refine wpList_nil ?_
      refine then_normal ?_
      refine w_if H rfl (fun g44 => ?_) (fun g44 => ?_)
      · have g44p := g44
        refine w_region ?_
        refine H.val 45 (.int .i64 ((j : Nat) : Int)) (by kernel_rfl) (by kernel_rfl) ?_
        intro a H
        refine H.val 46 (.agg #[(.int .i64 0), (.int .i64 ((j : Nat) : Int)), (.int .i64 0), (.int .i64 0), (.int .i64 0), (.bool true), (.string (ByteArray.mk #[])), (.int .i64 255), (.int .i64 0), (.string (ByteArray.mk #[])), (.int .i64 0), (.int .i64 0), (.slice none 0 0)]) (by kernel_rfl) (by kernel_rfl) ?_
        intro a H
        refine H.store HP 0 b_29 0 13 46 [(.int .i64 u.channel), (.int .i64 u.frame), (.int .i64 u.version), (.int .i64 u.item), (.int .i64 u.index), (.bool u.key), (.string u.data), (.int .i64 u.regions), (.int .i64 u.gain), (.string u.caption), (.int .i64 u.os), (.int .i64 u.of), (.slice u.A u.al.length u.c)] true (.agg #[(.int .i64 0), (.int .i64 ((j : Nat) : Int)), (.int .i64 0), (.int .i64 0), (.int .i64 0), (.bool true), (.string (ByteArray.mk #[])), (.int .i64 255), (.int .i64 0), (.string (ByteArray.mk #[])), (.int .i64 0), (.int .i64 0), (.slice none 0 0)]) [bx b_29 46 [(.int .i64 0), (.int .i64 ((j : Nat) : Int)), (.int .i64 0), (.int .i64 0), (.int .i64 0), (.bool true), (.string (ByteArray.mk #[])), (.int .i64 255), (.int .i64 0), (.string (ByteArray.mk #[])), (.int .i64 0), (.int .i64 0), (.slice none 0 0)] true, (altR u), (rowsR w.heap.size 46 13 UnitA.cells unOk unFp (.slice UA ul.length uc) ul), (rowsR w.heap.size 3 1 intCells (fun _ _ => True) (fun _ _ => False) (.slice GA gl.length gc) gl)] (by kernel_rfl) (by kernel_rfl) (by kernel_rfl) rfl (by kernel_rfl) (by kernel_rfl) (by kernel_rfl) (by kernel_rfl) (by kernel_rfl) ?_
        intro w_33 a H HP
        refine wpList_nil ?_
        refine then_normal ?_
        refine w_region ?_
        refine H.val 47 (.slice UA ul.length uc) (by kernel_rfl) (by kernel_rfl) ?_
        intro a H
        refine H.val 48 (.agg #[(.int .i64 0), (.int .i64 ((j : Nat) : Int)), (.int .i64 0), (.int .i64 0), (.int .i64 0), (.bool true), (.string (ByteArray.mk #[])), (.int .i64 255), (.int .i64 0), (.string (ByteArray.mk #[])), (.int .i64 0), (.int .i64 0), (.slice none 0 0)]) (by kernel_rfl) (ex_loadN (vs := [(.int .i64 0), (.int .i64 ((j : Nat) : Int)), (.int .i64 0), (.int .i64 0), (.int .i64 0), (.bool true), (.string (ByteArray.mk #[])), (.int .i64 255), (.int .i64 0), (.string (ByteArray.mk #[])), (.int .i64 0), (.int .i64 0), (.slice none 0 0)]) (by kernel_rfl) (by kernel_rfl) (by kernel_rfl) rfl (HP.cells 0 rfl 0 13 (by kernel_rfl))) ?_
        intro a H
        refine H.alloc HP 49 (fun b => (.slice (some ⟨b, 0, none⟩) 1 1)) 46 [(.int .i64 0), (.int .i64 ((j : Nat) : Int)), (.int .i64 0), (.int .i64 0), (.int .i64 0), (.bool true), (.string (ByteArray.mk #[])), (.int .i64 255), (.int .i64 0), (.string (ByteArray.mk #[])), (.int .i64 0), (.int .i64 0), (.slice none 0 0)] (by kernel_rfl) (fun w => by kernel_rfl) ?_
        intro b_34 w_35 a H HP
        have HP := HP.front 2 rfl [(altR u), bx b_34 46 [(.int .i64 0), (.int .i64 ((j : Nat) : Int)), (.int .i64 0), (.int .i64 0), (.int .i64 0), (.bool true), (.string (ByteArray.mk #[])), (.int .i64 255), (.int .i64 0), (.string (ByteArray.mk #[])), (.int .i64 0), (.int .i64 0), (.slice none 0 0)] true, bx b_29 46 [(.int .i64 0), (.int .i64 ((j : Nat) : Int)), (.int .i64 0), (.int .i64 0), (.int .i64 0), (.bool true), (.string (ByteArray.mk #[])), (.int .i64 255), (.int .i64 0), (.string (ByteArray.mk #[])), (.int .i64 0), (.int .i64 0), (.slice none 0 0)] true, (rowsR w.heap.size 46 13 UnitA.cells unOk unFp (.slice UA ul.length uc) ul), (rowsR w.heap.size 3 1 intCells (fun _ _ => True) (fun _ _ => False) (.slice GA gl.length gc) gl)] (by kernel_rfl)
        have HP := HP.tail rfl
        have HP := HP.pend0 2 rfl elOk_un (slateA ((j : Nat) : Int)) [bx b_34 46 [(.int .i64 0), (.int .i64 ((j : Nat) : Int)), (.int .i64 0), (.int .i64 0), (.int .i64 0), (.bool true), (.string (ByteArray.mk #[])), (.int .i64 255), (.int .i64 0), (.string (ByteArray.mk #[])), (.int .i64 0), (.int .i64 0), (.slice none 0 0)] true, bx b_29 46 [(.int .i64 0), (.int .i64 ((j : Nat) : Int)), (.int .i64 0), (.int .i64 0), (.int .i64 0), (.bool true), (.string (ByteArray.mk #[])), (.int .i64 255), (.int .i64 0), (.string (ByteArray.mk #[])), (.int .i64 0), (.int .i64 0), (.slice none 0 0)] true, (rowsP w.heap.size 46 13 UnitA.cells unOk unFp (.slice UA ul.length uc) ul (slateA ((j : Nat) : Int))), (rowsR w.heap.size 3 1 intCells (fun _ _ => True) (fun _ _ => False) (.slice GA gl.length gc) gl)] (by kernel_rfl) (slateA_ok _ (by omega)) (fun k hk => by have := hk.1; simp [slateA] at this)
        refine H.push HP 50 2 0 (v := (.slice UA ul.length uc)) (e := 46) (p := (slateA ((j : Nat) : Int))) (l := ul) (cs := UnitA.cells) (ok := unOk) (fe := unFp) (size := 13) (z := (.agg #[(.int .i64 0), (.int .i64 0), (.int .i64 0), (.int .i64 0), (.int .i64 0), (.bool false), (.string (ByteArray.mk #[])), (.int .i64 0), (.int .i64 0), (.string (ByteArray.mk #[])), (.int .i64 0), (.int .i64 0), (.slice none 0 0)])) (bytes := 136) (bb := b_34) (tb := 46) (fb := true) (by kernel_rfl) elOk_un (by kernel_rfl) (by kernel_rfl) rfl (by kernel_rfl) (by kernel_rfl) (by kernel_rfl) (by kernel_rfl) (by kernel_rfl) rfl (by kernel_rfl) (by unfold maxLen; omega) (by omega) ?_
        intro B_36 c_37 w_38 a H HP
        have HP : Hp w w_38 [bx b_34 46 [(.int .i64 0), (.int .i64 ((j : Nat) : Int)), (.int .i64 0), (.int .i64 0), (.int .i64 0), (.bool true), (.string (ByteArray.mk #[])), (.int .i64 255), (.int .i64 0), (.string (ByteArray.mk #[])), (.int .i64 0), (.int .i64 0), (.slice none 0 0)] true, bx b_29 46 [(.int .i64 0), (.int .i64 ((j : Nat) : Int)), (.int .i64 0), (.int .i64 0), (.int .i64 0), (.bool true), (.string (ByteArray.mk #[])), (.int .i64 255), (.int .i64 0), (.string (ByteArray.mk #[])), (.int .i64 0), (.int .i64 0), (.slice none 0 0)] true, (rowsR w.heap.size 46 13 UnitA.cells unOk unFp (.slice B_36 (ul.length + 1) c_37) (ul ++ [(slateA ((j : Nat) : Int))])), (rowsR w.heap.size 3 1 intCells (fun _ _ => True) (fun _ _ => False) (.slice GA gl.length gc) gl)] [] := HP
        refine H.val 9 (.slice B_36 (ul.length + 1) c_37) (by kernel_rfl) (by kernel_rfl) ?_
        intro a H
        refine wpList_nil ?_
        refine inb_normal ?_
        refine then_normal ?_
        refine w_region ?_
        refine H.val 35 (.int .i64 ((j : Nat) : Int)) (by kernel_rfl) (by kernel_rfl) ?_
        intro a H
        refine H.valE 36 (.int .i64 (IntKind.i64.wrap (((j : Nat) : Int) + 1))) (.int .i64 (((j : Nat) : Int) + 1)) (by kernel_rfl) (by kernel_rfl) ((by rw [wrap_ini64 _ (by omega)])) ?_
        intro a H
        refine H.val 10 (.int .i64 (((j : Nat) : Int) + 1)) (by kernel_rfl) (by kernel_rfl) ?_
        intro a H
        refine wpList_nil ?_
        refine then_normal ?_
        have H := H.as 10 (.int .i64 ((j + 1 : Nat) : Int)) rfl rfl
        have H := H.as 9 (.slice B_36 ((ul ++ [(slateA ((j : Nat) : Int))]).length) c_37) rfl (by simp)
        refine ⟨_, ?_, j + 1, B_36, c_37, ul ++ [(slateA ((j : Nat) : Int))], rfl, H.keep (by kernel_rfl), (by simpa using ((HP.tail rfl).tail rfl)), by omega, feedTo_snoc hus (by rw [if_pos g44p]; rfl)⟩
        omega
      · have g44p := g44
        refine wp_skip ?_
        refine then_normal ?_
        refine w_region ?_
        refine H.val 47 (.slice UA ul.length uc) (by kernel_rfl) (by kernel_rfl) ?_
        intro a H
        refine H.val 48 (.agg #[(.int .i64 u.channel), (.int .i64 u.frame), (.int .i64 u.version), (.int .i64 u.item), (.int .i64 u.index), (.bool u.key), (.string u.data), (.int .i64 u.regions), (.int .i64 u.gain), (.string u.caption), (.int .i64 u.os), (.int .i64 u.of), (.slice u.A u.al.length u.c)]) (by kernel_rfl) (ex_loadN (vs := [(.int .i64 u.channel), (.int .i64 u.frame), (.int .i64 u.version), (.int .i64 u.item), (.int .i64 u.index), (.bool u.key), (.string u.data), (.int .i64 u.regions), (.int .i64 u.gain), (.string u.caption), (.int .i64 u.os), (.int .i64 u.of), (.slice u.A u.al.length u.c)]) (by kernel_rfl) (by kernel_rfl) (by kernel_rfl) rfl (HP.cells 0 rfl 0 13 (by kernel_rfl))) ?_
        intro a H
        refine H.alloc HP 49 (fun b => (.slice (some ⟨b, 0, none⟩) 1 1)) 46 [(.int .i64 u.channel), (.int .i64 u.frame), (.int .i64 u.version), (.int .i64 u.item), (.int .i64 u.index), (.bool u.key), (.string u.data), (.int .i64 u.regions), (.int .i64 u.gain), (.string u.caption), (.int .i64 u.os), (.int .i64 u.of), (.slice u.A u.al.length u.c)] (by kernel_rfl) (fun w => by kernel_rfl) ?_
        intro b_39 w_40 a H HP
        have HP := HP.front 2 rfl [(altR u), bx b_39 46 [(.int .i64 u.channel), (.int .i64 u.frame), (.int .i64 u.version), (.int .i64 u.item), (.int .i64 u.index), (.bool u.key), (.string u.data), (.int .i64 u.regions), (.int .i64 u.gain), (.string u.caption), (.int .i64 u.os), (.int .i64 u.of), (.slice u.A u.al.length u.c)] true, bx b_29 46 [(.int .i64 u.channel), (.int .i64 u.frame), (.int .i64 u.version), (.int .i64 u.item), (.int .i64 u.index), (.bool u.key), (.string u.data), (.int .i64 u.regions), (.int .i64 u.gain), (.string u.caption), (.int .i64 u.os), (.int .i64 u.of), (.slice u.A u.al.length u.c)] true, (rowsR w.heap.size 46 13 UnitA.cells unOk unFp (.slice UA ul.length uc) ul), (rowsR w.heap.size 3 1 intCells (fun _ _ => True) (fun _ _ => False) (.slice GA gl.length gc) gl)] (by kernel_rfl)
        have HP := HP.absorb 2 rfl elOk_un u [bx b_39 46 [(.int .i64 u.channel), (.int .i64 u.frame), (.int .i64 u.version), (.int .i64 u.item), (.int .i64 u.index), (.bool u.key), (.string u.data), (.int .i64 u.regions), (.int .i64 u.gain), (.string u.caption), (.int .i64 u.os), (.int .i64 u.of), (.slice u.A u.al.length u.c)] true, bx b_29 46 [(.int .i64 u.channel), (.int .i64 u.frame), (.int .i64 u.version), (.int .i64 u.item), (.int .i64 u.index), (.bool u.key), (.string u.data), (.int .i64 u.regions), (.int .i64 u.gain), (.string u.caption), (.int .i64 u.os), (.int .i64 u.of), (.slice u.A u.al.length u.c)] true, (rowsP w.heap.size 46 13 UnitA.cells unOk unFp (.slice UA ul.length uc) ul u), (rowsR w.heap.size 3 1 intCells (fun _ _ => True) (fun _ _ => False) (.slice GA gl.length gc) gl)] (by kernel_rfl) ⟨HP.held 0 rfl, huo.2⟩ (fun k hk => hk) rfl
        refine H.push HP 50 2 0 (v := (.slice UA ul.length uc)) (e := 46) (p := u) (l := ul) (cs := UnitA.cells) (ok := unOk) (fe := unFp) (size := 13) (z := (.agg #[(.int .i64 0), (.int .i64 0), (.int .i64 0), (.int .i64 0), (.int .i64 0), (.bool false), (.string (ByteArray.mk #[])), (.int .i64 0), (.int .i64 0), (.string (ByteArray.mk #[])), (.int .i64 0), (.int .i64 0), (.slice none 0 0)])) (bytes := 136) (bb := b_39) (tb := 46) (fb := true) (by kernel_rfl) elOk_un (by kernel_rfl) (by kernel_rfl) rfl (by kernel_rfl) (by kernel_rfl) (by kernel_rfl) (by kernel_rfl) (by kernel_rfl) rfl (by kernel_rfl) (by unfold maxLen; omega) (by omega) ?_
        intro B_41 c_42 w_43 a H HP
        have HP : Hp w w_43 [bx b_39 46 [(.int .i64 u.channel), (.int .i64 u.frame), (.int .i64 u.version), (.int .i64 u.item), (.int .i64 u.index), (.bool u.key), (.string u.data), (.int .i64 u.regions), (.int .i64 u.gain), (.string u.caption), (.int .i64 u.os), (.int .i64 u.of), (.slice u.A u.al.length u.c)] true, bx b_29 46 [(.int .i64 u.channel), (.int .i64 u.frame), (.int .i64 u.version), (.int .i64 u.item), (.int .i64 u.index), (.bool u.key), (.string u.data), (.int .i64 u.regions), (.int .i64 u.gain), (.string u.caption), (.int .i64 u.os), (.int .i64 u.of), (.slice u.A u.al.length u.c)] true, (rowsR w.heap.size 46 13 UnitA.cells unOk unFp (.slice B_41 (ul.length + 1) c_42) (ul ++ [u])), (rowsR w.heap.size 3 1 intCells (fun _ _ => True) (fun _ _ => False) (.slice GA gl.length gc) gl)] [] := HP
        refine H.val 9 (.slice B_41 (ul.length + 1) c_42) (by kernel_rfl) (by kernel_rfl) ?_
        intro a H
        refine wpList_nil ?_
        refine inb_normal ?_
        refine then_normal ?_
        refine w_region ?_
        refine H.val 35 (.int .i64 ((j : Nat) : Int)) (by kernel_rfl) (by kernel_rfl) ?_
        intro a H
        refine H.valE 36 (.int .i64 (IntKind.i64.wrap (((j : Nat) : Int) + 1))) (.int .i64 (((j : Nat) : Int) + 1)) (by kernel_rfl) (by kernel_rfl) ((by rw [wrap_ini64 _ (by omega)])) ?_
        intro a H
        refine H.val 10 (.int .i64 (((j : Nat) : Int) + 1)) (by kernel_rfl) (by kernel_rfl) ?_
        intro a H
        refine wpList_nil ?_
        refine then_normal ?_
        have H := H.as 10 (.int .i64 ((j + 1 : Nat) : Int)) rfl rfl
        have H := H.as 9 (.slice B_41 ((ul ++ [u]).length) c_42) rfl (by simp)
        refine ⟨_, ?_, j + 1, B_41, c_42, ul ++ [u], rfl, H.keep (by kernel_rfl), (by simpa using ((HP.tail rfl).tail rfl)), by omega, feedTo_snoc hus (by rw [if_neg (by simp [g44p])]; exact husp)⟩
        omega
    · have g34p := of_decide_eq_false g34
      refine wp_exit ?_
      refine then_exit ?_
      refine then_exit ?_
      refine w_exit_here ?_
      refine then_normal ?_
      refine wp_seq ?_
      refine w_region ?_
      refine H.val 51 (.slice UA ul.length uc) (by kernel_rfl) (by kernel_rfl) ?_
      intro a H
      refine H.val 6 (.slice UA ul.length uc) (by kernel_rfl) (by kernel_rfl) ?_
      intro a H
      refine wpList_nil ?_
      refine then_normal ?_
      refine wp_ret ?_
      refine H.ret1 (fn := Try.f12) Try.results12 (RV.tmp_ (v := (.slice UA ul.length uc)) (by kernel_rfl)) ?_
      exact feed_end (HP.held 0 rfl) (HP.fresh _ (List.mem_of_getElem? (i := 0) rfl) rfl) hus hM (by omega) (HP.below (by kernel_rfl))
end Go.Proofs.Ytpaepefpfaoacaa
