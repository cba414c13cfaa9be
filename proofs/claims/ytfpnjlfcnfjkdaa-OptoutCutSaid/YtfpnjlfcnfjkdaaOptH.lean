/- Contracts of the methods of optout's placed. -/
import Derived.Test.YtfpnjlfcnfjkdaaOptG
import Derived.Deep.RegionWith
namespace Go.Proofs.Ytfpnjlfcnfjkdaa
open Go.ChangeShapes Go.WideShapes Go.ChangeAt Go.RowKit
set_option linter.unusedVariables false

/-- An event; its alternatives apart. -/
structure Ev where
  entry : Int
  item : Int
  start : Int
  frames : Int
  inn : Int
  regions : Int
abbrev evCells (e : Ev) (A : Option Addr) (n c : Nat) : Array Value :=
  #[.int .i64 e.entry, .int .i64 e.item, .int .i64 e.start, .int .i64 e.frames, .int .i64 e.inn, .int .i64 e.regions, .slice A n c]
abbrev evV (e : Ev) (A : Option Addr) (n c : Nat) : Value := .agg (evCells e A n c)
def Ev.placed (e : Ev) : Bool := !spanBad e.start e.frames
def Ev.runs (e : Ev) (fr : Int) : Bool := decide (e.start ≤ fr) && decide (fr < e.start + e.frames)
def Ev.follows (e : Ev) (fr : Int) : Bool := decide (fr < e.start) && decide (e.start - 20 ≤ fr)
theorem Ev.placed_bd {e : Ev} (h : e.placed = true) : (0 ≤ e.start ∧ e.start ≤ 100000000) ∧ 1 ≤ e.frames ∧ e.frames ≤ 100000000 := by
  simp only [Ev.placed, spanBad, Bool.not_eq_true', Bool.or_eq_false_iff, decide_eq_false_iff_not] at h
  omega

set_option maxRecDepth 100000 in
theorem runs_any (e : Ev) (A : Option Addr) (n c : Nat) (fr : Int) (w : World) (hp : e.placed = true) :
    Calls Try.prog 29 #[evV e A n c, .int .i64 fr] w fun r w' => r = .returned (.bool (e.runs fr)) ∧ Below w.heap.size w w' := by
  have b0 := Lib.hid (balloc w (.cells (evCells e A n c) 56))
  obtain ⟨p1, p2⟩ := Ev.placed_bd hp
  obtain ⟨x1, x2, s, f, x3, x4⟩ := e
  simp only at p1 p2
  clear hp
  go_enter Try.func29, Try.ntmps29
  by_cases h1 : s ≤ fr
  · go_wp2
    all_goals (go_ret; exact ⟨by simp [Ev.runs, h1], b0.out⟩)
  · go_wp2
    all_goals (go_ret; exact ⟨by simp [Ev.runs]; omega, b0.out⟩)

set_option maxRecDepth 100000 in
theorem follows_any (e : Ev) (A : Option Addr) (n c : Nat) (fr : Int) (w : World) (hp : e.placed = true) :
    Calls Try.prog 34 #[evV e A n c, .int .i64 fr] w fun r w' => r = .returned (.bool (e.follows fr)) ∧ Below w.heap.size w w' := by
  have b0 := Lib.hid (balloc w (.cells (evCells e A n c) 56))
  obtain ⟨p1, p2⟩ := Ev.placed_bd hp
  obtain ⟨x1, x2, s, f, x3, x4⟩ := e
  simp only at p1 p2
  clear hp
  go_enter Try.func34, Try.ntmps34
  by_cases h1 : fr < s
  · go_wp2
    all_goals (go_ret; exact ⟨by simp [Ev.follows, h1], b0.out⟩)
  · go_wp2
    all_goals (go_ret; exact ⟨by simp [Ev.follows]; omega, b0.out⟩)

def Ev.inBad (e : Ev) : Bool := decide (e.inn < 0) || decide (100000000 < e.inn)
/-- What the method opt returns: the opt-out, and whether it is valid. -/
def optE (e : Ev) (A : Option Addr) (n c : Nat) (al : Alts) : Value :=
  if e.inBad = true then .tuple #[optV 0 0 none 0 0, .bool false] else .tuple #[optV (e.start - e.inn) (e.frames + e.inn) A n c, .bool (validP (e.start - e.inn) (e.frames + e.inn) al)]

set_option maxRecDepth 100000 in
set_option maxHeartbeats 2000000 in
theorem opt_any (e : Ev) (A : Option Addr) (n c : Nat) (al : Alts) (w : World) (hp : e.placed = true) (h : IsAlts w A n al) :
    Calls Try.prog 30 #[evV e A n c] w fun r w' => r = .returned (optE e A n c al) ∧ Below w.heap.size w w' := by
  have H := Lib.hid h
  clear h
  obtain ⟨p1, p2⟩ := Ev.placed_bd hp
  obtain ⟨x1, x2, s, f, i, x4⟩ := e
  simp only at p1 p2
  clear hp
  go_enter Try.func30, Try.ntmps30
  have l0 := balloc w (.cells (evCells ⟨x1, x2, s, f, i, x4⟩ A n c) 56)
  have l1 := l0.alloc l0.size (.cells zero3 24)
  have z1 : Box ((w.alloc (.cells (evCells ⟨x1, x2, s, f, i, x4⟩ A n c) 56)).alloc (.cells zero3 24)) (w.heap.size + 1) 24 zero3 := by
    have := Box.new (w.alloc (.cells (evCells ⟨x1, x2, s, f, i, x4⟩ A n c) 56)) 24 zero3
    simpa using this
  have L1 := Lib.hid l1
  have Z1 := Lib.hid z1
  clear l0 l1 z1
  have end0 : ∀ (w' : World), Below w.heap.size w w' → (⟨x1, x2, s, f, i, x4⟩ : Ev).inBad = true → Ending.returned (.tuple #[.agg #[.int .i64 0, .int .i64 0, .slice none 0 0], .bool false]) = .returned (optE ⟨x1, x2, s, f, i, x4⟩ A n c al) ∧ Below w.heap.size w w' :=
    fun w' hb hi => ⟨by simp [optE, hi], hb⟩
  by_cases h1 : i < 0
  · go_wp2_with fail
    exact ret_dec Try.results30 rfl rfl Z1.out rfl (end0 _ L1.out (by simp [Ev.inBad, h1]))
  by_cases h2 : 100000000 < i
  · go_wp2_with fail
    exact ret_dec Try.results30 rfl rfl Z1.out rfl (end0 _ L1.out (by simp [Ev.inBad, h2]))
  go_upto_region 4 with (fail)
  have l2 := L1.out.alloc L1.out.size (.cells #[.int .i64 (s - i), .int .i64 (f + i), .slice A n c] 24)
  have z2 := Z1.out.next (balloc _ (.cells #[.int .i64 (s - i), .int .i64 (f + i), .slice A n c] 24))
  have z3 := Box.new ((w.alloc (.cells (evCells ⟨x1, x2, s, f, i, x4⟩ A n c) 56)).alloc (.cells zero3 24)) 24 #[.int .i64 (s - i), .int .i64 (f + i), .slice A n c]
  rw [show ((w.alloc (.cells (evCells ⟨x1, x2, s, f, i, x4⟩ A n c) 56)).alloc (.cells zero3 24)).heap.size = w.heap.size + 1 + 1 by simp] at z3
  have e0 : optE ⟨x1, x2, s, f, i, x4⟩ A n c al = .tuple #[optV (s - i) (f + i) A n c, .bool (validP (s - i) (f + i) al)] := by simp [optE, Ev.inBad, h1, h2]
  have E0 := Lib.hid e0
  clear e0 end0 L1 Z1 h1 h2
  generalize ((w.alloc (.cells (evCells ⟨x1, x2, s, f, i, x4⟩ A n c) 56)).alloc (.cells zero3 24)).alloc (.cells #[.int .i64 (s - i), .int .i64 (f + i), .slice A n c] 24) = W at *
  generalize s - i = S at *
  generalize f + i = F at *
  have c0 := z3.cell (i := 0) rfl
  have c1 := z3.cell (i := 1) rfl
  have c2 := z3.cell (i := 2) rfl
  have d0 := z2.cell (i := 0) rfl
  have d1 := z2.cell (i := 1) rfl
  have d2 := z2.cell (i := 2) rfl
  have f0 := z2.frozen 0
  have f1 := z2.frozen 1
  have f2 := z2.frozen 2
  have Z2 := Lib.hid z2
  have Z3 := Lib.hid z3
  have L2 := Lib.hid l2
  have HW := Lib.hid (H.out.below l2)
  clear z2 z3 l2
  have KEY : Hid (∀ w2, Below W.drew.heap.size W.drew w2 → Box w2 (w.heap.size + 1) 24 zero3 ∧ Box w2 (w.heap.size + 1 + 1) 24 #[.int .i64 S, .int .i64 F, .slice A n c] ∧ Below w.heap.size w w2) := Lib.hid (fun w2 b2 =>
    ⟨(show Box W.drew (w.heap.size + 1) 24 zero3 from Z2.out).next b2, (show Box W.drew (w.heap.size + 1 + 1) 24 #[.int .i64 S, .int .i64 F, .slice A n c] from Z3.out).next b2, L2.out.drew.trans (b2.mono L2.out.size)⟩)
  have HWd : Hid (IsAlts W.drew A n al) := Lib.hid (HW.out.below ((Below.refl _ _).drew))
  go_region_with (go_at_call 13; refine (valid_any S F A n c al _ HWd.out).mono ?_; rintro e w2 ⟨rfl, b2⟩; obtain ⟨t1, t2, t3⟩ := KEY.out w2 b2; have Q1 := Lib.hid t1; have Q2 := Lib.hid t3; have q0 := t1.cell (i := 0) rfl; have q1 := t1.cell (i := 1) rfl; have q2 := t1.cell (i := 2) rfl; have r0 := t1.frozen 0; have r1 := t1.frozen 1; have r2 := t1.frozen 2; have q3 := t2.cell (i := 0) rfl; have q4 := t2.cell (i := 1) rfl; have q5 := t2.cell (i := 2) rfl; clear t1 t2 t3)
  all_goals
    go_wp2_with fail
    refine ret_dec Try.results30 rfl rfl (((Q1.out.set (i := 0) (.int .i64 S)).set (i := 1) (.int .i64 F)).set (i := 2) (.slice A n c)) rfl ?_
    exact ⟨by rw [E0.out]; rfl, ((Q2.out.setCell (by simp) _).setCell (by simp) _).setCell (by simp) _⟩
end Go.Proofs.Ytfpnjlfcnfjkdaa
