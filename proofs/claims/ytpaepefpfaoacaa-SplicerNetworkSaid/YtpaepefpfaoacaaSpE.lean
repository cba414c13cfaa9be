/- The splicer's state; contracts of continues, show, Full. -/
import Derived.Test.YtpaepefpfaoacaaSpD
namespace Go.Proofs.Ytpaepefpfaoacaa
open Go.ChangeShapes Go.WideShapes Go.ChangeAt Go.RowKit
set_option linter.unusedVariables false

/-- A picture that may be shown. -/
structure P5 where
  item : Int
  index : Int
  size : Int
  key : Bool
  alt : Bool
abbrev P5.cells (p : P5) : Array Value := #[.int .i64 p.item, .int .i64 p.index, .int .i64 p.size, .bool p.key, .bool p.alt]
abbrev P5.val (p : P5) : Value := .agg p.cells
def p5Z : P5 := ⟨0, 0, 0, false, false⟩
structure Note where
  start : Int
  item : Int
  frame : Int
abbrev Note.cells (p : Note) : Array Value := #[.int .i64 p.start, .int .i64 p.item, .int .i64 p.frame]
theorem Note.cells_size (p : Note) : p.cells.size = 3 := rfl
/-- What a splicer decides by. -/
structure Sp where
  full : Int
  last : P5
  noted : List Note
/-- What does not change, and where the slices lie. -/
structure SpK where
  channel : Int
  region : Int
  store : List AstA
  SA : Option Addr
  sc : Nat
abbrev spCells (k : SpK) (s : Sp) (NA : Option Addr) (nc : Nat) : Array Value :=
  #[.int .i64 s.full, .int .i64 s.last.item, .int .i64 s.last.index, .int .i64 s.last.size, .bool s.last.key, .bool s.last.alt, .bool true, .int .i64 k.channel, .int .i64 k.region, .slice k.SA k.store.length k.sc, .slice NA s.noted.length nc]
def SpOk (w : World) (b : Nat) (k : SpK) (s : Sp) : Prop :=
  (∃ NA nc, Box w b 76 (spCells k s NA nc) ∧ IsRow 3 Note.cells w NA s.noted.length s.noted ∧ Off b NA) ∧ IsAsts w k.SA k.store.length k.store ∧ Off b k.SA ∧ (∀ a ∈ k.store, Off b a.A) ∧ k.store.length ≤ maxLen ∧ (∀ a ∈ k.store, a.pics.length ≤ 2000000) ∧ s.noted.length ≤ 1
theorem IsAsts.grown {w w' : World} {A : Option Addr} {n : Nat} {l : List AstA} (h : IsAsts w A n l) {b : Nat} (hg : w.grownBy w' (some b)) (hb : Off b A) (ha : ∀ a ∈ l, Off b a.A) : IsAsts w' A n l :=
  ⟨h.1.grown hg hb, fun a hm => ⟨(h.2 a hm).1.grown hg (ha a hm), (h.2 a hm).2⟩⟩
theorem SpOk.below {w w' : World} {b : Nat} {k : SpK} {s : Sp} (h : SpOk w b k s) (hb : Below w.heap.size w w') : SpOk w' b k s := by
  obtain ⟨⟨NA, nc, h1, h2, h3⟩, h4, h5⟩ := h
  exact ⟨⟨NA, nc, h1.next hb, h2.below hb, h3⟩, h4.below hb, h5⟩
def contP (l p : P5) : Bool := p.item == l.item && (decide (l.index < p.index) && (p.index - 1 == l.index))

set_option maxRecDepth 100000 in
set_option maxHeartbeats 2000000 in
theorem cont_any (b : Nat) (k : SpK) (s : Sp) (p : P5) (w : World) (h : SpOk w b k s) (h1 : -9223372036854775808 ≤ s.last.index) (h2 : p.index ≤ 9223372036854775807) :
    Calls Try.prog 42 #[.pointer (some ⟨b, 0, none⟩), p.val] w fun e w' => e = .returned (.bool (contP s.last p)) ∧ Below w.heap.size w w' := by
  obtain ⟨⟨NA, nc, hx, _, _⟩, _⟩ := h
  have c1 := hx.cell (i := 1) rfl
  have c2 := hx.cell (i := 2) rfl
  have hlt := hx.lt
  clear hx
  obtain ⟨fl, ⟨li, lx, ls, lk, la⟩, nn⟩ := s
  obtain ⟨it, ix, sz, ky, al⟩ := p
  simp only at h1 h2 c1 c2
  have b0 := Lib.hid (balloc w (.cells #[.int .i64 it, .int .i64 ix, .int .i64 sz, .bool ky, .bool al] 71))
  go_enter Try.func42, Try.ntmps42
  by_cases j1 : it = li
  · subst j1
    by_cases j2 : lx < ix
    · have wr1 : IntKind.i64.wrap (ix - 1) = ix - 1 := IntWalk.i64_in _ (by omega)
      go_upto_region 1 with (fail)
      go_quiet (fail)
      go_wp2_with fail
      go_ret
      exact ⟨by simp [contP, j2], below_drewN b0.out _⟩
    · go_upto_region 1 with (fail)
      go_quiet (fail)
      go_wp2_with fail
      go_ret
      exact ⟨by simp [contP]; omega, below_drewN b0.out _⟩
  · have j1' : (it == li) = false := by simpa using j1
    go_upto_region 1 with (fail)
    go_quiet (fail)
    go_wp2_with fail
    go_ret
    exact ⟨by simp [contP, j1], below_drewN b0.out _⟩
set_option maxRecDepth 100000 in
theorem full_any (b : Nat) (k : SpK) (s : Sp) (w : World) (h : SpOk w b k s) :
    Calls Try.prog 17 #[.pointer (some ⟨b, 0, none⟩)] w fun e w' => e = .returned (.int .i64 s.full) ∧ w = w' := by
  obtain ⟨⟨NA, nc, hx, _, _⟩, _⟩ := h
  have c0 := hx.cell (i := 0) rfl
  have c6 := hx.cell (i := 6) rfl
  have hlt := hx.lt
  clear hx
  go_enter Try.func17, Try.ntmps17
  go_wp2_with fail
  go_ret
  exact ⟨rfl, rfl⟩
set_option maxRecDepth 100000 in
theorem full_nil (w : World) :
    Calls Try.prog 17 #[.pointer none] w fun e w' => e = .returned (.int .i64 0) ∧ w = w' := by
  go_enter Try.func17, Try.ntmps17
  go_wp2_with fail
  go_ret
  exact ⟨rfl, rfl⟩
theorem grown_set {w : World} {b : Nat} (hb : b < w.heap.size) (i : Nat) (v : Value) : w.grownBy (w.setCell ⟨b, i, none⟩ v) (some b) :=
  ⟨rfl, rfl, rfl, by simp [World.setCell], fun k hk hne => Below.heap_setCell w ⟨b, i, none⟩ v k (fun e => hne (by rw [e]))⟩
theorem grown_trans {w v u : World} {b : Option Nat} (h : w.grownBy v b) (k : v.grownBy u b) : w.grownBy u b :=
  ⟨k.os.trans h.os, k.tape.trans h.tape, k.output.trans h.output, Nat.le_trans h.size k.size, fun j hj hne => (k.block j (Nat.lt_of_lt_of_le hj h.size) hne).trans (h.block j hj hne)⟩
theorem below_grown {w v : World} {b : Option Nat} (h : Below w.heap.size w v) : w.grownBy v b := ⟨h.os, h.tape, h.output, h.size, fun j hj _ => h.block j hj⟩
theorem SpOk.grown {w w' : World} {b : Nat} {k : SpK} {s s' : Sp} (h : SpOk w b k s) (hg : w.grownBy w' (some b)) (hn : s'.noted = s.noted) (hx : ∀ NA nc, Box w b 76 (spCells k s NA nc) → Box w' b 76 (spCells k s' NA nc)) : SpOk w' b k s' := by
  obtain ⟨⟨NA, nc, h1, h2, h3⟩, h4, h5, h6, h7, h8, h9⟩ := h
  refine ⟨⟨NA, nc, hx NA nc h1, ?_, h3⟩, h4.grown hg h5 h6, h5, h6, h7, h8, by rw [hn]; exact h9⟩
  rw [hn]
  exact h2.grown hg h3
abbrev Sp.shown (s : Sp) (p : P5) : Sp := ⟨(vstep s.full p.size).getD 0, p, s.noted⟩
set_option maxRecDepth 100000 in
set_option maxHeartbeats 2000000 in
theorem show_any (b : Nat) (k : SpK) (s : Sp) (p : P5) (w : World) (h : SpOk w b k s) :
    Calls Try.prog 32 #[.pointer (some ⟨b, 0, none⟩), p.val] w fun e w' => e = .returned (.tuple #[]) ∧ SpOk w' b k (s.shown p) ∧ w.grownBy w' (some b) := by
  have HS := Lib.hid h
  obtain ⟨⟨NA, nc, hx, hno, hoff⟩, _⟩ := h
  have HX := Lib.hid hx
  have c0 : w.cell? ⟨b, 0, none⟩ = some (.int .i64 s.full) := hx.cell (i := 0) rfl
  have c1 : w.cell? ⟨b, 1, none⟩ = some (.int .i64 s.last.item) := hx.cell (i := 1) rfl
  have c2 : w.cell? ⟨b, 2, none⟩ = some (.int .i64 s.last.index) := hx.cell (i := 2) rfl
  have c3 : w.cell? ⟨b, 3, none⟩ = some (.int .i64 s.last.size) := hx.cell (i := 3) rfl
  have c4 : w.cell? ⟨b, 4, none⟩ = some (.bool s.last.key) := hx.cell (i := 4) rfl
  have c5 : w.cell? ⟨b, 5, none⟩ = some (.bool s.last.alt) := hx.cell (i := 5) rfl
  have f0 := hx.frozen 0
  have f1 := hx.frozen 1
  have f2 := hx.frozen 2
  have f3 := hx.frozen 3
  have f4 := hx.frozen 4
  have f5 := hx.frozen 5
  have hlt := hx.lt
  clear hx
  obtain ⟨fl, ⟨li, lx, ls, lk, la⟩, nn⟩ := s
  obtain ⟨it, ix, sz, ky, al⟩ := p
  simp only at c0 c1 c2 c3 c4 c5
  have b0 := Lib.hid (balloc w (.cells #[.int .i64 it, .int .i64 ix, .int .i64 sz, .bool ky, .bool al] 71))
  have hne : b ≠ w.heap.size := by omega
  go_enter Try.func32, Try.ntmps32
  go_wp2_with fail
  go_region_with (go_at_call 45; refine (vbvStep_any _ _ _).mono ?_; rintro e w' ⟨rfl, rfl⟩; unfold pairV)
  all_goals
    go_wp2_with fail
    refine bodyPost_end (results_none rfl _ _ _) rfl ?_
    have g0 := grown_set hlt 0 (.int .i64 ((vstep fl sz).getD 0))
    have g1 := grown_trans g0 (grown_set (by simpa [World.setCell] using hlt) 1 (.int .i64 it))
    have g2 := grown_trans g1 (grown_set (by simpa [World.setCell] using hlt) 2 (.int .i64 ix))
    have g3 := grown_trans g2 (grown_set (by simpa [World.setCell] using hlt) 3 (.int .i64 sz))
    have g4 := grown_trans g3 (grown_set (by simpa [World.setCell] using hlt) 4 (.bool ky))
    have g5 := grown_trans g4 (grown_set (by simpa [World.setCell] using hlt) 5 (.bool al))
    have hs5 := HS.out.grown (s' := Sp.shown ⟨fl, ⟨li, lx, ls, lk, la⟩, nn⟩ ⟨it, ix, sz, ky, al⟩) g5 rfl (fun NA nc hx => by
      have := (((((hx.set (i := 0) (.int .i64 ((vstep fl sz).getD 0))).set (i := 1) (.int .i64 it)).set (i := 2) (.int .i64 ix)).set (i := 3) (.int .i64 sz)).set (i := 4) (.bool ky)).set (i := 5) (.bool al)
      simpa using this)
    exact ⟨rfl, hs5.below ((balloc _ _).drew), grown_trans g5 (below_grown ((balloc _ _).drew))⟩
end Go.Proofs.Ytpaepefpfaoacaa
