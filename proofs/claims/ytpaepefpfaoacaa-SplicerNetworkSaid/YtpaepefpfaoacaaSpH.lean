/- Units; contracts of the closures over notes, and of ContainsFunc with each. -/
import Derived.Test.YtpaepefpfaoacaaSpG
namespace Go.Proofs.Ytpaepefpfaoacaa
open Go.ChangeShapes Go.WideShapes Go.ChangeAt Go.RowKit
set_option linter.unusedVariables false

/-- A unit as it lies in memory. -/
structure UnitA where
  channel : Int
  frame : Int
  version : Int
  item : Int
  index : Int
  key : Bool
  data : ByteArray
  regions : Int
  gain : Int
  caption : ByteArray
  os : Int
  of : Int
  A : Option Addr
  c : Nat
  al : Alts
abbrev UnitA.cells (u : UnitA) : Array Value := #[.int .i64 u.channel, .int .i64 u.frame, .int .i64 u.version, .int .i64 u.item, .int .i64 u.index, .bool u.key, .string u.data, .int .i64 u.regions, .int .i64 u.gain, .string u.caption, .int .i64 u.os, .int .i64 u.of, .slice u.A u.al.length u.c]
abbrev UnitA.val (u : UnitA) : Value := .agg u.cells
def UnitA.bd (u : UnitA) : Prop := (-9223372036854775808 ≤ u.frame ∧ u.frame ≤ 9223372036854775807) ∧ (-9223372036854775808 ≤ u.index ∧ u.index ≤ 9223372036854775807) ∧ (-9223372036854775808 ≤ u.os ∧ u.os ≤ 9223372036854775807) ∧ (-9223372036854775808 ≤ u.of ∧ u.of ≤ 9223372036854775807)
def UnitA.ok (u : UnitA) (w : World) : Prop := IsAlts w u.A u.al.length u.al ∧ u.al.length ≤ maxLen ∧ u.bd
def Note.same (s it : Int) (n : Note) : Bool := n.start == s && n.item == it
def Note.known (f : Int) (n : Note) : Bool := decide (n.frame ≤ f) && decide (10 ≤ f - n.frame)
set_option maxRecDepth 100000 in
theorem note1_any (n : Note) (s it : Int) (q r : Nat) (w : World) (hq : w.cell? ⟨q, 10, none⟩ = some (.int .i64 s)) (hr : w.cell? ⟨r, 0, none⟩ = some (.int .i64 it)) :
    Calls Try.prog 37 #[.agg #[.int .i64 n.start, .int .i64 n.item, .int .i64 n.frame], .pointer (some ⟨q, 0, none⟩), .pointer (some ⟨r, 0, none⟩)] w fun e w' => e = .returned (.bool (n.same s it)) ∧ Below w.heap.size w w' := by
  obtain ⟨ns, ni, nf⟩ := n
  have b0 := Lib.hid (balloc w (.cells #[.int .i64 ns, .int .i64 ni, .int .i64 nf] 94))
  have hql := World.block_lt_of_cell? w _ hq
  have hrl := World.block_lt_of_cell? w _ hr
  simp only at hql hrl
  go_enter Try.func37, Try.ntmps37
  by_cases h : ns = s
  · subst h
    go_wp2_with fail
    go_ret
    exact ⟨by simp [Note.same], b0.out⟩
  · have h' : (ns == s) = false := by simpa using h
    go_wp2_with fail
    go_ret
    exact ⟨by simp [Note.same, h], b0.out⟩
set_option maxRecDepth 100000 in
theorem alt1_any (n : Note) (f : Int) (q : Nat) (w : World) (hq : w.cell? ⟨q, 1, none⟩ = some (.int .i64 f)) (h1 : -9223372036854775808 ≤ n.frame) (h2 : f ≤ 9223372036854775807) :
    Calls Try.prog 44 #[.agg #[.int .i64 n.start, .int .i64 n.item, .int .i64 n.frame], .pointer (some ⟨q, 0, none⟩)] w fun e w' => e = .returned (.bool (n.known f)) ∧ Below w.heap.size w w' := by
  obtain ⟨ns, ni, nf⟩ := n
  simp only at h1
  have b0 := Lib.hid (balloc w (.cells #[.int .i64 ns, .int .i64 ni, .int .i64 nf] 94))
  have hql := World.block_lt_of_cell? w _ hq
  simp only at hql
  go_enter Try.func44, Try.ntmps44
  by_cases h : nf ≤ f
  · go_wp2_with (go_at_call 39; refine (dist_any nf f _ h h1 h2).mono ?_; rintro e w' ⟨rfl, rfl⟩)
    go_ret
    exact ⟨by simp [Note.known, h], b0.out⟩
  · go_wp2_with fail
    go_ret
    exact ⟨by simp [Note.known]; omega, b0.out⟩
def noteZ : Note := ⟨0, 0, 0⟩
abbrev IsNotes (w : World) (A : Option Addr) (n : Nat) (l : List Note) : Prop := IsRow 3 Note.cells w A n l
theorem IsNotes.get {w : World} {A : Option Addr} {n : Nat} {l : List Note} (h : IsNotes w A n l) {i : Nat} (hi : i < n) :
    ∃ b off, A = some ⟨b, off, none⟩ ∧ b < w.heap.size ∧ w.cell? ⟨b, off + i * 3, none⟩ = some (.int .i64 (l.getD i noteZ).start) ∧ w.cell? ⟨b, off + i * 3 + 1, none⟩ = some (.int .i64 (l.getD i noteZ).item) ∧ w.cell? ⟨b, off + i * 3 + 2, none⟩ = some (.int .i64 (l.getD i noteZ).frame) ∧ l.getD i noteZ ∈ l := by
  obtain ⟨b, off, e, rfl, hb, he, hc⟩ := IsRow.at_ Note.cells_size h hi
  have hm : e ∈ l := List.mem_of_getElem? he
  rw [show l.getD i noteZ = e by simp [List.getD, he]]
  exact ⟨b, off, rfl, hb, hc 0 _ rfl, hc 1 _ rfl, hc 2 _ rfl, hm⟩
set_option maxRecDepth 100000 in
set_option maxHeartbeats 2000000 in
theorem idxN_same (A : Option Addr) (n c : Nat) (l : List Note) (s it : Int) (q r : Nat) (w : World) (h : IsNotes w A n l) (hm : n ≤ maxLen) (hq : w.cell? ⟨q, 10, none⟩ = some (.int .i64 s)) (hr : w.cell? ⟨r, 0, none⟩ = some (.int .i64 it)) :
    Calls Try.prog 48 #[.slice A n c, .func (.func 37) #[] #[.pointer (some ⟨q, 0, none⟩), .pointer (some ⟨r, 0, none⟩)]] w fun e w' =>
      ((e = .returned (.int .i64 (-1)) ∧ l.any (Note.same s it) = false) ∨ ∃ k, k < n ∧ e = .returned (.int .i64 (k : Nat)) ∧ l.any (Note.same s it) = true) ∧ Below w.heap.size w w' := by
  have HQ := Lib.hid hq
  have HR := Lib.hid hr
  have hql := World.block_lt_of_cell? w _ hq
  have hrl := World.block_lt_of_cell? w _ hr
  simp only at hql hrl
  clear hq hr
  have H := Lib.hid h
  have hl := h.1
  have hm' : n ≤ 9223372036854775807 := hm
  clear h
  go_enter Try.func48, Try.ntmps48
  go_wp2_with fail
  go_loopw [8] (fun i wr => ∃ (j : Nat), j ≤ n ∧ i = .int .i64 j ∧ l.any (Note.same s it) = (l.drop j).any (Note.same s it) ∧ Below w.heap.size w wr) (fun i _ => n - (intOf i).toNat)
  case atStart => exact ⟨0, Nat.zero_le _, rfl, rfl, Below.refl _ _⟩
  case round =>
    obtain ⟨j, hj, rfl, hst, hB⟩ := hrel
    have HST := Lib.hid hst
    clear hst
    by_cases hlt : j < n
    · obtain ⟨b, off, rfl, hbl, ca, cb, cd, hmem⟩ := IsNotes.get (IsRow.below H.out hB) hlt
      rw [drop_at (d := noteZ) (by omega)] at HST
      generalize l.getD j noteZ = x at *
      have hcl := note1_any x s it q r wr ((hB.cell (p := ⟨q, 10, none⟩) hql).trans HQ.out) ((hB.cell (p := ⟨r, 0, none⟩) hrl).trans HR.out)
      have HCL := Lib.hid hcl
      clear hcl
      cases hx : (Note.same s it) x with
      | true =>
        rw [hx] at HCL
        have HX := Lib.hid hx
        clear hx
        go_wp2_with (go_at_call 37; refine HCL.out.mono ?_; rintro e w2 ⟨rfl, b2⟩)
        go_ret
        exact ⟨.inr ⟨j, hlt, rfl, by rw [HST.out]; simp [HX.out]⟩, bnext hB b2⟩
      | false =>
        rw [hx] at HCL
        have HX := Lib.hid hx
        clear hx
        go_wp2_with (go_at_call 37; refine HCL.out.mono ?_; rintro e w2 ⟨rfl, b2⟩)
        go_roundw
        case rel => exact ⟨j + 1, by omega, by go_num, by rw [HST.out]; simp [HX.out], bnext hB b2⟩
        case measure => simp [intOf]; omega
    · go_wp2_with fail
      go_ret
      exact ⟨.inl ⟨rfl, by rw [HST.out, List.drop_of_length_le (by omega)]; rfl⟩, hB⟩
set_option maxRecDepth 100000 in
set_option maxHeartbeats 2000000 in
theorem idxN_known (A : Option Addr) (n c : Nat) (l : List Note) (f : Int) (q : Nat) (w : World) (h : IsNotes w A n l) (hm : n ≤ maxLen) (hq : w.cell? ⟨q, 1, none⟩ = some (.int .i64 f)) (h1 : ∀ n ∈ l, -9223372036854775808 ≤ n.frame) (h2 : f ≤ 9223372036854775807) :
    Calls Try.prog 48 #[.slice A n c, .func (.func 44) #[] #[.pointer (some ⟨q, 0, none⟩)]] w fun e w' =>
      ((e = .returned (.int .i64 (-1)) ∧ l.any (Note.known f) = false) ∨ ∃ k, k < n ∧ e = .returned (.int .i64 (k : Nat)) ∧ l.any (Note.known f) = true) ∧ Below w.heap.size w w' := by
  have HQ := Lib.hid hq
  have H1 := Lib.hid h1
  have hql := World.block_lt_of_cell? w _ hq
  simp only at hql
  clear hq h1
  have H := Lib.hid h
  have hl := h.1
  have hm' : n ≤ 9223372036854775807 := hm
  clear h
  go_enter Try.func48, Try.ntmps48
  go_wp2_with fail
  go_loopw [8] (fun i wr => ∃ (j : Nat), j ≤ n ∧ i = .int .i64 j ∧ l.any (Note.known f) = (l.drop j).any (Note.known f) ∧ Below w.heap.size w wr) (fun i _ => n - (intOf i).toNat)
  case atStart => exact ⟨0, Nat.zero_le _, rfl, rfl, Below.refl _ _⟩
  case round =>
    obtain ⟨j, hj, rfl, hst, hB⟩ := hrel
    have HST := Lib.hid hst
    clear hst
    by_cases hlt : j < n
    · obtain ⟨b, off, rfl, hbl, ca, cb, cd, hmem⟩ := IsNotes.get (IsRow.below H.out hB) hlt
      rw [drop_at (d := noteZ) (by omega)] at HST
      generalize l.getD j noteZ = x at *
      have hcl := alt1_any x f q wr ((hB.cell (p := ⟨q, 1, none⟩) hql).trans HQ.out) (H1.out _ hmem) h2
      have HCL := Lib.hid hcl
      clear hcl
      cases hx : (Note.known f) x with
      | true =>
        rw [hx] at HCL
        have HX := Lib.hid hx
        clear hx
        go_wp2_with (go_at_call 44; refine HCL.out.mono ?_; rintro e w2 ⟨rfl, b2⟩)
        go_ret
        exact ⟨.inr ⟨j, hlt, rfl, by rw [HST.out]; simp [HX.out]⟩, bnext hB b2⟩
      | false =>
        rw [hx] at HCL
        have HX := Lib.hid hx
        clear hx
        go_wp2_with (go_at_call 44; refine HCL.out.mono ?_; rintro e w2 ⟨rfl, b2⟩)
        go_roundw
        case rel => exact ⟨j + 1, by omega, by go_num, by rw [HST.out]; simp [HX.out], bnext hB b2⟩
        case measure => simp [intOf]; omega
    · go_wp2_with fail
      go_ret
      exact ⟨.inl ⟨rfl, by rw [HST.out, List.drop_of_length_le (by omega)]; rfl⟩, hB⟩
set_option maxRecDepth 100000 in
theorem hasN_same (A : Option Addr) (n c : Nat) (l : List Note) (s it : Int) (q r : Nat) (w : World) (h : IsNotes w A n l) (hm : n ≤ maxLen) (hq : w.cell? ⟨q, 10, none⟩ = some (.int .i64 s)) (hr : w.cell? ⟨r, 0, none⟩ = some (.int .i64 it)) :
    Calls Try.prog 38 #[.slice A n c, .func (.func 37) #[] #[.pointer (some ⟨q, 0, none⟩), .pointer (some ⟨r, 0, none⟩)]] w fun e w' => e = .returned (.bool (l.any (Note.same s it))) ∧ Below w.heap.size w w' := by
  have HC := Lib.hid (idxN_same A n c l s it q r w h hm hq hr)
  go_enter Try.func38, Try.ntmps38
  go_wp2_with fail
  refine HC.out.mono ?_
  rintro e w1 ⟨hr, b1⟩
  rcases hr with ⟨rfl, hr⟩ | ⟨j, hj, rfl, hr⟩
  · have HR := Lib.hid hr
    clear hr
    go_wp2_with fail
    go_ret
    exact ⟨by rw [HR.out]; rfl, b1⟩
  · have HR := Lib.hid hr
    clear hr
    go_wp2_with fail
    go_ret
    exact ⟨by rw [HR.out]; rfl, b1⟩
set_option maxRecDepth 100000 in
theorem hasN_known (A : Option Addr) (n c : Nat) (l : List Note) (f : Int) (q : Nat) (w : World) (h : IsNotes w A n l) (hm : n ≤ maxLen) (hq : w.cell? ⟨q, 1, none⟩ = some (.int .i64 f)) (h1 : ∀ n ∈ l, -9223372036854775808 ≤ n.frame) (h2 : f ≤ 9223372036854775807) :
    Calls Try.prog 38 #[.slice A n c, .func (.func 44) #[] #[.pointer (some ⟨q, 0, none⟩)]] w fun e w' => e = .returned (.bool (l.any (Note.known f))) ∧ Below w.heap.size w w' := by
  have HC := Lib.hid (idxN_known A n c l f q w h hm hq h1 h2)
  go_enter Try.func38, Try.ntmps38
  go_wp2_with fail
  refine HC.out.mono ?_
  rintro e w1 ⟨hr, b1⟩
  rcases hr with ⟨rfl, hr⟩ | ⟨j, hj, rfl, hr⟩
  · have HR := Lib.hid hr
    clear hr
    go_wp2_with fail
    go_ret
    exact ⟨by rw [HR.out]; rfl, b1⟩
  · have HR := Lib.hid hr
    clear hr
    go_wp2_with fail
    go_ret
    exact ⟨by rw [HR.out]; rfl, b1⟩
end Go.Proofs.Ytpaepefpfaoacaa
