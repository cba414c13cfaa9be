/- Contracts of optout's Same and slices.Equal of alternatives. -/
import Derived.Test.YtgdjpaeclicdfaaDoorOptB
import Derived.Deep.QuietTactic
import Derived.BigQuiet
import Derived.Laws.StructEq
namespace Go.Proofs.YtgdjpaeclicdfaaDoor
open Go.ChangeShapes Go.WideShapes Go.ChangeAt Go.RowKit
set_option linter.unusedVariables false

theorem below_drewN {B : Nat} {a w : World} (h : Below B a w) (n : Nat) : Below B a (w.drewN n) := ⟨h.os, h.tape, h.output, h.size, h.block⟩
theorem dropEq_cons {al bl : Alts} {k : Nat} (h1 : k < al.length) (h2 : k < bl.length) :
    decide (al.drop k = bl.drop k) = (decide (al.getD k (0, 0) = bl.getD k (0, 0)) && decide (al.drop (k + 1) = bl.drop (k + 1))) := by
  rw [drop_pair h1, drop_pair h2]
  simp

set_option maxRecDepth 100000 in
set_option maxHeartbeats 2000000 in
theorem equal_any (A B : Option Addr) (n m c d : Nat) (al bl : Alts) (w : World) (ha : IsAlts w A n al) (hb : IsAlts w B m bl) (hm : n ≤ maxLen) :
    Calls Tryd.prog 62 #[.slice A n c, .slice B m d] w fun e w' => e = .returned (.bool (decide (al = bl))) ∧ Below w.heap.size w w' := by
  have HA := Lib.hid ha
  have HB := Lib.hid hb
  have hl := ha.1
  have hl' := hb.1
  have hm' : n ≤ 9223372036854775807 := hm
  clear ha hb
  go_enter Tryd.func62, Tryd.ntmps62
  by_cases hnm : n = m
  · subst hnm
    go_wp2_with fail
    go_loopw [13] (fun i wr => ∃ (k : Nat), k ≤ n ∧ i = .int .i64 k ∧ decide (al = bl) = decide (al.drop k = bl.drop k) ∧ Below w.heap.size w wr) (fun i _ => n - (intOf i).toNat)
    case atStart => exact ⟨0, Nat.zero_le _, rfl, rfl, Below.refl _ _⟩
    case round =>
      obtain ⟨k, hk, rfl, hst, hB⟩ := hrel
      have HST := Lib.hid hst
      clear hst
      by_cases hlt : k < n
      · obtain ⟨b, off, rfl, hbl, ca, cb⟩ := (HA.out.below hB).at_ hlt
        obtain ⟨b', off', rfl, hbl', ca', cb'⟩ := (HB.out.below hB).at_ hlt
        rw [dropEq_cons (by omega) (by omega)] at HST
        generalize al.getD k (0, 0) = x at *
        generalize bl.getD k (0, 0) = y at *
        obtain ⟨x1, x2⟩ := x
        obtain ⟨y1, y2⟩ := y
        simp only at ca cb ca' cb'
        by_cases h1 : x1 = y1
        · subst h1
          by_cases h2 : x2 = y2
          · subst h2
            go_upto_region 6 with (fail)
            go_quiet (fail)
            go_wp2_with fail
            go_roundw
            case rel => exact ⟨k + 1, by omega, by go_num, by rw [HST.out]; simp, below_drewN hB _⟩
            case measure => simp [intOf]; omega
          · have h2' : (x2 == y2) = false := by simpa using h2
            go_upto_region 6 with (fail)
            go_quiet (fail)
            go_wp2_with fail
            go_ret
            exact ⟨by rw [HST.out]; simp [h2], below_drewN hB _⟩
        · have h1' : (x1 == y1) = false := by simpa using h1
          go_upto_region 6 with (fail)
          go_quiet (fail)
          go_wp2_with fail
          go_ret
          exact ⟨by rw [HST.out]; simp [h1], below_drewN hB _⟩
      · go_wp2_with fail
        go_ret
        exact ⟨by rw [HST.out, List.drop_of_length_le (by omega), List.drop_of_length_le (by omega)]; rfl, hB⟩
  · have h' : ((n : Int) == (m : Int)) = false := by simp; omega
    go_wp2_with fail
    go_ret
    refine ⟨?_, Below.refl _ _⟩
    have : al ≠ bl := fun e => hnm (by rw [← hl, ← hl', e])
    simp [this]

def sameP (s f : Int) (al : Alts) (t g : Int) (bl : Alts) : Bool := s == t && (f == g && decide (al = bl))
set_option maxRecDepth 100000 in
set_option maxHeartbeats 2000000 in
theorem same_any (s f : Int) (A : Option Addr) (n c : Nat) (al : Alts) (t g : Int) (B : Option Addr) (m d : Nat) (bl : Alts) (w : World) (ha : IsAlts w A n al) (hb : IsAlts w B m bl) (hm : n ≤ maxLen) :
    Calls Tryd.prog 38 #[optV s f A n c, optV t g B m d] w fun e w' => e = .returned (.bool (sameP s f al t g bl)) ∧ Below w.heap.size w w' := by
  have HA := Lib.hid ha
  have HB := Lib.hid hb
  have b0 := balloc w (.cells #[.int .i64 s, .int .i64 f, .slice A n c] 26)
  have b1 := Lib.hid (b0.alloc b0.size (.cells #[.int .i64 t, .int .i64 g, .slice B m d] 26))
  clear ha hb b0
  go_enter Tryd.func38, Tryd.ntmps38
  by_cases h1 : s = t
  · subst h1
    by_cases h2 : f = g
    · subst h2
      go_wp2_with fail
      refine (equal_any A B n m c d al bl _ (HA.out.below b1.out) (HB.out.below b1.out) hm).mono ?_
      rintro e w1 ⟨rfl, b2⟩
      go_wp2_with fail
      go_ret
      exact ⟨by simp [sameP], bnext b1.out b2⟩
    · have h2' : (f == g) = false := by simpa using h2
      go_wp2_with fail
      go_ret
      exact ⟨by simp [sameP, h2], b1.out⟩
  · have h1' : (s == t) = false := by simpa using h1
    go_wp2_with fail
    go_ret
    exact ⟨by simp [sameP, h1], b1.out⟩
end Go.Proofs.YtgdjpaeclicdfaaDoor
