/- Contracts of optout's none, Valid, Item. -/
import Derived.Test.YtgdjpaeclicdfaaDoorBase2
namespace Go.Proofs.YtgdjpaeclicdfaaDoor
open Go.ChangeShapes Go.WideShapes Go.ChangeAt Go.RowKit
set_option linter.unusedVariables false

/-! ### Plain -/
abbrev Alts := List (Int × Int)
abbrev optV (s f : Int) (A : Option Addr) (n c : Nat) : Value := .agg #[.int .i64 s, .int .i64 f, .slice A n c]
def noneP (s f : Int) (al : Alts) : Bool := s == 0 && (f == 0 && ((al.length : Int) == 0))
def altBad (last : Int) (a : Int × Int) : Bool := decide (a.1 ≤ last) || (decide (7 < a.1) || (decide (a.2 < 1) || decide (1000000 < a.2)))
def altsOk (last : Int) : Alts → Bool
  | [] => true
  | a :: l => !altBad last a && altsOk a.1 l
def spanBad (s f : Int) : Bool := decide (s < 0) || (decide (100000000 < s) || (decide (f < 1) || decide (100000000 < f)))
def validP (s f : Int) (al : Alts) : Bool :=
  noneP s f al || (!spanBad s f && (!(decide (al.length < 1) || decide (7 < al.length)) && altsOk 0 al))
def itemP (r : Int) : Alts → Option Int
  | [] => none
  | a :: l => if a.1 = r then some a.2 else itemP r l

theorem drop_pair {al : Alts} {k : Nat} (hk : k < al.length) : al.drop k = al.getD k (0, 0) :: al.drop (k + 1) := by
  rw [List.drop_eq_getElem_cons hk]
  simp [List.getD, List.getElem?_eq_getElem hk]

set_option maxRecDepth 100000 in
theorem none_any (s f : Int) (A : Option Addr) (n c : Nat) (al : Alts) (w : World) (hl : al.length = n) :
    Calls Tryd.prog 61 #[optV s f A n c] w fun e w' => e = .returned (.bool (noneP s f al)) ∧ Below w.heap.size w w' := by
  unfold noneP
  rw [hl]
  have b0 := Lib.hid (balloc w (.cells #[.int .i64 s, .int .i64 f, .slice A n c] 26))
  go_enter Tryd.func61, Tryd.ntmps61
  by_cases h1 : s = 0
  · subst h1
    by_cases h2 : f = 0
    · subst h2
      go_wp2
      all_goals (go_ret; exact ⟨by simp, b0.out⟩)
    · have h2' : (f == 0) = false := by simpa using h2
      go_wp2
      all_goals (go_ret; exact ⟨by simp [h2], b0.out⟩)
  · have h1' : (s == 0) = false := by simpa using h1
    go_wp2
    all_goals (go_ret; exact ⟨by simp [h1], b0.out⟩)

theorem le_of_not {a b : Int} (h : ¬ a ≤ b) : decide (a ≤ b) = false := by simpa using h

set_option maxRecDepth 100000 in
set_option maxHeartbeats 2000000 in
theorem valid_any (s f : Int) (A : Option Addr) (n c : Nat) (al : Alts) (w : World) (h : IsAlts w A n al) :
    Calls Tryd.prog 36 #[optV s f A n c] w fun e w' => e = .returned (.bool (validP s f al)) ∧ Below w.heap.size w w' := by
  have b0 := Lib.hid (balloc w (.cells #[.int .i64 s, .int .i64 f, .slice A n c] 26))
  have H := Lib.hid h
  have hl := h.1
  have HV := Lib.hid (rfl : validP s f al = validP s f al)
  clear h
  go_enter Tryd.func36, Tryd.ntmps36
  go_wp2_with fail
  refine (none_any s f A n c al _ hl).mono ?_
  rintro e w1 ⟨rfl, b1⟩
  have B1 := Lib.hid (bnext b0.out b1)
  have hbox := (Box.new w 26 #[.int .i64 s, .int .i64 f, .slice A n c]).next b1
  have hc0 := hbox.cell (i := 0) rfl
  have hc1 := hbox.cell (i := 1) rfl
  have hc2 := hbox.cell (i := 2) rfl
  clear hbox
  by_cases hn : noneP s f al = true
  · go_wp2_with fail
    go_ret
    exact ⟨by simp [validP, hn], B1.out⟩
  have hn' : noneP s f al = false := by simpa using hn
  have HN := Lib.hid hn'
  rw [hn']
  clear hn hn'
  by_cases h1 : s < 0
  · go_wp2_with fail
    go_ret
    exact ⟨by simp [validP, HN.out, spanBad, h1], B1.out⟩
  by_cases h2 : 100000000 < s
  · go_wp2_with fail
    go_ret
    exact ⟨by simp [validP, HN.out, spanBad, h2], B1.out⟩
  by_cases h3 : f < 1
  · go_wp2_with fail
    go_ret
    exact ⟨by simp [validP, HN.out, spanBad, h3], B1.out⟩
  by_cases h4 : 100000000 < f
  · go_wp2_with fail
    go_ret
    exact ⟨by simp [validP, HN.out, spanBad, h4], B1.out⟩
  by_cases h5 : n < 1
  · go_wp2_with fail
    go_ret
    exact ⟨by simp [validP, HN.out, hl, h5], B1.out⟩
  by_cases h6 : 7 < n
  · go_wp2_with fail
    go_ret
    exact ⟨by simp [validP, HN.out, hl, h6], B1.out⟩
  have HV := Lib.hid (show validP s f al = altsOk 0 al by simp [validP, HN.out, spanBad, hl, h1, h2, h3, h4, h5, h6])
  go_wp2_with fail
  go_loopw [3, 39] (fun l i wr => ∃ (k : Nat) (last : Int), k ≤ n ∧ i = .int .i64 k ∧ l = .int .i64 last ∧ altsOk 0 al = altsOk last (al.drop k) ∧ Below w.heap.size w wr) (fun _ i _ => n - (intOf i).toNat)
  case atStart => exact ⟨0, 0, Nat.zero_le _, rfl, rfl, rfl, B1.out⟩
  case round =>
    obtain ⟨k, last, hk, rfl, rfl, hst, hB⟩ := hrel
    have HST := Lib.hid hst
    clear hst
    by_cases hlt : k < n
    · obtain ⟨b, off, rfl, hbl, ca, cb⟩ := (H.out.below hB).at_ hlt
      rw [drop_pair (by omega)] at HST
      generalize al.getD k (0, 0) = a at *
      obtain ⟨r, i⟩ := a
      simp only at ca cb
      by_cases j1 : r ≤ last
      · go_wp2_with fail
        go_ret
        exact ⟨by rw [HV.out, HST.out]; simp [altsOk, altBad, j1], (hB.alloc hB.size _)⟩
      by_cases j2 : 7 < r
      · go_wp2_with fail
        go_ret
        exact ⟨by rw [HV.out, HST.out]; simp [altsOk, altBad, j2], (hB.alloc hB.size _)⟩
      by_cases j3 : i < 1
      · go_wp2_with fail
        go_ret
        exact ⟨by rw [HV.out, HST.out]; simp [altsOk, altBad, j3], (hB.alloc hB.size _)⟩
      by_cases j4 : 1000000 < i
      · go_wp2_with fail
        go_ret
        exact ⟨by rw [HV.out, HST.out]; simp [altsOk, altBad, j4], (hB.alloc hB.size _)⟩
      go_wp2_with fail
      go_roundw
      case rel => exact ⟨k + 1, r, by omega, by go_num, rfl, by rw [HST.out]; simp [altsOk, altBad, j1, j2, j3, j4], (hB.alloc hB.size _)⟩
      case measure => simp [intOf]; omega
    · go_wp2_with fail
      go_ret
      exact ⟨by rw [HV.out, HST.out, List.drop_of_length_le (by omega)]; rfl, hB⟩

end Go.Proofs.YtgdjpaeclicdfaaDoor
