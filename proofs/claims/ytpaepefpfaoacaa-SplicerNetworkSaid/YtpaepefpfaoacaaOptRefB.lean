/- Contracts of the reference of chapter 17: Item, Valid, Same, placed, of. -/
import Derived.Test.YtpaepefpfaoacaaOptRef
namespace Go.Proofs.Ytpaepefpfaoacaa
open Go.ChangeShapes Go.WideShapes Go.ChangeAt Go.RowKit
set_option linter.unusedVariables false

theorem altsOk_len {al : Alts} : ∀ {last : Int}, 0 ≤ last → altsOk last al = true → al = [] ∨ (al.length : Int) + last ≤ 7 := by
  induction al with
  | nil => intro last _ _; exact .inl rfl
  | cons a al ih =>
    intro last hl h
    simp only [altsOk, altBad, Bool.and_eq_true, Bool.not_eq_true', Bool.or_eq_false_iff, decide_eq_false_iff_not] at h
    obtain ⟨⟨h1, h2, h3, h4⟩, h5⟩ := h
    refine .inr ?_
    rcases ih (by omega) h5 with rfl | h
    · simp; omega
    · simp only [List.length_cons]; omega
theorem valid_ref (s f : Int) (al : Alts) : validP s f al = (noneP s f al || (!spanBad s f && (!decide (al.length < 1) && altsOk 0 al))) := by
  unfold validP
  by_cases h : altsOk 0 al = true
  · have h7 : ¬ 7 < al.length := by
      rcases altsOk_len (Int.le_refl _) h with rfl | h
      · simp
      · omega
    simp [h, h7]
  · have h' : altsOk 0 al = false := by simpa using h
    simp [h']
set_option maxRecDepth 100000 in
set_option maxHeartbeats 2000000 in
theorem ritem_any (s f : Int) (A : Option Addr) (n c : Nat) (al : Alts) (r : Int) (w : World) (h : IsAlts w A n al) (hm : n ≤ maxLen) :
    Calls Try.prog 18 #[optV s f A n c, .int .i64 r] w fun e w' => e = .returned (.tuple #[.int .i64 ((itemP r al).getD 0), .bool (itemP r al).isSome]) ∧ Below w.heap.size w w' := by
  have b0 := Lib.hid (balloc w (.cells #[.int .i64 s, .int .i64 f, .slice A n c] 44))
  have H := Lib.hid h
  have hl := h.1
  have hm' : n ≤ 9223372036854775807 := hm
  clear h
  go_enter Try.func18, Try.ntmps18
  go_wp2_with fail
  go_loop [6] (fun i => ∃ (k : Nat), k ≤ n ∧ i = .int .i64 k ∧ itemP r al = itemP r (al.drop k)) (fun i => n - (intOf i).toNat)
  case atStart => exact ⟨0, Nat.zero_le _, rfl, rfl⟩
  case round =>
    obtain ⟨k, hk, rfl, hst⟩ := hrel
    have HST := Lib.hid hst
    clear hst
    by_cases hlt : k < n
    · obtain ⟨b, off, rfl, hbl, ca, cb⟩ := H.out.at_ hlt
      rw [drop_pair (by omega)] at HST
      generalize al.getD k (0, 0) = a at *
      obtain ⟨x, i⟩ := a
      simp only at ca cb
      by_cases j1 : x = r
      · subst j1
        go_wp2_with fail
        go_ret2
        exact ⟨by rw [HST.out]; simp [itemP], b0.out⟩
      have j1' : (x == r) = false := by simpa using j1
      go_wp2_with fail
      go_round
      case rel => exact ⟨k + 1, by omega, by go_num, by rw [HST.out]; simp [itemP, j1]⟩
      case measure => simp [intOf]; omega
    · go_wp2_with fail
      go_ret2
      exact ⟨by rw [HST.out, List.drop_of_length_le (by omega)]; rfl, b0.out⟩
set_option maxRecDepth 100000 in
set_option maxHeartbeats 2000000 in
theorem rvalid_any (s f : Int) (A : Option Addr) (n c : Nat) (al : Alts) (w : World) (h : IsAlts w A n al) (hm : n ≤ maxLen) :
    Calls Try.prog 53 #[optV s f A n c] w fun e w' => e = .returned (.bool (validP s f al)) ∧ Below w.heap.size w w' := by
  have b0 := Lib.hid (balloc w (.cells #[.int .i64 s, .int .i64 f, .slice A n c] 44))
  have H := Lib.hid h
  have hl := h.1
  have hm' : n ≤ 9223372036854775807 := hm
  have HV := Lib.hid (valid_ref s f al)
  clear h
  go_enter Try.func53, Try.ntmps53
  by_cases hn : noneP s f al = true
  · have hn2 := hn
    simp only [noneP, Bool.and_eq_true, beq_iff_eq] at hn2
    obtain ⟨rfl, rfl, h0⟩ := hn2
    obtain rfl : n = 0 := by omega
    go_wp2_with fail
    go_ret
    exact ⟨by simp [validP, hn], b0.out⟩
  have hn' : noneP s f al = false := by simpa using hn
  have HN := Lib.hid hn'
  have hcase : (s == 0) = false ∨ (s = 0 ∧ ((f == 0) = false ∨ (f = 0 ∧ ((n : Int) == 0) = false))) := by
    simp only [noneP, hl] at hn'
    by_cases e1 : s = 0
    · by_cases e2 : f = 0
      · subst e1; subst e2; right; refine ⟨rfl, .inr ⟨rfl, by simpa using hn'⟩⟩
      · exact .inr ⟨e1, .inl (by simpa using e2)⟩
    · exact .inl (by simpa using e1)
  clear hn hn'
  rcases hcase with hc1 | ⟨rfl, hc2 | ⟨rfl, hc3⟩⟩
  · by_cases h1 : s < 0
    · go_wp2_with fail
      go_ret
      exact ⟨by rw [HV.out]; simp [HN.out, spanBad, hl, h1], b0.out⟩
    by_cases h2 : 100000000 < s
    · go_wp2_with fail
      go_ret
      exact ⟨by rw [HV.out]; simp [HN.out, spanBad, hl, h2], b0.out⟩
    by_cases h3 : f < 1
    · go_wp2_with fail
      go_ret
      exact ⟨by rw [HV.out]; simp [HN.out, spanBad, hl, h3], b0.out⟩
    by_cases h4 : 100000000 < f
    · go_wp2_with fail
      go_ret
      exact ⟨by rw [HV.out]; simp [HN.out, spanBad, hl, h4], b0.out⟩
    by_cases h5 : n < 1
    · go_wp2_with fail
      go_ret
      exact ⟨by rw [HV.out]; simp [HN.out, spanBad, hl, h5], b0.out⟩
    have HW := Lib.hid (show validP s f al = altsOk 0 al by rw [HV.out]; simp [HN.out, spanBad, hl, h1, h2, h3, h4, h5])
    go_wp2_with fail
    go_loopw [3, 4] (fun l i wr => ∃ (k : Nat) (last : Int), k ≤ n ∧ i = .int .i64 k ∧ l = .int .i64 last ∧ altsOk 0 al = altsOk last (al.drop k) ∧ Below w.heap.size w wr ∧ Box wr w.heap.size 44 #[.int .i64 s, .int .i64 f, .slice A n c]) (fun _ i _ => n - (intOf i).toNat)
    case atStart => exact ⟨0, 0, Nat.zero_le _, rfl, rfl, rfl, b0.out, Box.new _ _ _⟩
    case round =>
      obtain ⟨k, last, hk, rfl, rfl, hst, hB, hx⟩ := hrel
      have HST := Lib.hid hst
      have HX := Lib.hid hx
      have c0 := hx.cell (i := 2) rfl
      have hlx := hx.lt
      clear hst hx
      by_cases hlt : k < n
      · obtain ⟨b, off, rfl, hbl, ca, cb⟩ := (H.out.below hB).at_ hlt
        rw [drop_pair (by omega)] at HST
        generalize al.getD k (0, 0) = a at *
        obtain ⟨r, i⟩ := a
        simp only at ca cb
        by_cases j1 : r ≤ last
        · go_wp2_with fail
          go_ret
          exact ⟨by rw [HW.out, HST.out]; simp [altsOk, altBad, j1], (hB.alloc hB.size _)⟩
        by_cases j2 : 7 < r
        · go_wp2_with fail
          go_ret
          exact ⟨by rw [HW.out, HST.out]; simp [altsOk, altBad, j2], (hB.alloc hB.size _)⟩
        by_cases j3 : i < 1
        · go_wp2_with fail
          go_ret
          exact ⟨by rw [HW.out, HST.out]; simp [altsOk, altBad, j3], (hB.alloc hB.size _)⟩
        by_cases j4 : 1000000 < i
        · go_wp2_with fail
          go_ret
          exact ⟨by rw [HW.out, HST.out]; simp [altsOk, altBad, j4], (hB.alloc hB.size _)⟩
        go_wp2_with fail
        go_roundw
        case rel => exact ⟨k + 1, r, by omega, by go_num, rfl, by rw [HST.out]; simp [altsOk, altBad, j1, j2, j3, j4], (hB.alloc hB.size _), HX.out.next (balloc _ _)⟩
        case measure => simp [intOf]; omega
      · go_wp2_with fail
        go_ret
        exact ⟨by rw [HW.out, HST.out, List.drop_of_length_le (by omega)]; rfl, hB⟩
  · have h1 : ¬ (0 : Int) < 0 := by omega
    have h2 : ¬ (100000000 : Int) < 0 := by omega
    by_cases h3 : f < 1
    · go_wp2_with fail
      go_ret
      exact ⟨by rw [HV.out]; simp [HN.out, spanBad, hl, h3], b0.out⟩
    by_cases h4 : 100000000 < f
    · go_wp2_with fail
      go_ret
      exact ⟨by rw [HV.out]; simp [HN.out, spanBad, hl, h4], b0.out⟩
    by_cases h5 : n < 1
    · go_wp2_with fail
      go_ret
      exact ⟨by rw [HV.out]; simp [HN.out, spanBad, hl, h5], b0.out⟩
    have HW := Lib.hid (show validP 0 f al = altsOk 0 al by rw [HV.out]; simp [HN.out, spanBad, hl, h1, h2, h3, h4, h5])
    go_wp2_with fail
    go_loopw [3, 4] (fun l i wr => ∃ (k : Nat) (last : Int), k ≤ n ∧ i = .int .i64 k ∧ l = .int .i64 last ∧ altsOk 0 al = altsOk last (al.drop k) ∧ Below w.heap.size w wr ∧ Box wr w.heap.size 44 #[.int .i64 0, .int .i64 f, .slice A n c]) (fun _ i _ => n - (intOf i).toNat)
    case atStart => exact ⟨0, 0, Nat.zero_le _, rfl, rfl, rfl, b0.out, Box.new _ _ _⟩
    case round =>
      obtain ⟨k, last, hk, rfl, rfl, hst, hB, hx⟩ := hrel
      have HST := Lib.hid hst
      have HX := Lib.hid hx
      have c0 := hx.cell (i := 2) rfl
      have hlx := hx.lt
      clear hst hx
      by_cases hlt : k < n
      · obtain ⟨b, off, rfl, hbl, ca, cb⟩ := (H.out.below hB).at_ hlt
        rw [drop_pair (by omega)] at HST
        generalize al.getD k (0, 0) = a at *
        obtain ⟨r, i⟩ := a
        simp only at ca cb
        by_cases j1 : r ≤ last
        · go_wp2_with fail
          go_ret
          exact ⟨by rw [HW.out, HST.out]; simp [altsOk, altBad, j1], (hB.alloc hB.size _)⟩
        by_cases j2 : 7 < r
        · go_wp2_with fail
          go_ret
          exact ⟨by rw [HW.out, HST.out]; simp [altsOk, altBad, j2], (hB.alloc hB.size _)⟩
        by_cases j3 : i < 1
        · go_wp2_with fail
          go_ret
          exact ⟨by rw [HW.out, HST.out]; simp [altsOk, altBad, j3], (hB.alloc hB.size _)⟩
        by_cases j4 : 1000000 < i
        · go_wp2_with fail
          go_ret
          exact ⟨by rw [HW.out, HST.out]; simp [altsOk, altBad, j4], (hB.alloc hB.size _)⟩
        go_wp2_with fail
        go_roundw
        case rel => exact ⟨k + 1, r, by omega, by go_num, rfl, by rw [HST.out]; simp [altsOk, altBad, j1, j2, j3, j4], (hB.alloc hB.size _), HX.out.next (balloc _ _)⟩
        case measure => simp [intOf]; omega
      · go_wp2_with fail
        go_ret
        exact ⟨by rw [HW.out, HST.out, List.drop_of_length_le (by omega)]; rfl, hB⟩
  · go_wp2_with fail
    go_ret
    exact ⟨by rw [HV.out]; simp [HN.out, spanBad], b0.out⟩

set_option maxRecDepth 100000 in
set_option maxHeartbeats 2000000 in
theorem rsameAlts_any (A B : Option Addr) (n m c d : Nat) (al bl : Alts) (w : World) (ha : IsAlts w A n al) (hb : IsAlts w B m bl) (hm : n ≤ maxLen) :
    Calls Try.prog 34 #[.slice A n c, .slice B m d] w fun e w' => e = .returned (.bool (decide (al = bl))) ∧ Below w.heap.size w w' := by
  have HA := Lib.hid ha
  have HB := Lib.hid hb
  have hl := ha.1
  have hl' := hb.1
  have hm' : n ≤ 9223372036854775807 := hm
  clear ha hb
  go_enter Try.func34, Try.ntmps34
  by_cases hnm : n = m
  · subst hnm
    go_wp2_with fail
    go_loopw [5] (fun i wr => ∃ (k : Nat), k ≤ n ∧ i = .int .i64 k ∧ decide (al = bl) = decide (al.drop k = bl.drop k) ∧ Below w.heap.size w wr) (fun i _ => n - (intOf i).toNat)
    case atStart => exact ⟨0, Nat.zero_le _, rfl, rfl, Below.refl _ _⟩
    case round =>
      obtain ⟨k, hk, rfl, hst, hB⟩ := hrel
      have HST := Lib.hid hst
      clear hst
      by_cases hlt : k < n
      · obtain ⟨b, off, rfl, hbl, ca, cb⟩ := (HA.out.below hB).at_ hlt
        obtain ⟨b', off', rfl, hbl', ca', cb'⟩ := (HB.out.below hB).at_ hlt
        rw [dropEq_cons (by omega) (by omega)] at HST
        generalize al.getD k (0, 0) = x at *
        generalize bl.getD k (0, 0) = y at *
        obtain ⟨x1, x2⟩ := x
        obtain ⟨y1, y2⟩ := y
        simp only at ca cb ca' cb'
        by_cases h1 : x1 = y1
        · subst h1
          by_cases h2 : x2 = y2
          · subst h2
            go_upto_region 6 with (fail)
            go_quiet (fail)
            go_wp2_with fail
            go_roundw
            case rel => exact ⟨k + 1, by omega, by go_num, by rw [HST.out]; simp, below_drewN hB _⟩
            case measure => simp [intOf]; omega
          · have h2' : (x2 == y2) = false := by simpa using h2
            go_upto_region 6 with (fail)
            go_quiet (fail)
            go_wp2_with fail
            go_ret
            exact ⟨by rw [HST.out]; simp [h2], below_drewN hB _⟩
        · have h1' : (x1 == y1) = false := by simpa using h1
          go_upto_region 6 with (fail)
          go_quiet (fail)
          go_wp2_with fail
          go_ret
          exact ⟨by rw [HST.out]; simp [h1], below_drewN hB _⟩
      · go_wp2_with fail
        go_ret
        exact ⟨by rw [HST.out, List.drop_of_length_le (by omega), List.drop_of_length_le (by omega)]; rfl, hB⟩
  · have h' : ((n : Int) == (m : Int)) = false := by simp; omega
    have h'' : ((n : Int) != (m : Int)) = true := by simp; omega
    go_wp2_with fail
    go_ret
    refine ⟨?_, Below.refl _ _⟩
    have : al ≠ bl := fun e => hnm (by rw [← hl, ← hl', e])
    simp [this]
set_option maxRecDepth 100000 in
set_option maxHeartbeats 2000000 in
theorem rsame_any (s f : Int) (A : Option Addr) (n c : Nat) (al : Alts) (t g : Int) (B : Option Addr) (m d : Nat) (bl : Alts) (w : World) (ha : IsAlts w A n al) (hb : IsAlts w B m bl) (hm : n ≤ maxLen) :
    Calls Try.prog 21 #[optV s f A n c, optV t g B m d] w fun e w' => e = .returned (.bool (sameP s f al t g bl)) ∧ Below w.heap.size w w' := by
  have HA := Lib.hid ha
  have HB := Lib.hid hb
  have b0 := balloc w (.cells #[.int .i64 s, .int .i64 f, .slice A n c] 44)
  have b1 := Lib.hid (b0.alloc b0.size (.cells #[.int .i64 t, .int .i64 g, .slice B m d] 44))
  have x1 := Lib.hid ((Box.new w 44 #[.int .i64 s, .int .i64 f, .slice A n c]).next (balloc _ (.cells #[.int .i64 t, .int .i64 g, .slice B m d] 44)))
  have x2 := Lib.hid (Box.new (w.alloc (.cells #[.int .i64 s, .int .i64 f, .slice A n c] 44)) 44 #[.int .i64 t, .int .i64 g, .slice B m d])
  rw [World.size_alloc] at x2
  clear ha hb b0
  go_enter Try.func21, Try.ntmps21
  go_wp2_with fail
  refine (rsameAlts_any A B n m c d al bl _ (HA.out.below b1.out) (HB.out.below b1.out) hm).mono ?_
  rintro e w1 ⟨rfl, b2⟩
  have u1 := x1.out.next b2
  have u2 := x2.out.next b2
  have c0 := u1.cell (i := 0) rfl
  have c1 := u1.cell (i := 1) rfl
  have d0 := u2.cell (i := 0) rfl
  have d1 := u2.cell (i := 1) rfl
  have B2 := Lib.hid (bnext b1.out b2)
  clear u1 u2
  by_cases h0 : al = bl
  · have e0 : decide (al = bl) = true := by simp [h0]
    rw [e0]
    by_cases h1 : s = t
    · subst h1
      by_cases h2 : f = g
      · subst h2
        go_wp2_with fail
        go_ret
        exact ⟨by simp [sameP, h0], B2.out⟩
      · have h2' : (f == g) = false := by simpa using h2
        go_wp2_with fail
        go_ret
        exact ⟨by simp [sameP, h2], B2.out⟩
    · have h1' : (s == t) = false := by simpa using h1
      go_wp2_with fail
      go_ret
      exact ⟨by simp [sameP, h1], B2.out⟩
  · have e0 : decide (al = bl) = false := by simp [h0]
    rw [e0]
    go_wp2_with fail
    go_ret
    exact ⟨by simp [sameP, h0], B2.out⟩
set_option maxRecDepth 100000 in
theorem rplaced_any (e : Ev) (A : Option Addr) (n c : Nat) (w : World) :
    Calls Try.prog 46 #[evV e A n c] w fun r w' => r = .returned (.bool e.placed) ∧ Below w.heap.size w w' := by
  have b0 := Lib.hid (balloc w (.cells (evCells e A n c) 63))
  obtain ⟨x1, x2, s, f, x3, x4⟩ := e
  go_enter Try.func46, Try.ntmps46
  by_cases h1 : s < 0
  · go_wp2_with fail
    go_ret
    exact ⟨by simp [Ev.placed, spanBad, h1], b0.out⟩
  by_cases h2 : 100000000 < s
  · go_wp2_with fail
    go_ret
    exact ⟨by simp [Ev.placed, spanBad, h2], b0.out⟩
  by_cases h3 : f < 1
  · go_wp2_with fail
    go_ret
    exact ⟨by simp [Ev.placed, spanBad, h3], b0.out⟩
  by_cases h4 : 100000000 < f
  · go_wp2_with fail
    go_ret
    exact ⟨by simp [Ev.placed, spanBad, h4], b0.out⟩
  go_wp2_with fail
  go_ret
  exact ⟨by simp [Ev.placed, spanBad, h1, h2, h3, h4], b0.out⟩

/-- A call that returns an opt-out whose alternatives are new, and a bool. -/
def RetOf (o : POpt) (v : Bool) (w : World) (e : Ending) (w' : World) : Prop :=
  ∃ B c, e = .returned (.tuple #[optV o.s o.f B o.al.length c, .bool v]) ∧ IsAlts w' B o.al.length o.al ∧ o.al.length ≤ c ∧ c ≤ maxLen ∧ (B = none → c = 0) ∧ Below w.heap.size w w' ∧ (∀ b off, B = some ⟨b, off, none⟩ → w.heap.size ≤ b)
def rofP (e : EvA) : POpt × Bool := if e.ev.placed = true ∧ e.ev.inBad = false then (⟨e.ev.start - e.ev.inn, e.ev.frames + e.ev.inn, e.al⟩, validP (e.ev.start - e.ev.inn) (e.ev.frames + e.ev.inn) e.al) else (.zero, false)
set_option maxRecDepth 100000 in
set_option maxHeartbeats 8000000 in
theorem rof_any (e : EvA) (w : World) (h : e.ok w) :
    Calls Try.prog 47 #[.agg e.cells] w (RetOf (rofP e).1 (rofP e).2 w) := by
  obtain ⟨ev, A, c, al⟩ := e
  obtain ⟨h1, h2, h3, h4, h5⟩ := h
  simp only at h1 h2 h3 h4 h5
  unfold reachBytes at h5
  obtain ⟨i0, hi0, hz0, hz1, hz2⟩ := info_parts infoAlt
  have H := Lib.hid h1
  have HN : Hid (A = none → al.length = 0 ∧ c = 0) := Lib.hid (fun e => by have := h4 e; exact ⟨by omega, this⟩)
  have l0 := balloc w (.cells (evCells ev A al.length c) 63)
  have L1 := Lib.hid (l0.alloc l0.size (.cells zero3 44))
  have X0 := Lib.hid ((Box.new w 63 (evCells ev A al.length c)).next (balloc _ (.cells zero3 44)))
  have x1 := Box.new (w.alloc (.cells (evCells ev A al.length c) 63)) 44 zero3
  rw [World.size_alloc] at x1
  have X1 := Lib.hid x1
  clear h1 h4 l0 x1
  obtain ⟨y1, y2, s, f, i, y4⟩ := ev
  have ZERO : Hid (∀ w', Ev.placed ⟨y1, y2, s, f, i, y4⟩ = false ∨ Ev.inBad ⟨y1, y2, s, f, i, y4⟩ = true → Below w.heap.size w w' → RetOf (rofP ⟨⟨y1, y2, s, f, i, y4⟩, A, c, al⟩).1 (rofP ⟨⟨y1, y2, s, f, i, y4⟩, A, c, al⟩).2 w (.returned (.tuple #[.agg #[.int .i64 0, .int .i64 0, .slice none 0 0], .bool false])) w') := Lib.hid (fun w' hz hb => by
    unfold rofP
    rw [if_neg (by rintro ⟨z1, z2⟩; rcases hz with hz | hz <;> simp_all)]
    exact ⟨none, 0, rfl, IsAlts.nil _ _, Nat.le_refl _, Nat.zero_le _, fun _ => rfl, hb, fun b off e => by cases e⟩)
  go_enter Try.func47, Try.ntmps47
  go_wp2_with fail
  refine (rplaced_any ⟨y1, y2, s, f, i, y4⟩ A al.length c _).mono ?_
  rintro e w1 ⟨rfl, bw⟩
  have hx0 := X0.out.next bw
  have hx1 := X1.out.next bw
  have B1 := Lib.hid (bnext L1.out bw)
  have e2 := hx0.cell (i := 2) rfl
  have e3 := hx0.cell (i := 3) rfl
  have e4 := hx0.cell (i := 4) rfl
  have e6 := hx0.cell (i := 6) rfl
  have r0 := hx1.cell (i := 0) rfl
  have r1 := hx1.cell (i := 1) rfl
  have r2 := hx1.cell (i := 2) rfl
  have q0 := hx1.frozen 0
  have q1 := hx1.frozen 1
  have q2 := hx1.frozen 2
  have hlt0 := hx0.lt
  have hlt1 := hx1.lt
  have Y0 := Lib.hid hx0
  have Y1 := Lib.hid hx1
  have HR := Lib.hid (H.out.below B1.out).2
  clear hx0 hx1
  have endZ : Hid (∀ w', w' = ((w1.setCell ⟨w.heap.size + 1, 0, none⟩ (.int .i64 0)).setCell ⟨w.heap.size + 1, 1, none⟩ (.int .i64 0)).setCell ⟨w.heap.size + 1, 2, none⟩ (.slice none 0 0) → Box w' (w.heap.size + 1) 44 zero3 ∧ Below w.heap.size w w') := Lib.hid (fun w' e => by
    subst e
    refine ⟨?_, ((B1.out.setCell (by simp) _).setCell (by simp) _).setCell (by simp) _⟩
    have := ((Y1.out.set (i := 0) (.int .i64 0)).set (i := 1) (.int .i64 0)).set (i := 2) (.slice none 0 0)
    simpa using this)
  by_cases hp : Ev.placed ⟨y1, y2, s, f, i, y4⟩ = true
  · have hp2 := Ev.placed_bd hp
    simp only at hp2
    obtain ⟨p1, p2⟩ := hp2
    rw [hp]
    have HP := Lib.hid hp
    clear hp
    by_cases j1 : i < 0
    · go_wp2_with fail
      obtain ⟨z1, z2⟩ := endZ.out _ rfl
      exact ret_dec Try.results47 rfl rfl z1 rfl (ZERO.out _ (.inr (by simp [Ev.inBad, j1])) z2)
    by_cases j2 : 100000000 < i
    · go_wp2_with fail
      obtain ⟨z1, z2⟩ := endZ.out _ rfl
      exact ret_dec Try.results47 rfl rfl z1 rfl (ZERO.out _ (.inr (by simp [Ev.inBad, j2])) z2)
    have HE : Hid (rofP ⟨⟨y1, y2, s, f, i, y4⟩, A, c, al⟩ = (⟨s - i, f + i, al⟩, validP (s - i) (f + i) al)) := Lib.hid (by simp [rofP, HP.out, Ev.inBad, j1, j2])
    clear ZERO endZ
    have wr1 : IntKind.i64.wrap (s - i) = s - i := IntWalk.i64_in _ (by omega)
    have wr2 : IntKind.i64.wrap (f + i) = f + i := IntWalk.i64_in _ (by omega)
    have hne0 : w1.heap.size ≠ w.heap.size := by omega
    go_upto_region 5 with (fail)
    go_cut [6] (fun v wx => ∃ (bp : Nat) (B : Option Addr) (c' : Nat), v = .pointer (some ⟨bp, 0, none⟩) ∧ Box wx bp 44 (optC (s - i) (f + i) B al.length c') ∧ bp ≠ w.heap.size + 1 ∧ IsAlts wx B al.length al ∧ (al.length ≤ c' ∧ c' ≤ maxLen ∧ (B = none → c' = 0)) ∧ (∀ b off, B = some ⟨b, off, none⟩ → w1.heap.size ≤ b) ∧ Below w1.heap.size w1 wx)
    case first =>
      go_region_held3 (fun w' => w'.cell? ⟨w.heap.size, 2, none⟩ = some (.int .i64 s) ∧ w'.cell? ⟨w.heap.size, 3, none⟩ = some (.int .i64 f) ∧ w'.cell? ⟨w.heap.size, 4, none⟩ = some (.int .i64 i) ∧ w'.cell? ⟨w.heap.size, 6, none⟩ = some (.slice A al.length c))
        (first
          | (exact ⟨gx2, gx3, gx4, gx6⟩)
          | (refine ⟨?_, ?_, ?_, ?_⟩ <;> go_keep))
        (first
          | (refine step_append_rd ((w1.alloc (.cells #[.int .i64 0, .int .i64 0, .slice none 0 0] 44)).drew) rfl (.tmp 32) (.tmp 34) 42 rfl (w1.heap.size + 1) 69 i0 (.agg #[.int .i64 0, .int .i64 0]) 2 16 Try.underlying42 hi0 hz0 hz1 hz2 rfl (by decide) (.slice none 0 0) 0 [] rfl (World.ownsRow_nil _ _ _ _) A al.length c (pairs al) rfl HN.out (by refine HR.out.below ?_; repeat (first | exact Below.refl _ _ | refine Below.drew ?_ | refine Below.alloc ?_ (by simp) _)) (pairs_ones _) (by unfold maxLen at *; omega) (by omega) (by simp) ?_; intro B1 c1 w4 hown1 hgrow1 hat1; have gx2 : w4.cell? ⟨w.heap.size, 2, none⟩ = some (.int .i64 s) := grown_cell hgrow1 (by go_keep) (by simp [Value.ownBlock]); have gx3 : w4.cell? ⟨w.heap.size, 3, none⟩ = some (.int .i64 f) := grown_cell hgrow1 (by go_keep) (by simp [Value.ownBlock]); have gx4 : w4.cell? ⟨w.heap.size, 4, none⟩ = some (.int .i64 i) := grown_cell hgrow1 (by go_keep) (by simp [Value.ownBlock]); have gx6 : w4.cell? ⟨w.heap.size, 6, none⟩ = some (.slice A al.length c) := grown_cell hgrow1 (by go_keep) (by simp [Value.ownBlock]); have ga0 : w4.cell? ⟨w1.heap.size, 0, none⟩ = some (.int .i64 0) := grown_cell hgrow1 (by simp) (by simp [Value.ownBlock]); have gf0 : w4.frozen? ⟨w1.heap.size, 0, none⟩ = false := (grown_frozen (v := .int .i64 0) hgrow1 (by simp) (by simp [Value.ownBlock])).trans (by simp); have ga1 : w4.cell? ⟨w1.heap.size, 1, none⟩ = some (.int .i64 0) := grown_cell hgrow1 (by simp) (by simp [Value.ownBlock]); have gf1 : w4.frozen? ⟨w1.heap.size, 1, none⟩ = false := (grown_frozen (v := .int .i64 0) hgrow1 (by simp) (by simp [Value.ownBlock])).trans (by simp); have ga2 : w4.cell? ⟨w1.heap.size, 2, none⟩ = some (.slice none 0 0) := grown_cell hgrow1 (by simp) (by simp [Value.ownBlock]); have gf2 : w4.frozen? ⟨w1.heap.size, 2, none⟩ = false := (grown_frozen (v := .slice none 0 0) hgrow1 (by simp) (by simp [Value.ownBlock])).trans (by simp); have HG := Lib.hid hgrow1; have HO := Lib.hid hown1; clear hgrow1 hown1 hat1)
          | (refine step_append_rd (w1.drew) rfl (.tmp 32) (.tmp 34) 42 rfl w1.heap.size 69 i0 (.agg #[.int .i64 0, .int .i64 0]) 2 16 Try.underlying42 hi0 hz0 hz1 hz2 rfl (by decide) (.slice none 0 0) 0 [] rfl (World.ownsRow_nil _ _ _ _) A al.length c (pairs al) rfl HN.out (by refine HR.out.below ?_; repeat (first | exact Below.refl _ _ | refine Below.drew ?_ | refine Below.alloc ?_ (by simp) _)) (pairs_ones _) (by unfold maxLen at *; omega) (by omega) (by simp) ?_; intro B1 c1 w4 hown1 hgrow1 hat1; have gx2 : w4.cell? ⟨w.heap.size, 2, none⟩ = some (.int .i64 s) := grown_cell hgrow1 (by go_keep) (by simp [Value.ownBlock]); have gx3 : w4.cell? ⟨w.heap.size, 3, none⟩ = some (.int .i64 f) := grown_cell hgrow1 (by go_keep) (by simp [Value.ownBlock]); have gx4 : w4.cell? ⟨w.heap.size, 4, none⟩ = some (.int .i64 i) := grown_cell hgrow1 (by go_keep) (by simp [Value.ownBlock]); have gx6 : w4.cell? ⟨w.heap.size, 6, none⟩ = some (.slice A al.length c) := grown_cell hgrow1 (by go_keep) (by simp [Value.ownBlock]); have HG := Lib.hid hgrow1; have HO := Lib.hid hown1; clear hgrow1 hown1 hat1))
      · go_wp2_with fail
        go_meet
        simp only [Nat.zero_add, List.nil_append] at HO
        have hz : w1.heap.size ≤ w4.heap.size := HG.out.size
        have hb : Below w1.heap.size w1 w4 := ((Below.refl _ w1).drew).grown HG.out (Nat.le_refl _) (fun k e => by cases e)
        exact ⟨w4.heap.size, B1, c1, rfl, Box.new _ _ _, by omega, ⟨rfl, (Rd.of_own HO.out).below (balloc _ _)⟩, own_facts HO.out, own_base HO.out, hb.alloc hb.size _⟩
      · go_wp2_with fail
        go_meet
        simp only [Nat.zero_add, List.nil_append] at HO
        have hz : w1.heap.size + 1 ≤ w4.heap.size := by have := HG.out.size; simpa using this
        have hb : Below w1.heap.size w1 w4 := (((Below.refl _ w1).alloc (Nat.le_refl _) _).drew).grown HG.out (by simp) (fun k e => by cases e)
        have hx : Box w4 w1.heap.size 44 zero3 := Box.grown (w := (w1.alloc (.cells zero3 44)).drew) (Box.new w1 44 zero3) HG.out (by simp [Value.ownBlock])
        have h6 : ∀ b' off, B1 = some ⟨b', off, none⟩ → w1.heap.size < b' := fun b' off e => own_base HO.out b' off e
        refine ⟨w1.heap.size, B1, c1, rfl, ?_, by omega, ⟨rfl, (((Rd.of_own HO.out).set _ h6).set _ h6).set _ h6⟩, own_facts HO.out, fun b off e => Nat.le_of_lt (h6 b off e), ((hb.setCell (Nat.le_refl _) _).setCell (Nat.le_refl _) _).setCell (Nat.le_refl _) _⟩
        have := ((hx.set (i := 0) (.int .i64 (s - i))).set (i := 1) (.int .i64 (f + i))).set (i := 2) (.slice B1 al.length c1)
        simpa using this
    case rest =>
      obtain ⟨bp, B, c', rfl, hbp, hne, hal, hcc, hnew, hbx⟩ := hcut
      have c0 := hbp.cell (i := 0) rfl
      have c1 := hbp.cell (i := 1) rfl
      have c2 := hbp.cell (i := 2) rfl
      have z2 := Y1.out.next hbx
      have d0 := z2.cell (i := 0) rfl
      have d1 := z2.cell (i := 1) rfl
      have d2 := z2.cell (i := 2) rfl
      have f0 := z2.frozen 0
      have f1 := z2.frozen 1
      have f2 := z2.frozen 2
      have Z2 := Lib.hid z2
      have Z3 := Lib.hid hbp
      have L2 := Lib.hid (bnext B1.out hbx)
      have HCC := Lib.hid hcc
      have HNW : Hid (∀ b off, B = some ⟨b, off, none⟩ → w.heap.size + 1 < b) := Lib.hid (fun b off e => by have := hnew b off e; omega)
      have HWd : Hid (IsAlts wc.drew B al.length al) := Lib.hid (hal.below ((Below.refl _ _).drew))
      have KEY : Hid (∀ w2, Below wc.drew.heap.size wc.drew w2 → Box w2 (w.heap.size + 1) 44 zero3 ∧ Box w2 bp 44 (optC (s - i) (f + i) B al.length c') ∧ Below w.heap.size w w2 ∧ IsAlts w2 B al.length al) := Lib.hid (fun w2 b2 =>
        ⟨(show Box wc.drew (w.heap.size + 1) 44 zero3 from Z2.out).next b2, (show Box wc.drew bp 44 (optC (s - i) (f + i) B al.length c') from Z3.out).next b2, L2.out.drew.trans (b2.mono L2.out.size), HWd.out.below b2⟩)
      have hm7 : al.length ≤ maxLen := Nat.le_trans h2 h3
      clear hbp z2 hal hcc hnew hbx wr1 wr2
      go_wp2_with fail
      go_region_with (go_at_call 53; refine (rvalid_any (s - i) (f + i) B al.length c' al _ HWd.out hm7).mono ?_; rintro e w2 ⟨rfl, b2⟩; obtain ⟨t1, t2, t3, t4⟩ := KEY.out w2 b2; have Q1 := Lib.hid t1; have Q2 := Lib.hid t3; have Q4 := Lib.hid t4; have q0 := t1.cell (i := 0) rfl; have q1 := t1.cell (i := 1) rfl; have q2 := t1.cell (i := 2) rfl; have r0 := t1.frozen 0; have r1 := t1.frozen 1; have r2 := t1.frozen 2; have q3 := t2.cell (i := 0) rfl; have q4 := t2.cell (i := 1) rfl; have q5 := t2.cell (i := 2) rfl; clear t1 t2 t3 t4)
      all_goals
        go_wp2_with fail
        refine ret_dec Try.results47 rfl rfl (((Q1.out.set (i := 0) (.int .i64 (s - i))).set (i := 1) (.int .i64 (f + i))).set (i := 2) (.slice B al.length c')) rfl ?_
        rw [HE.out]
        refine ⟨B, c', rfl, ⟨rfl, ((Q4.out.2.set _ HNW.out).set _ HNW.out).set _ HNW.out⟩, HCC.out.1, HCC.out.2.1, HCC.out.2.2, ((Q2.out.setCell (by simp) _).setCell (by simp) _).setCell (by simp) _, fun b off e => by have := HNW.out b off e; omega⟩
  · have hp' : Ev.placed ⟨y1, y2, s, f, i, y4⟩ = false := by simpa using hp
    rw [hp']
    go_wp2_with fail
    obtain ⟨z1, z2⟩ := endZ.out _ rfl
    exact ret_dec Try.results47 rfl rfl z1 rfl (ZERO.out _ (.inl hp') z2)
end Go.Proofs.Ytpaepefpfaoacaa
