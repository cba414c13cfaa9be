/- Pieces; the events that they determine; contract of the laws' events. -/
import Derived.Test.YtfpnjlfcnfjkdaaOptS
namespace Go.Proofs.Ytfpnjlfcnfjkdaa
open Go.ChangeShapes Go.WideShapes Go.ChangeAt Go.RowKit
set_option linter.unusedVariables false

/-- A piece as it lies in memory. -/
structure PcA where
  fr : Int
  inn : Int
  A : Option Addr
  c : Nat
  al : Alts
abbrev PcA.cells (p : PcA) : List Value := [.int .i64 p.fr, .int .i64 p.inn, .slice p.A p.al.length p.c]
def PcA.ok (w : World) (p : PcA) : Prop := IsAlts w p.A p.al.length p.al ∧ p.al.length ≤ p.c ∧ p.c ≤ maxLen ∧ (p.A = none → p.c = 0) ∧ p.c * 16 ≤ reachBytes ∧ wf64 p.fr ∧ wf64 p.inn
noncomputable def opPc0 : Op Try.prog 73 (Int × (Int × (Sl (Int × Int) × Unit))) := opStruct (opCons opI (opCons opI (opCons opAlts (opNil _) rfl) rfl) rfl) Try.underlying73 (by kernel_rfl)
noncomputable def opPc : Op Try.prog 73 PcA := opMap opPc0 (fun p => ⟨p.1, p.2.1, p.2.2.1.A, p.2.2.1.c, p.2.2.1.l⟩) PcA.cells PcA.ok (fun a => rfl)
  (fun w a h => ⟨⟨rfl, h.2.2.1.1⟩, h.2.2.1.2.2.1, h.2.2.1.2.2.2.1, h.2.2.1.2.2.2.2.1, h.2.2.1.2.2.2.2.2, h.1, h.2.1⟩) (fun _ => rfl)
noncomputable def opPcs : Op Try.prog 42 (Sl PcA) := opSlice opPc 40 Try.underlying42 (by kernel_rfl) (by kernel_rfl) (by decide)
theorem rd_at {α : Type} {w : World} {s : Nat} {f : α → List Value} (hf : ∀ x, (f x).length = s) {A : Option Addr} {l : List α} (h : Rd w s A l.length (l.flatMap f)) {i : Nat} (hi : i < l.length) :
    ∃ b off x, A = some ⟨b, off, none⟩ ∧ b < w.heap.size ∧ l[i]? = some x ∧ ∀ j, j < s → w.cell? ⟨b, off + (i * s + j), none⟩ = (f x)[j]? := by
  obtain ⟨h2, h3⟩ := h
  obtain ⟨b, off, rfl, hb, hc⟩ := h3.resolve_left (by omega)
  refine ⟨b, off, l[i], rfl, hb, List.getElem?_eq_getElem hi, fun j hj => ?_⟩
  have hlt : i * s + j < l.length * s := by
    have : (i + 1) * s ≤ l.length * s := Nat.mul_le_mul_right _ hi
    rw [Nat.add_mul, Nat.one_mul] at this
    omega
  rw [hc _ hlt, flat_get hf l i j _ (List.getElem?_eq_getElem hi) hj]

/-! ### Plain -/
def innOf (at_ : Int) (p : PcA) : Int := if at_ < pickOf p.inn 12 ∨ 8 < pickOf p.inn 12 then 0 else pickOf p.inn 12
def lenOf (p : PcA) : Int := 1 + pickOf p.fr 40
def evOf (i : Nat) (at_ : Int) (p : PcA) : EvA := ⟨⟨(i : Int) + 1, (i : Int) + 1, at_, lenOf p, innOf at_ p, 0⟩, p.A, p.c, p.al⟩
def endOf : List PcA → Int
  | [] => 0
  | p :: l => lenOf p + endOf l
def mkFrom : Nat → Int → List PcA → List EvA
  | _, _, [] => []
  | i, a, p :: l => evOf i a p :: mkFrom (i + 1) (a + lenOf p) l
abbrev mkEvs (l : List PcA) : List EvA := mkFrom 0 0 l
theorem mkFrom_snoc (l : List PcA) (p : PcA) : ∀ (i : Nat) (a : Int), mkFrom i a (l ++ [p]) = mkFrom i a l ++ [evOf (i + l.length) (a + endOf l) p] := by
  induction l with
  | nil => intro i a; simp [mkFrom, endOf]
  | cons q l ih =>
    intro i a
    simp only [List.cons_append, mkFrom, ih, endOf, List.length_cons]
    rw [show i + 1 + l.length = i + (l.length + 1) by omega, show a + lenOf q + endOf l = a + (lenOf q + endOf l) by omega]
theorem mkEvs_snoc (l : List PcA) (p : PcA) : mkEvs (l ++ [p]) = mkEvs l ++ [evOf l.length (endOf l) p] := by
  have := mkFrom_snoc l p 0 0
  simpa using this
theorem endOf_snoc (l : List PcA) (p : PcA) : endOf (l ++ [p]) = endOf l + lenOf p := by
  induction l with
  | nil => simp [endOf]
  | cons q l ih => simp only [List.cons_append, endOf, ih]; omega
theorem mkFrom_len (l : List PcA) : ∀ (i : Nat) (a : Int), (mkFrom i a l).length = l.length := by
  induction l with
  | nil => intro i a; rfl
  | cons q l ih => intro i a; simp [mkFrom, ih]
theorem mkEvs_len (l : List PcA) : (mkEvs l).length = l.length := mkFrom_len l 0 0
theorem lenOf_bd (p : PcA) : 1 ≤ lenOf p ∧ lenOf p ≤ 40 := by
  have := pickOf_bd p.fr 40 (by omega)
  unfold lenOf
  omega
theorem endOf_bd (l : List PcA) : 0 ≤ endOf l ∧ endOf l ≤ 40 * l.length := by
  induction l with
  | nil => simp [endOf]
  | cons p l ih =>
    have := lenOf_bd p
    simp only [endOf, List.length_cons]
    omega
theorem innOf_bd (at_ : Int) (p : PcA) (h : 0 ≤ at_) : 0 ≤ innOf at_ p ∧ innOf at_ p ≤ 8 ∧ innOf at_ p ≤ at_ := by
  have := pickOf_bd p.inn 12 (by omega)
  unfold innOf
  split <;> omega
theorem mkFrom_mem {l : List PcA} {e : EvA} : ∀ {i : Nat} {a : Int}, e ∈ mkFrom i a l → ∃ j d p, p ∈ l ∧ e = evOf j d p ∧ a ≤ d ∧ d + lenOf p ≤ a + endOf l := by
  induction l with
  | nil => intro i a h; cases h
  | cons q l ih =>
    intro i a h
    have h1 := lenOf_bd q
    have h2 := endOf_bd l
    simp only [mkFrom, List.mem_cons] at h
    rcases h with rfl | h
    · exact ⟨i, a, q, List.mem_cons_self .., rfl, Int.le_refl _, by simp only [endOf]; omega⟩
    · obtain ⟨j, d, p, hp, he, h3, h4⟩ := ih h
      exact ⟨j, d, p, List.mem_cons_of_mem _ hp, he, by omega, by simp only [endOf]; omega⟩
theorem mkEvs_mem {l : List PcA} {e : EvA} (h : e ∈ mkEvs l) : ∃ j d p, p ∈ l ∧ e = evOf j d p ∧ 0 ≤ d ∧ d + lenOf p ≤ endOf l := by
  obtain ⟨j, d, p, h1, h2, h3, h4⟩ := mkFrom_mem h
  exact ⟨j, d, p, h1, h2, h3, by omega⟩

/-- A call that returns new events. -/
def RetEvs (es : List EvA) (w : World) (e : Ending) (w' : World) : Prop :=
  ∃ B c, e = .returned (.slice B es.length c) ∧ IsEvs w' B es.length es ∧ es.length ≤ c ∧ c ≤ maxLen ∧ (B = none → c = 0) ∧ Below w.heap.size w w'
theorem infoEv : (Try.prog.info? 45).map (fun i => (i.zero, i.size, i.bytes)) = some (some (.agg #[.int .i64 0, .int .i64 0, .int .i64 0, .int .i64 0, .int .i64 0, .int .i64 0, .slice none 0 0]), 7, 72) := by kernel_rfl
theorem evs_ones (es : List EvA) : ∀ u ∈ evsCells es, u.oneCell' = true := by
  intro u hu
  simp only [List.mem_flatMap] at hu
  obtain ⟨a, _, hu⟩ := hu
  simp only [List.mem_cons, List.not_mem_nil, or_false] at hu
  rcases hu with rfl | rfl | rfl | rfl | rfl | rfl | rfl <;> rfl

set_option maxRecDepth 100000 in
set_option maxHeartbeats 8000000 in
theorem levents_any (l : Sl PcA) (w : World) (h : opPcs.ok w l) :
    Calls Try.prog 23 #[.slice l.A l.l.length l.c] w (RetEvs (mkEvs (l.l.take 12)) w) := by
  obtain ⟨A, c, ps⟩ := l
  obtain ⟨h1, h2, h3, h4, _⟩ := h
  simp only at h1 h2 h3 h4
  obtain ⟨i0, hi0, hz0, hz1, hz2⟩ := info_parts infoEv
  have H1 : Hid (Rd w 3 A ps.length (ps.flatMap PcA.cells)) := Lib.hid h1
  have H2 : Hid (∀ p ∈ ps, PcA.ok w p) := Lib.hid h2
  have hm' : ps.length ≤ 9223372036854775807 := by unfold maxLen at h4; omega
  clear h1 h2
  go_enter Try.func23, Try.ntmps23
  go_wp2_with fail
  go_loopw [3, 4, 5] (fun o a i wr => ∃ (k : Nat) (B : Option Addr) (d : Nat), k ≤ ps.length ∧ k ≤ 12 ∧ i = .int .i64 k ∧ a = .int .i64 (endOf (ps.take k)) ∧ o = .slice B k d ∧ wr.ownsRow w.heap.size 45 7 (.slice B k d) k (evsCells (mkEvs (ps.take k))) ∧ Below w.heap.size w wr) (fun _ _ i _ => 12 - (intOf i).toNat)
  case atStart => exact ⟨0, none, 0, Nat.zero_le _, by omega, rfl, rfl, rfl, World.ownsRow_nil _ _ _ _, Below.refl _ _⟩
  case round =>
    obtain ⟨k, B, d, hk, hk12, rfl, rfl, rfl, hown, hB⟩ := hrel
    have HO := Lib.hid hown
    have FIN : Hid (¬ (k < ps.length ∧ k < 12) → ps.take k = ps.take 12) := Lib.hid (fun hn => by
      by_cases h : k < 12
      · rw [List.take_of_length_le (by omega), List.take_of_length_le (by omega)]
      · obtain rfl : k = 12 := by omega
        rfl)
    have hen := endOf_bd (ps.take k)
    have hlk : (ps.take k).length = k := by rw [List.length_take]; omega
    rw [hlk] at hen
    have ENDS : Hid (¬ (k < ps.length ∧ k < 12) → RetEvs (mkEvs (ps.take 12)) w (.returned (.slice B k d)) wr) := Lib.hid (fun hn => by
      have e1 := FIN.out hn
      have o := HO.out
      rw [e1] at o hlk
      have hl : (mkEvs (ps.take 12)).length = k := by rw [mkEvs_len]; exact hlk
      have f := own_facts o
      refine ⟨B, d, by rw [hl], ⟨rfl, by rw [hl]; exact Rd.of_own o, fun e he => ?_⟩, by omega, f.2.1, f.2.2, hB⟩
      obtain ⟨i, d', p, hp, rfl, _⟩ := mkEvs_mem he
      obtain ⟨q1, q2, q3, q4, q5, _⟩ := H2.out p (List.mem_of_mem_take hp)
      exact ⟨q1.below hB, q2, q3, q4, q5⟩)
    clear hown
    by_cases hlt : k < ps.length
    · by_cases h12 : k < 12
      · obtain ⟨b, off, p, rfl, hbl, hp, hcell⟩ := rd_at (f := PcA.cells) (fun _ => rfl) H1.out hlt
        have hok := H2.out p (List.mem_of_getElem? hp)
        have hc : ∀ j, j < 3 → wr.cell? ⟨b, off + (k * 3 + j), none⟩ = p.cells[j]? := fun j hj => (hB.cell (p := ⟨b, off + (k * 3 + j), none⟩) hbl).trans (hcell j hj)
        have c0 : wr.cell? ⟨b, off + k * 3, none⟩ = some (.int .i64 p.fr) := hc 0 (by omega)
        have c1 : wr.cell? ⟨b, off + k * 3 + 1, none⟩ = some (.int .i64 p.inn) := by have := hc 1 (by omega); rwa [← Nat.add_assoc] at this
        have c2 : wr.cell? ⟨b, off + k * 3 + 2, none⟩ = some (.slice p.A p.al.length p.c) := by have := hc 2 (by omega); rwa [← Nat.add_assoc] at this
        have hbr : b < wr.heap.size := Nat.lt_of_lt_of_le hbl hB.size
        have w1 := wf_bd hok.2.2.2.2.2.1
        have w2 := wf_bd hok.2.2.2.2.2.2
        have ht : ps.take (k + 1) = ps.take k ++ [p] := by rw [List.take_add_one, hp]; rfl
        have HE1 : Hid (endOf (ps.take (k + 1)) = endOf (ps.take k) + lenOf p) := Lib.hid (by rw [ht, endOf_snoc])
        have HM1 : Hid (mkEvs (ps.take (k + 1)) = mkEvs (ps.take k) ++ [evOf k (endOf (ps.take k)) p]) := Lib.hid (by rw [ht, mkEvs_snoc, hlk])
        have pb1 := pickOf_bd p.fr 40 (by omega)
        have pb2 := pickOf_bd p.inn 12 (by omega)
        clear hc hcell hp ht hok
        generalize endOf (ps.take k) = E at *
        have REL : Hid (∀ (inn : Int), inn = innOf E p → ∀ (B1 : Option Addr) (c1' : Nat) (w4 : World), w4.ownsRow w.heap.size 45 7 (.slice B1 (k + 1) c1') (k + 1) (evsCells (mkEvs (ps.take k)) ++ evsCells [⟨⟨(k : Int) + 1, (k : Int) + 1, E, 1 + pickOf p.fr 40, inn, 0⟩, p.A, p.c, p.al⟩]) → w4.ownsRow w.heap.size 45 7 (.slice B1 (k + 1) c1') (k + 1) (evsCells (mkEvs (ps.take (k + 1))))) := Lib.hid (fun inn hi B1 c1' w4 ho => by
          rw [HM1.out]
          subst hi
          have e : evsCells (mkEvs (ps.take k) ++ [evOf k E p]) = evsCells (mkEvs (ps.take k)) ++ evsCells [evOf k E p] := by simp [evsCells]
          rw [e]
          exact ho)
        by_cases hi : E < pickOf p.inn 12 ∨ 8 < pickOf p.inn 12
        · have hin : (0 : Int) = innOf E p := by unfold innOf; rw [if_pos hi]
          have HIN := Lib.hid hin
          clear hin
          rcases hi with hi | hi
          · have HNR := Lib.hid (evs_new wr 45 [⟨⟨(k : Int) + 1, (k : Int) + 1, E, 1 + pickOf p.fr 40, 0, 0⟩, p.A, p.c, p.al⟩] (by simp [maxLen]))
            have HOa := Lib.hid (own_below HO.out (balloc wr (.cells (evsCells [⟨⟨(k : Int) + 1, (k : Int) + 1, E, 1 + pickOf p.fr 40, 0, 0⟩, p.A, p.c, p.al⟩]).toArray 45)))
            have HBa := Lib.hid (hB.alloc hB.size (.cells (evsCells [⟨⟨(k : Int) + 1, (k : Int) + 1, E, 1 + pickOf p.fr 40, 0, 0⟩, p.A, p.c, p.al⟩]).toArray 45))
            go_wp2_with (first
              | (go_at_call 22; ((with_reducible refine (pick_any p.fr 40 _ w1.1 w1.2 (by omega) (by omega)).mono ?_); rintro e w' ⟨rfl, rfl⟩))
              | (go_at_call 22; refine (pick_any p.inn 12 _ w2.1 w2.2 (by omega) (by omega)).mono ?_; rintro e w' ⟨rfl, rfl⟩)
              | (at_builtin; refine wpList_append_rd (wr.alloc (.cells (evsCells [⟨⟨(k : Int) + 1, (k : Int) + 1, E, 1 + pickOf p.fr 40, 0, 0⟩, p.A, p.c, p.al⟩]).toArray 45)) rfl (.tmp 38) (.tmp 52) 31 rfl w.heap.size 45 i0 (.agg #[.int .i64 0, .int .i64 0, .int .i64 0, .int .i64 0, .int .i64 0, .int .i64 0, .slice none 0 0]) 7 72 Try.underlying31 hi0 hz0 hz1 hz2 rfl (by decide) (.slice B k d) k _ rfl HOa.out (some ⟨wr.heap.size, 0, none⟩) 1 1 (evsCells [⟨⟨(k : Int) + 1, (k : Int) + 1, E, 1 + pickOf p.fr 40, 0, 0⟩, p.A, p.c, p.al⟩]) rfl (fun e => by cases e) HNR.out (evs_ones _) (by unfold maxLen; omega) (by omega) HBa.out.size ?_; intro B1 c1' w4 hown1 hgrow1 hat1; have Hb1 := Lib.hid (HBa.out.grown hgrow1 HBa.out.size (own_ge HOa.out)); have Hown1 := Lib.hid (REL.out _ HIN.out _ _ _ hown1); clear hown1 hgrow1 hat1))
            go_roundw
            case rel => exact ⟨k + 1, B1, c1', by omega, by omega, by go_num, by rw [HE1.out]; rfl, rfl, Hown1.out, Hb1.out⟩
            case measure => simp [intOf]; omega
          · have hi0' : ¬ E < pickOf p.inn 12 ∨ E < pickOf p.inn 12 := by omega
            rcases hi0' with hi0' | hi0'
            · have HNR := Lib.hid (evs_new wr 45 [⟨⟨(k : Int) + 1, (k : Int) + 1, E, 1 + pickOf p.fr 40, 0, 0⟩, p.A, p.c, p.al⟩] (by simp [maxLen]))
              have HOa := Lib.hid (own_below HO.out (balloc wr (.cells (evsCells [⟨⟨(k : Int) + 1, (k : Int) + 1, E, 1 + pickOf p.fr 40, 0, 0⟩, p.A, p.c, p.al⟩]).toArray 45)))
              have HBa := Lib.hid (hB.alloc hB.size (.cells (evsCells [⟨⟨(k : Int) + 1, (k : Int) + 1, E, 1 + pickOf p.fr 40, 0, 0⟩, p.A, p.c, p.al⟩]).toArray 45))
              go_wp2_with (first
                | (go_at_call 22; ((with_reducible refine (pick_any p.fr 40 _ w1.1 w1.2 (by omega) (by omega)).mono ?_); rintro e w' ⟨rfl, rfl⟩))
                | (go_at_call 22; refine (pick_any p.inn 12 _ w2.1 w2.2 (by omega) (by omega)).mono ?_; rintro e w' ⟨rfl, rfl⟩)
                | (at_builtin; refine wpList_append_rd (wr.alloc (.cells (evsCells [⟨⟨(k : Int) + 1, (k : Int) + 1, E, 1 + pickOf p.fr 40, 0, 0⟩, p.A, p.c, p.al⟩]).toArray 45)) rfl (.tmp 38) (.tmp 52) 31 rfl w.heap.size 45 i0 (.agg #[.int .i64 0, .int .i64 0, .int .i64 0, .int .i64 0, .int .i64 0, .int .i64 0, .slice none 0 0]) 7 72 Try.underlying31 hi0 hz0 hz1 hz2 rfl (by decide) (.slice B k d) k _ rfl HOa.out (some ⟨wr.heap.size, 0, none⟩) 1 1 (evsCells [⟨⟨(k : Int) + 1, (k : Int) + 1, E, 1 + pickOf p.fr 40, 0, 0⟩, p.A, p.c, p.al⟩]) rfl (fun e => by cases e) HNR.out (evs_ones _) (by unfold maxLen; omega) (by omega) HBa.out.size ?_; intro B1 c1' w4 hown1 hgrow1 hat1; have Hb1 := Lib.hid (HBa.out.grown hgrow1 HBa.out.size (own_ge HOa.out)); have Hown1 := Lib.hid (REL.out _ HIN.out _ _ _ hown1); clear hown1 hgrow1 hat1))
              go_roundw
              case rel => exact ⟨k + 1, B1, c1', by omega, by omega, by go_num, by rw [HE1.out]; rfl, rfl, Hown1.out, Hb1.out⟩
              case measure => simp [intOf]; omega
            · have HNR := Lib.hid (evs_new wr 45 [⟨⟨(k : Int) + 1, (k : Int) + 1, E, 1 + pickOf p.fr 40, 0, 0⟩, p.A, p.c, p.al⟩] (by simp [maxLen]))
              have HOa := Lib.hid (own_below HO.out (balloc wr (.cells (evsCells [⟨⟨(k : Int) + 1, (k : Int) + 1, E, 1 + pickOf p.fr 40, 0, 0⟩, p.A, p.c, p.al⟩]).toArray 45)))
              have HBa := Lib.hid (hB.alloc hB.size (.cells (evsCells [⟨⟨(k : Int) + 1, (k : Int) + 1, E, 1 + pickOf p.fr 40, 0, 0⟩, p.A, p.c, p.al⟩]).toArray 45))
              go_wp2_with (first
                | (go_at_call 22; ((with_reducible refine (pick_any p.fr 40 _ w1.1 w1.2 (by omega) (by omega)).mono ?_); rintro e w' ⟨rfl, rfl⟩))
                | (go_at_call 22; refine (pick_any p.inn 12 _ w2.1 w2.2 (by omega) (by omega)).mono ?_; rintro e w' ⟨rfl, rfl⟩)
                | (at_builtin; refine wpList_append_rd (wr.alloc (.cells (evsCells [⟨⟨(k : Int) + 1, (k : Int) + 1, E, 1 + pickOf p.fr 40, 0, 0⟩, p.A, p.c, p.al⟩]).toArray 45)) rfl (.tmp 38) (.tmp 52) 31 rfl w.heap.size 45 i0 (.agg #[.int .i64 0, .int .i64 0, .int .i64 0, .int .i64 0, .int .i64 0, .int .i64 0, .slice none 0 0]) 7 72 Try.underlying31 hi0 hz0 hz1 hz2 rfl (by decide) (.slice B k d) k _ rfl HOa.out (some ⟨wr.heap.size, 0, none⟩) 1 1 (evsCells [⟨⟨(k : Int) + 1, (k : Int) + 1, E, 1 + pickOf p.fr 40, 0, 0⟩, p.A, p.c, p.al⟩]) rfl (fun e => by cases e) HNR.out (evs_ones _) (by unfold maxLen; omega) (by omega) HBa.out.size ?_; intro B1 c1' w4 hown1 hgrow1 hat1; have Hb1 := Lib.hid (HBa.out.grown hgrow1 HBa.out.size (own_ge HOa.out)); have Hown1 := Lib.hid (REL.out _ HIN.out _ _ _ hown1); clear hown1 hgrow1 hat1))
              go_roundw
              case rel => exact ⟨k + 1, B1, c1', by omega, by omega, by go_num, by rw [HE1.out]; rfl, rfl, Hown1.out, Hb1.out⟩
              case measure => simp [intOf]; omega
        · have hin : pickOf p.inn 12 = innOf E p := by unfold innOf; rw [if_neg hi]
          have HIN := Lib.hid hin
          have hi1 : ¬ E < pickOf p.inn 12 := fun h => hi (.inl h)
          have hi2 : ¬ 8 < pickOf p.inn 12 := fun h => hi (.inr h)
          clear hin hi
          have HNR := Lib.hid (evs_new wr 45 [⟨⟨(k : Int) + 1, (k : Int) + 1, E, 1 + pickOf p.fr 40, (pickOf p.inn 12), 0⟩, p.A, p.c, p.al⟩] (by simp [maxLen]))
          have HOa := Lib.hid (own_below HO.out (balloc wr (.cells (evsCells [⟨⟨(k : Int) + 1, (k : Int) + 1, E, 1 + pickOf p.fr 40, (pickOf p.inn 12), 0⟩, p.A, p.c, p.al⟩]).toArray 45)))
          have HBa := Lib.hid (hB.alloc hB.size (.cells (evsCells [⟨⟨(k : Int) + 1, (k : Int) + 1, E, 1 + pickOf p.fr 40, (pickOf p.inn 12), 0⟩, p.A, p.c, p.al⟩]).toArray 45))
          go_wp2_with (first
            | (go_at_call 22; ((with_reducible refine (pick_any p.fr 40 _ w1.1 w1.2 (by omega) (by omega)).mono ?_); rintro e w' ⟨rfl, rfl⟩))
            | (go_at_call 22; refine (pick_any p.inn 12 _ w2.1 w2.2 (by omega) (by omega)).mono ?_; rintro e w' ⟨rfl, rfl⟩)
            | (at_builtin; refine wpList_append_rd (wr.alloc (.cells (evsCells [⟨⟨(k : Int) + 1, (k : Int) + 1, E, 1 + pickOf p.fr 40, (pickOf p.inn 12), 0⟩, p.A, p.c, p.al⟩]).toArray 45)) rfl (.tmp 38) (.tmp 52) 31 rfl w.heap.size 45 i0 (.agg #[.int .i64 0, .int .i64 0, .int .i64 0, .int .i64 0, .int .i64 0, .int .i64 0, .slice none 0 0]) 7 72 Try.underlying31 hi0 hz0 hz1 hz2 rfl (by decide) (.slice B k d) k _ rfl HOa.out (some ⟨wr.heap.size, 0, none⟩) 1 1 (evsCells [⟨⟨(k : Int) + 1, (k : Int) + 1, E, 1 + pickOf p.fr 40, (pickOf p.inn 12), 0⟩, p.A, p.c, p.al⟩]) rfl (fun e => by cases e) HNR.out (evs_ones _) (by unfold maxLen; omega) (by omega) HBa.out.size ?_; intro B1 c1' w4 hown1 hgrow1 hat1; have Hb1 := Lib.hid (HBa.out.grown hgrow1 HBa.out.size (own_ge HOa.out)); have Hown1 := Lib.hid (REL.out _ HIN.out _ _ _ hown1); clear hown1 hgrow1 hat1))
          go_roundw
          case rel => exact ⟨k + 1, B1, c1', by omega, by omega, by go_num, by rw [HE1.out]; rfl, rfl, Hown1.out, Hb1.out⟩
          case measure => simp [intOf]; omega
      · have h12' : decide (k < 12) = false := by simpa using h12
        go_wp2_with fail
        go_ret
        exact ENDS.out (by omega)
    · have hlt' : decide (k < ps.length) = false := by simpa using hlt
      go_wp2_with fail
      go_ret
      exact ENDS.out (by omega)
end Go.Proofs.Ytfpnjlfcnfjkdaa
