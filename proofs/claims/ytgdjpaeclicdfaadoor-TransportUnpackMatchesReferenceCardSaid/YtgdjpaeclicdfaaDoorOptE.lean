/- Contract of optout's take: integers read from a string into places of memory. -/
import Derived.Test.YtgdjpaeclicdfaaDoorBase2
import Derived.Test.YtgdjpaeclicdfaaDoorWireI
import Derived.Handy
namespace Go.Proofs.YtgdjpaeclicdfaaDoor
open Go.ChangeShapes Go.WideShapes Go.ChangeAt Go.RowKit
set_option linter.unusedVariables false

/-- Integers read one behind the other: those that were read, and the place behind them all. -/
def rdN (l : List UInt8) : Nat → Nat → List Int × Option Nat
  | 0, k => ([], some k)
  | m + 1, k => match rdInt l k with
    | none => ([], none)
    | some (n, e) => (n :: (rdN l m e).1, (rdN l m e).2)
def takeV : Option Nat → Value
  | none => .tuple #[.int .i64 0, .bool false]
  | some k => .tuple #[.int .i64 k, .bool true]
def wrs (w : World) (l : List ((Nat × Nat) × Int)) : World := l.foldl (fun w x => w.setCell ⟨x.1.1, x.1.2, none⟩ (.int .i64 x.2)) w
theorem wrs_block (l : List ((Nat × Nat) × Int)) (b : Nat) (h : ∀ x ∈ l, x.1.1 ≠ b) : ∀ w : World, (wrs w l).heap[b]? = w.heap[b]? := by
  induction l with
  | nil => intro w; rfl
  | cons x l ih =>
    intro w
    simp only [wrs, List.foldl_cons]
    exact (ih (fun y hy => h y (List.mem_cons_of_mem _ hy)) _).trans (Below.heap_setCell _ _ _ _ (fun e => h x (List.mem_cons_self ..) e.symm))
theorem wrs_snoc (w : World) (l : List ((Nat × Nat) × Int)) (b o : Nat) (n : Int) : wrs w (l ++ [((b, o), n)]) = (wrs w l).setCell ⟨b, o, none⟩ (.int .i64 n) := by simp [wrs]
theorem wrs_below (l : List ((Nat × Nat) × Int)) (B : Nat) (h : ∀ x ∈ l, B ≤ x.1.1) : ∀ (a w : World), Below B a w → Below B a (wrs w l) := by
  induction l with
  | nil => intro a w hw; exact hw
  | cons x l ih =>
    intro a w hw
    simp only [wrs, List.foldl_cons]
    exact ih (fun y hy => h y (List.mem_cons_of_mem _ hy)) _ _ (hw.setCell (h x (List.mem_cons_self ..)) _)
/-- A cell that may be written. -/
def Place (w : World) (b o : Nat) : Prop := ∃ t vs, Box w b t vs ∧ o < vs.size
theorem Place.set {w : World} {b o : Nat} (h : Place w b o) (b' o' : Nat) (v : Value) : Place (w.setCell ⟨b', o', none⟩ v) b o := by
  obtain ⟨t, vs, h1, h2⟩ := h
  by_cases hb : b = b'
  · subst hb
    exact ⟨t, _, h1.set v, by simpa using h2⟩
  · exact ⟨t, vs, h1.set_ne v hb, h2⟩
theorem Place.wrs (l : List ((Nat × Nat) × Int)) {b o : Nat} : ∀ {w : World}, Place w b o → Place (wrs w l) b o := by
  induction l with
  | nil => intro w h; exact h
  | cons x l ih => intro w h; simp only [Proofs.YtgdjpaeclicdfaaDoor.wrs, List.foldl_cons]; exact ih (h.set _ _ _)
theorem rdInt_le {l : List UInt8} {k e : Nat} {n : Int} (hk : k ≤ l.length) (h : rdInt l k = some (n, e)) : k < e ∧ e ≤ l.length := by
  obtain ⟨_, _, h3, h4, _⟩ := rdInt_canon hk h
  have := (encInt_len n).1
  omega
theorem zip_take_len {α β : Type} (a : List α) (b : List β) : (a.take b.length).zip b = a.zip b := by
  induction a generalizing b with
  | nil => simp
  | cons x a ih =>
    cases b with
    | nil => simp
    | cons y b => simp [ih]
abbrev ptrs (ps : List (Nat × Nat)) : List Value := ps.map fun p => .pointer (some ⟨p.1, p.2, none⟩)

set_option maxRecDepth 100000 in
set_option maxHeartbeats 2000000 in
theorem take_any (s : ByteArray) (k : Nat) (P : Option Addr) (m c : Nat) (ps : List (Nat × Nat)) (w : World) (hs : s.size ≤ 9000000000000000000) (hk : k ≤ s.size) (hm : m ≤ 1000)
    (hp : Rd w 1 P m (ptrs ps)) (hpl : ∀ p ∈ ps, Place w p.1 p.2) (hne : ∀ b off, P = some ⟨b, off, none⟩ → ∀ p ∈ ps, p.1 ≠ b) :
    Calls Tryd.prog 67 #[.string s, .int .i64 k, .slice P m c] w fun e w' => e = .returned (takeV (rdN s.data.toList m k).2) ∧ w' = wrs w (ps.zip (rdN s.data.toList m k).1) := by
  have HP := Lib.hid hp
  have HPL := Lib.hid hpl
  have HNE := Lib.hid hne
  have hlen : ps.length = m := by simpa using hp.1
  clear hp hpl hne
  go_enter Tryd.func67, Tryd.ntmps67
  go_wp2_with fail
  go_loopw [1, 15] (fun q i wr => ∃ (j kj : Nat) (vs : List Int), j ≤ m ∧ kj ≤ s.size ∧ i = .int .i64 j ∧ q = .int .i64 kj ∧ vs.length = j ∧
      rdN s.data.toList m k = (vs ++ (rdN s.data.toList (m - j) kj).1, (rdN s.data.toList (m - j) kj).2) ∧ wr = wrs w ((ps.take j).zip vs)) (fun _ i _ => m - (intOf i).toNat)
  case atStart => exact ⟨0, k, [], Nat.zero_le _, hk, rfl, rfl, rfl, by simp, by simp [wrs]⟩
  case round =>
    obtain ⟨j, kj, vs, hj, hkj, rfl, rfl, hvs, hst, hwr⟩ := hrel
    have HST := Lib.hid hst
    have HWR := Lib.hid hwr
    clear hst hwr
    by_cases hlt : j < m
    · obtain ⟨pb, off, v, rfl, hpb, hv, hcell⟩ := HP.out.cell hlt
      have hjl : j < ps.length := by omega
      obtain ⟨⟨b, o⟩, hpj⟩ : ∃ p, ps[j]? = some p := ⟨ps[j], List.getElem?_eq_getElem hjl⟩
      have hmem : (b, o) ∈ ps := List.mem_of_getElem? hpj
      have hv' : v = .pointer (some ⟨b, o, none⟩) := by rw [List.getElem?_map, hpj] at hv; simpa using hv.symm
      subst hv'
      have hcr : wr.cell? ⟨pb, off + j, none⟩ = some (.pointer (some ⟨b, o, none⟩)) := by
        rw [HWR.out]
        refine (World.cell?_of_block ?_).trans hcell
        refine wrs_block _ _ (fun x hx => ?_) _
        have := List.of_mem_zip (a := x.1) (b := x.2) hx
        exact HNE.out pb off rfl _ (List.mem_of_mem_take this.1)
      obtain ⟨t, cs, hbox, hsz⟩ : Place wr b o := by rw [HWR.out]; exact (HPL.out _ hmem).wrs _
      have hcb := hbox.cell (i := o) (Array.getElem?_eq_getElem hsz)
      have hfb := hbox.frozen o
      have HT := Lib.hid (show ps.take (j + 1) = ps.take j ++ [(b, o)] by rw [List.take_add_one, hpj]; rfl)
      have e1 : m - j = (m - (j + 1)) + 1 := by omega
      rw [e1] at HST
      clear hcell hbox hv hmem hpj
      cases hr : rdInt s.data.toList kj with
      | none =>
        have HR := Lib.hid hr
        have HST' : Hid (rdN s.data.toList m k = (vs, none)) := Lib.hid (by rw [HST.out]; simp [rdN, hr])
        clear hr
        go_wp2_with fail
        refine (wint_any s kj _ hs hkj).mono ?_
        rintro e w1 ⟨rfl, rfl⟩
        rw [HR.out]
        unfold int3
        go_wp2_with fail
        go_ret2
        refine ⟨by rw [HST'.out]; rfl, ?_⟩
        rw [HST'.out, HWR.out]
        have : ps.zip vs = (ps.take j).zip vs := by
          rw [← hvs]
          exact (zip_take_len _ _).symm
        rw [this]
      | some p =>
        obtain ⟨n, e2⟩ := p
        obtain ⟨l1, l2⟩ := rdInt_le (by simpa using hkj) hr
        have HR := Lib.hid hr
        have HST' : Hid (rdN s.data.toList m k = ((vs ++ [n]) ++ (rdN s.data.toList (m - (j + 1)) e2).1, (rdN s.data.toList (m - (j + 1)) e2).2)) := Lib.hid (by rw [HST.out]; simp [rdN, hr])
        clear hr
        go_wp2_with fail
        refine (wint_any s kj _ hs hkj).mono ?_
        rintro e w1 ⟨rfl, rfl⟩
        rw [HR.out]
        unfold int3
        go_wp2_with fail
        go_roundw
        case rel =>
          refine ⟨j + 1, e2, vs ++ [n], by omega, by simpa using l2, by go_num, rfl, by simp [hvs], HST'.out, ?_⟩
          rw [HT.out, List.zip_append (by simp; omega), HWR.out]
          exact (wrs_snoc _ _ _ _ _).symm
        case measure => simp [intOf]; omega
    · obtain rfl : j = m := by omega
      go_wp2_with fail
      go_ret2
      have e0 : rdN s.data.toList j k = (vs, some kj) := by rw [HST.out]; simp [rdN]
      rw [e0]
      refine ⟨rfl, ?_⟩
      rw [HWR.out, List.take_of_length_le (by omega)]
end Go.Proofs.YtgdjpaeclicdfaaDoor
