/- Contract of optout's put. -/
import Derived.Test.YtgdjpaeclicdfaaDoorBase2
import Derived.Test.YtgdjpaeclicdfaaDoorBuild
import Derived.Test.YtgdjpaeclicdfaaDoorWireW
namespace Go.Proofs.YtgdjpaeclicdfaaDoor
open Go.ChangeShapes Go.WideShapes Go.ChangeAt Go.RowKit
set_option linter.unusedVariables false

def encInts (zs : List Int) : List UInt8 := zs.flatMap encInt
theorem encInts_snoc (zs : List Int) (z : Int) : encInts (zs ++ [z]) = encInts zs ++ encInt z := by simp [encInts]
theorem encInts_len (zs : List Int) : (encInts zs).length ≤ 9 * zs.length := by
  induction zs with
  | nil => simp [encInts]
  | cons z zs ih =>
    have := (encInt_len z).2
    simp only [encInts, List.flatMap_cons, List.length_append, List.length_cons] at *
    omega
theorem builder_below {T e : TypeId} {B b : Nat} {bs : List Value} {w w' : World} (h : Lib.IsBuilder T e B b bs w) (hb : Below w.heap.size w w') : Lib.IsBuilder T e B b bs w' := by
  have key : ∀ p, Lib.BuilderAt T e B b p bs w → Lib.BuilderAt T e B b p bs w' := by
    rintro p ⟨h1, v, h2, h3, h4⟩
    exact ⟨h1, v, by rw [hb.block b (Array.getElem?_eq_some_iff.1 h2).1]; exact h2, own_below h3 hb, h4⟩
  exact h.elim (fun h => .inl (key _ h)) (fun h => .inr (key _ h))
theorem builder_new (w : World) (T e : TypeId) : Lib.IsBuilder T e w.heap.size w.heap.size [] (w.alloc (.cells #[.pointer none, .slice none 0 0] T)) :=
  .inl ⟨Nat.le_refl _, .slice none 0 0, heap_alloc_new w _, World.ownsRow_nil _ _ _ _, by simp [Value.ownBlock]⟩

set_option maxRecDepth 100000 in
set_option maxHeartbeats 2000000 in
theorem put_any (a : Option Addr) (len cap : Nat) (zs : List Int) (w : World) (h : IsInts w a len zs) (hlen : len ≤ 1000000) (hz : ∀ z ∈ zs, -wmax ≤ z ∧ z ≤ wmax) :
    Calls Tryd.prog 83 #[.slice a len cap] w fun e w' => e = .returned (.string ⟨(encInts zs).toArray⟩) ∧ Below w.heap.size w w' := by
  have H := Lib.hid h
  have HZ := Lib.hid hz
  have HB0 := Lib.hid (builder_new w 59 5)
  clear h hz
  go_enter Tryd.func83, Tryd.ntmps83
  go_wp2_with fail
  go_loopw [10] (fun i wr => ∃ k : Nat, k ≤ len ∧ i = .int .i64 k ∧ Lib.IsBuilder 59 5 w.heap.size w.heap.size (Lib.byteCells (encInts (zs.take k))) wr ∧ Below w.heap.size w wr) (fun i _ => len - (intOf i).toNat)
  case atStart => exact ⟨0, Nat.zero_le _, rfl, HB0.out, balloc _ _⟩
  case round =>
    obtain ⟨k, hk, rfl, hbu, hB⟩ := hrel
    have HBU := Lib.hid hbu
    clear hbu
    by_cases hlt : k < len
    · obtain ⟨b, off, rfl, hbl, hcell⟩ := H.out.2.resolve_left (by omega)
      have hc : wr.cell? ⟨b, off + k, none⟩ = some (.int .i64 (zs.getD k 0)) := (hB.cell (p := ⟨b, off + k, none⟩) hbl).trans (hcell k hlt)
      have hkl : k < zs.length := by have := H.out.1; omega
      obtain ⟨z1, z2⟩ := HZ.out (zs.getD k 0) (by simp [List.getD, List.getElem?_eq_getElem hkl])
      have hst : encInts (zs.take (k + 1)) = encInts (zs.take k) ++ encInt (zs.getD k 0) := by rw [take_getD hkl, encInts_snoc]
      have HS := Lib.hid hst
      have hl1 := encInts_len (zs.take k)
      have hl2 : (zs.take k).length ≤ k := List.length_take_le _ _
      have hl3 := (encInt_len (zs.getD k 0)).2
      clear hst hcell
      generalize zs.getD k 0 = z at *
      go_wp2_with fail
      refine (putInt_any _ _ z1 z2).mono ?_
      rintro e w1 ⟨rfl, b1⟩
      unfold putV
      have HBU1 := Lib.hid (builder_below HBU.out b1)
      have hB1 := Lib.hid (hB.trans (b1.mono hB.size))
      go_wp2_with fail
      refine (writeString_any _ _ _ _ _ HBU1.out (by rw [Lib.byteCells_length]; show _ + (encInt z).toArray.size ≤ _; simp; omega) hB1.out.size).mono ?_
      rintro e w2 ⟨rfl, hbu2, b2⟩
      go_wp2_with fail
      go_roundw
      case rel =>
        refine ⟨k + 1, by omega, by go_num, ?_, hB1.out.trans b2⟩
        rw [HS.out]
        have e : Lib.byteCells (encInts (zs.take k) ++ encInt z) = Lib.byteCells (encInts (zs.take k)) ++ Lib.strCells ⟨(encInt z).toArray⟩ := by simp [Lib.byteCells, Lib.strCells]
        rw [e]
        exact .inr hbu2
      case measure => simp [intOf]; omega
    · have hz : zs.take k = zs := List.take_of_length_le (by have := H.out.1; omega)
      rw [hz] at HBU
      clear hz
      go_wp2_with fail
      refine (bString_any _ _ _ _ HBU.out hB.size).mono ?_
      rintro e w1 ⟨rfl, b1⟩
      go_wp2_with fail
      go_ret
      exact ⟨rfl, hB.trans b1⟩
end Go.Proofs.YtgdjpaeclicdfaaDoor
