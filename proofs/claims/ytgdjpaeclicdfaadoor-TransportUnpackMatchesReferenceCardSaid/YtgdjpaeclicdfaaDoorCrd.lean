/- What the listed variables hold gives Laid; the door's own heap meets it. -/
import Derived.Test.YtgdjpaeclicdfaaDoorRows
import Derived.Test.YtgdjpaeclicdfaaDoorTrA
import Derived.ProofKit
import Derived.LaidMore
import Derived.OpenShut
import Derived.Stop.Joined
import Derived.Deep.Strs
namespace Go.Proofs.YtgdjpaeclicdfaaDoor
open Go.ChangeShapes Go.WideShapes Go.ChangeAt Go.WideMaps Go.WideElems Go.RowKit
set_option linter.unusedVariables false

def laid2 : List (String × DataW Unit) := [("onair/timecode.rates", Rows.laid_onair_timecode_rates), ("onair/wire.remainders", Rows.laid_onair_wire_remainders)]
theorem gRates : Tryd.prog.globalNamed "onair/timecode.rates" = some 0 := by kernel_rfl
theorem gRem : Tryd.prog.globalNamed "onair/wire.remainders" = some 1 := by kernel_rfl
theorem door_met (os : Os) (args : Array Value) : laidMetH Tryd.prog laid2 ((World.doorLaid Tryd.prog 4000 os).forCall (fun _ _ => 0) ⟨#[], args, []⟩).memory :=
  laidMetH_of_parts3 (fuel := 12) (laidMet_of_run' 12 (by kernel_rfl) (by kernel_rfl)) (by kernel_rfl) (by kernel_rfl)
theorem int_cell {H : Type} {enc : TypeId × Value → H} {P : Program} {w : World} {base : Nat} {spare : Nat → Bool} {held : Bool} {fuel : Nat} {t : TypeId} {cs : List Value} {x : DataW H × List MemPlace} {k : IntKind} (ht : P.underlying t = some (.int k)) (h : DataW.trod enc P w base spare held fuel t cs = some x) :
    ∃ n, cs = [.int k n] ∧ x.1 = .lit (.int k n) := by
  obtain ⟨n, rfl, rfl, _⟩ := DataW.trod_int ht h
  exact ⟨n, rfl, rfl⟩
theorem seg_get {cs l : List Value} {o n : Nat} (h : (cs.drop o).take n = l) {j : Nat} {v : Value} (hv : l[j]? = some v) : cs[o + j]? = some v := by
  subst h
  have hj : j < n := by
    have := (List.getElem?_eq_some_iff.1 hv).1
    simp at this; omega
  rw [List.getElem?_take_of_lt hj, List.getElem?_drop] at hv
  exact hv
def litI {H : Type} : DataW H → Int
  | .lit (.int _ n) => n
  | _ => 0
def rowI {H : Type} : DataW H → List Int
  | .agg [.agg [a, b], c, d] => [litI a, litI b, litI c, litI d]
  | _ => []
def ofAgg {H : Type} : DataW H → List (DataW H)
  | .agg l => l
  | _ => []
set_option maxRecDepth 100000 in
theorem laid_of {W : World} (h : laidMetH Tryd.prog laid2 W) : Laid W := by
  rw [MakeChecks.laidMetH_plain _ _ _ (by kernel_rfl)] at h
  obtain ⟨ps, ⟨g0, t0, cs0, f0, p0, q0, hg0, ht0, hv0, hd0, ⟨g1, t1, cs1, f1, p1, q1, hg1, ht1, hv1, hd1, _, _⟩, _⟩, _, _⟩ := h
  obtain rfl := Option.some.inj (gRates.symm.trans hg0)
  obtain rfl := Option.some.inj (gRem.symm.trans hg1)
  obtain rfl := Option.some.inj ((show (Tryd.prog.globals[0]?).map (·.type) = some 118 by kernel_rfl).symm.trans ht0)
  obtain rfl := Option.some.inj ((show (Tryd.prog.globals[1]?).map (·.type) = some 137 by kernel_rfl).symm.trans ht1)
  obtain ⟨xs0, m0, _, hx0, _, hn0, hel0⟩ := DataW.trod_array (n := 8) (e := 91) (by kernel_rfl) hd0
  obtain ⟨xs1, m1, _, hx1, _, hn1, hel1⟩ := DataW.trod_array (n := 16) (e := 128) (by kernel_rfl) hd1
  rw [show Tryd.prog.cellsOf 91 = 4 by kernel_rfl] at hel0
  rw [show Tryd.prog.cellsOf 128 = 1 by kernel_rfl] at hel1
  have e0 : xs0.map (fun x => rowI x.1) = (ofAgg (Rows.laid_onair_timecode_rates (H := Unit))).map rowI := by
    have := congrArg (fun x => (ofAgg x.1).map rowI) hx0
    simpa [ofAgg, Function.comp_def] using this.symm
  have e1 : xs1.map (fun x => litI x.1) = (ofAgg (Rows.laid_onair_wire_remainders (H := Unit))).map litI := by
    have := congrArg (fun x => (ofAgg x.1).map litI) hx1
    simpa [ofAgg, Function.comp_def] using this.symm
  refine ⟨fun i hi => ?_, fun i hi => ?_⟩
  · have hxi : xs1[i]? = some xs1[i] := List.getElem?_eq_getElem (by omega)
    obtain ⟨n, hseg, hlit⟩ := int_cell (k := .u32) (by kernel_rfl) ((hel1 i hi).trans hxi)
    have hc := seg_get hseg (j := 0) rfl
    have hl : (xs1.map (fun x => litI x.1))[i]? = some n := by rw [List.getElem?_map, hxi]; simp [hlit, litI]
    rw [e1] at hl
    have hn : n = ((crcTab.getD i 0 : Nat) : Int) := by
      have : ∀ j, j < 16 → ((ofAgg (Rows.laid_onair_wire_remainders (H := Unit))).map litI)[j]? = some ((crcTab.getD j 0 : Nat) : Int) := by decide
      rw [this i hi] at hl
      exact (Option.some.inj hl).symm
    rw [← hn, show 0 + i * 1 = i * 1 + 0 by omega]
    have := World.var?_cell hg1 hv1 (i * 1 + 0)
    rw [this]
    simpa using hc
  · have hr : i / 4 < 8 := by omega
    have hxi : xs0[i / 4]? = some xs0[i / 4] := List.getElem?_eq_getElem (by omega)
    obtain ⟨y0, y1, y2, n', hy, _, h0, h1, h2⟩ := Deep.trod_struct3 Tryd.underlying91 ((hel0 (i / 4) hr).trans hxi)
    obtain ⟨z0, z1, n2, hz, _, k0, k1⟩ := trod_struct2 Tryd.underlying23 h0
    obtain ⟨a, sa, la⟩ := int_cell (k := .i64) Tryd.underlying3 k0
    obtain ⟨b, sb, lb⟩ := int_cell (k := .i64) Tryd.underlying3 k1
    obtain ⟨c, sc, lc⟩ := int_cell (k := .i64) Tryd.underlying3 h1
    obtain ⟨d, sd, ld⟩ := int_cell (k := .i64) Tryd.underlying3 h2
    have a3 := seg_get rfl (seg_get rfl (seg_get sa (j := 0) rfl))
    have b3 := seg_get rfl (seg_get rfl (seg_get sb (j := 0) rfl))
    have c3 := seg_get rfl (seg_get sc (j := 0) rfl)
    have d3 := seg_get rfl (seg_get sd (j := 0) rfl)
    have hl : (xs0.map (fun x => rowI x.1))[i / 4]? = some [a, b, c, d] := by
      rw [List.getElem?_map, hxi, hy, hz]
      simp only [Option.map_some, rowI, la, lb, lc, ld, litI]
    rw [e0] at hl
    have key : ∀ r, r < 8 → ((ofAgg (Rows.laid_onair_timecode_rates (H := Unit))).map rowI)[r]? = some [rateCells.getD (4 * r) 0, rateCells.getD (4 * r + 1) 0, rateCells.getD (4 * r + 2) 0, rateCells.getD (4 * r + 3) 0] := by decide
    rw [key _ hr] at hl
    simp only [Option.some.injEq, List.cons.injEq, and_true] at hl
    obtain ⟨rfl, rfl, rfl, rfl⟩ := hl
    have hv := World.var?_cell hg0 hv0 i
    rw [hv]
    obtain ⟨r, hr2⟩ : ∃ r, i / 4 = r := ⟨_, rfl⟩
    rw [hr2] at a3 b3 c3 d3
    have hi4 : i = 4 * r ∨ i = 4 * r + 1 ∨ i = 4 * r + 2 ∨ i = 4 * r + 3 := by omega
    rw [← Array.getElem?_toList]
    rcases hi4 with rfl | rfl | rfl | rfl
    · refine Eq.trans ?_ a3; congr 1; simp; try omega
    · refine Eq.trans ?_ b3; congr 1; simp; try omega
    · refine Eq.trans ?_ c3; congr 1; simp; try omega
    · refine Eq.trans ?_ d3; congr 1; simp; try omega
end Go.Proofs.YtgdjpaeclicdfaaDoor
