/- The arguments of chapter 23's laws, opened. -/
import Derived.Test.YtpaepefpfaoacaaOpenA
import Derived.Test.YtpaepefpfaoacaaSqG
namespace Go.Proofs.Ytpaepefpfaoacaa
open Go.ChangeShapes Go.WideShapes Go.ChangeAt Go.RowKit
set_option linter.unusedVariables false

def wf64 (n : Int) : Prop := (Lit.int .i64 n).wf = true
theorem wf64_bd {n : Int} (h : wf64 n) : -9223372036854775808 ≤ n ∧ n ≤ 9223372036854775807 := by
  unfold wf64 at h
  simp [Lit.wf, IntKind.min, IntKind.max, IntKind.signed, IntKind.bits] at h
  omega
noncomputable def opI : Op Try.prog 3 Int := opInt .i64 Try.underlying3 (by kernel_rfl)
noncomputable def opPc0 : Op Try.prog 82 (Int × (Int × (Int × (Int × (Int × Unit))))) := opStruct (opCons opI (opCons opI (opCons opI (opCons opI (opCons opI (opNil _) rfl) rfl) rfl) rfl) rfl) Try.underlying82 (by kernel_rfl)
noncomputable def opPc : Op Try.prog 82 Pc := opMap opPc0 (fun ⟨a, b, c, d, e, _⟩ => ⟨a, b, c, d, e⟩) (fun p => p.cells.toList) (fun _ p => p.bd) (fun a => rfl)
  (fun w a h => ⟨wf64_bd h.1, wf64_bd h.2.1, wf64_bd h.2.2.1, wf64_bd h.2.2.2.1, wf64_bd h.2.2.2.2.1⟩) (fun _ => rfl)
noncomputable def opPcs : Op Try.prog 25 (SlA Pc) := opSlice opPc 40 Try.underlying25 (by kernel_rfl) (by kernel_rfl) (by decide)
theorem opPcs_is {w : World} {l : SlA Pc} (h : opPcs.ok w l) : IsRow 5 Pc.cells w l.A l.l.length l.l ∧ l.l.length ≤ 9223372036854775807 ∧ ∀ p ∈ l.l, p.bd :=
  ⟨⟨rfl, h.1⟩, by have h1 := h.2.2.1; have h2 := h.2.2.2.1; unfold maxLen at h2; omega, h.2.1⟩
noncomputable def opInts : Op Try.prog 26 (SlA Int) := opSlice opI 8 Try.underlying26 (by kernel_rfl) (by kernel_rfl) (by decide)
theorem opInts_is {w : World} {l : SlA Int} (h : opInts.ok w l) : IsInts w l.A l.l.length l.l ∧ l.l.length ≤ 9223372036854775807 ∧ ∀ z ∈ l.l, -9223372036854775808 ≤ z ∧ z ≤ 9223372036854775807 :=
  ⟨toInts (by have := h.1; have e : l.l.flatMap opI.cells = ints l.l := flat_ints l.l; rw [e] at this; exact this), by have h1 := h.2.2.1; have h2 := h.2.2.2.1; unfold maxLen at h2; omega, fun z hz => wf64_bd (h.2.1 z hz)⟩
noncomputable def opA4 : Op Try.prog 22 (Nat → Int) := opArr opI 4 (by decide) Try.underlying22 (by kernel_rfl)
noncomputable def opFiles0 : Op Try.prog 24 (Nat → Nat → Int) := opArr opA4 5 (by decide) Try.underlying24 (by kernel_rfl)
noncomputable def opFiles : Op Try.prog 24 (Nat → Int) := opMap opFiles0 (fun f i => f (i / 4) (i % 4)) (fun X => (List.range 20).map fun i => .int .i64 (X i)) (fun _ X => ∀ i, -9223372036854775808 ≤ X i ∧ X i ≤ 9223372036854775807) (fun a => rfl)
  (fun w a h i => wf64_bd (h (i / 4) (i % 4))) (fun X => by rw [List.length_map, List.length_range]; rfl)
end Go.Proofs.Ytpaepefpfaoacaa
