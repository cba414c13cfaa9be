/- The laws' arguments opened: a unit. -/
import Derived.Test.YtgdjpaeclicdfaaDoorTrK
import Derived.Test.YtgdjpaeclicdfaaDoorOpen2
namespace Go.Proofs.YtgdjpaeclicdfaaDoor
open Go.ChangeShapes Go.WideShapes Go.ChangeAt Go.RowKit
set_option linter.unusedVariables false

noncomputable def opI : Op Tryd.prog 3 Int := opInt .i64 Tryd.underlying3 (by kernel_rfl)
noncomputable def opS : Op Tryd.prog 9 ByteArray := opStr Tryd.underlying9 (by kernel_rfl)
noncomputable def opB : Op Tryd.prog 4 Bool := opBool Tryd.underlying4 (by kernel_rfl)
noncomputable def opAlt0 : Op Tryd.prog 103 (Int × (Int × Unit)) := opStruct (opCons opI (opCons opI (opNil _) rfl) rfl) Tryd.underlying103 (by kernel_rfl)
noncomputable def opAlt : Op Tryd.prog 103 (Int × Int) := opMap opAlt0 (fun p => (p.1, p.2.1)) (fun a => [.int .i64 a.1, .int .i64 a.2]) (fun _ a => True) (fun a => rfl) (fun w a h => trivial) (fun _ => rfl)
noncomputable def opAlts : Op Tryd.prog 24 (SlA (Int × Int)) := opSlice opAlt 16 Tryd.underlying24 (by kernel_rfl) (by kernel_rfl) (by decide)
noncomputable def opOpt0 : Op Tryd.prog 26 (Int × (Int × (SlA (Int × Int) × Unit))) := opStruct (opCons opI (opCons opI (opCons opAlts (opNil _) rfl) rfl) rfl) Tryd.underlying26 (by kernel_rfl)
noncomputable def opU0 : Op Tryd.prog 28 (Int × (Int × (Int × (Int × (Int × (Bool × (ByteArray × (Int × (Int × (ByteArray × ((Int × (Int × (SlA (Int × Int) × Unit))) × Unit))))))))))) :=
  opStruct (opCons opI (opCons opI (opCons opI (opCons opI (opCons opI (opCons opB (opCons opS (opCons opI (opCons opI (opCons opS (opCons opOpt0 (opNil _) rfl) rfl) rfl) rfl) rfl) rfl) rfl) rfl) rfl) rfl) rfl) Tryd.underlying28 (by kernel_rfl)
def i64 (n : Int) : Prop := -9223372036854775808 ≤ n ∧ n ≤ 9223372036854775807
theorem i64_of {n : Int} (h : (Lit.int .i64 n).wf = true) : i64 n := by
  unfold i64
  simp [Lit.wf, IntKind.min, IntKind.max, IntKind.signed, IntKind.bits] at h
  omega
structure UnOk (w : World) (u : Un) : Prop where
  alts : IsAlts w u.A u.al.length u.al
  cap : u.al.length ≤ u.c
  max : u.c ≤ maxLen
  nil : u.A = none → u.c = 0
  channel : i64 u.channel
  frame : i64 u.frame
noncomputable def opUn : Op Tryd.prog 28 Un := opMap opU0 (fun ⟨a, b, c, d, e, f, g, h, i, j, o, _⟩ => ⟨a, b, c, d, e, f, g.data.toList, h, i, j.data.toList, o.1, o.2.1, o.2.2.1.A, o.2.2.1.c, o.2.2.1.l⟩) (fun u => u.cells.toList) UnOk (fun a => rfl)
  (fun w a h => by
    obtain ⟨a1, a2, a3, a4, a5, a6, a7, a8, a9, a10, o, _⟩ := a
    obtain ⟨h1, h2, h3, h4, h5, h6, h7, h8, h9, h10, ⟨o1, o2, ⟨p1, p2, p3, p4, p5, p6⟩, _⟩, _⟩ := h
    exact ⟨⟨rfl, p1⟩, p3, p4, p5, i64_of h1, i64_of h2⟩) (fun _ => rfl)
end Go.Proofs.YtgdjpaeclicdfaaDoor
