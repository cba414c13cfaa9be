/- The arguments of chapter 17's laws, opened. -/
import Derived.Test.YtfpnjlfcnfjkdaaOptP
namespace Go.Proofs.Ytfpnjlfcnfjkdaa
open Go.ChangeShapes Go.WideShapes Go.ChangeAt Go.RowKit
set_option linter.unusedVariables false

def wf64 (n : Int) : Prop := (Lit.int .i64 n).wf = true
noncomputable def opI : Op Try.prog 3 Int := opInt .i64 Try.underlying3 (by kernel_rfl)
noncomputable def opAlt0 : Op Try.prog 50 (Int × (Int × Unit)) := opStruct (opCons opI (opCons opI (opNil _) rfl) rfl) Try.underlying50 (by kernel_rfl)
noncomputable def opAlt : Op Try.prog 50 (Int × Int) := opMap opAlt0 (fun p => (p.1, p.2.1)) (fun a => [.int .i64 a.1, .int .i64 a.2]) (fun _ a => wf64 a.1 ∧ wf64 a.2) (fun a => rfl) (fun w a h => ⟨h.1, h.2.1⟩) (fun _ => rfl)
noncomputable def opAlts : Op Try.prog 22 (Sl (Int × Int)) := opSlice opAlt 16 Try.underlying22 (by kernel_rfl) (by kernel_rfl) (by decide)
/-- An opt-out as it lies in memory. -/
structure OptA where
  s : Int
  f : Int
  A : Option Addr
  c : Nat
  al : Alts
def OptA.ok (w : World) (o : OptA) : Prop := IsAlts w o.A o.al.length o.al ∧ o.al.length ≤ o.c ∧ o.c ≤ maxLen ∧ (o.A = none → o.c = 0) ∧ o.c * 16 ≤ reachBytes ∧ wf64 o.s ∧ wf64 o.f ∧ (∀ a ∈ o.al, wf64 a.1 ∧ wf64 a.2)
noncomputable def opOpt0 : Op Try.prog 24 (Int × (Int × (Sl (Int × Int) × Unit))) := opStruct (opCons opI (opCons opI (opCons opAlts (opNil _) rfl) rfl) rfl) Try.underlying24 (by kernel_rfl)
noncomputable def opOpt : Op Try.prog 24 OptA := opMap opOpt0 (fun p => ⟨p.1, p.2.1, p.2.2.1.A, p.2.2.1.c, p.2.2.1.l⟩) (fun o => [.int .i64 o.s, .int .i64 o.f, .slice o.A o.al.length o.c]) OptA.ok (fun a => rfl)
  (fun w a h => ⟨⟨rfl, h.2.2.1.1⟩, h.2.2.1.2.2.1, h.2.2.1.2.2.2.1, h.2.2.1.2.2.2.2.1, h.2.2.1.2.2.2.2.2, h.1, h.2.1, h.2.2.1.2.1⟩) (fun _ => rfl)
/-- Whether the numbers of an event are in their range. -/
def EvA.wf (e : EvA) : Prop := wf64 e.ev.entry ∧ wf64 e.ev.item ∧ wf64 e.ev.start ∧ wf64 e.ev.frames ∧ wf64 e.ev.inn ∧ wf64 e.ev.regions ∧ (∀ a ∈ e.al, wf64 a.1 ∧ wf64 a.2)
noncomputable def opEv0 : Op Try.prog 45 (Int × (Int × (Int × (Int × (Int × (Int × (Sl (Int × Int) × Unit))))))) := opStruct (opCons opI (opCons opI (opCons opI (opCons opI (opCons opI (opCons opI (opCons opAlts (opNil _) rfl) rfl) rfl) rfl) rfl) rfl) rfl) Try.underlying45 (by kernel_rfl)
noncomputable def opEv : Op Try.prog 45 EvA := opMap opEv0 (fun ⟨x0, x1, x2, x3, x4, x5, x6, _⟩ => ⟨⟨x0, x1, x2, x3, x4, x5⟩, x6.A, x6.c, x6.l⟩) (fun e => e.cells.toList) (fun w e => e.ok w ∧ e.wf) (fun a => rfl)
  (fun w a h => ⟨⟨⟨rfl, h.2.2.2.2.2.2.1.1⟩, h.2.2.2.2.2.2.1.2.2.1, h.2.2.2.2.2.2.1.2.2.2.1, h.2.2.2.2.2.2.1.2.2.2.2.1, h.2.2.2.2.2.2.1.2.2.2.2.2⟩, h.1, h.2.1, h.2.2.1, h.2.2.2.1, h.2.2.2.2.1, h.2.2.2.2.2.1, h.2.2.2.2.2.2.1.2.1⟩) (fun _ => rfl)
noncomputable def opEvs : Op Try.prog 31 (Sl EvA) := opSlice opEv 72 Try.underlying31 (by kernel_rfl) (by kernel_rfl) (by decide)
theorem opEvs_is {w : World} {l : Sl EvA} (h : opEvs.ok w l) : IsEvs w l.A l.l.length l.l ∧ l.l.length ≤ l.c ∧ l.c ≤ maxLen ∧ (l.A = none → l.c = 0) := ⟨⟨rfl, h.1, fun e he => (h.2.1 e he).1⟩, h.2.2.1, h.2.2.2.1, h.2.2.2.2.1⟩
end Go.Proofs.Ytfpnjlfcnfjkdaa
