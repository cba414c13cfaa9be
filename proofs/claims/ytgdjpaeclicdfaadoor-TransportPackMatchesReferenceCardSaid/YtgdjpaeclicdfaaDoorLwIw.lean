/- TransportPackMatchesReference: the walk's head. -/
import Derived.Test.YtgdjpaeclicdfaaDoorLwI
import Derived.Test.YtgdjpaeclicdfaaDoorTrOp
namespace Go.Proofs.YtgdjpaeclicdfaaDoor.transportPackMatchesReference
open Go.ChangeShapes Go.WideShapes Go.ChangeAt Go.RowKit
noncomputable def opRate0 : Op Tryd.prog 23 (Int × (Int × Unit)) := opStruct (opCons opI (opCons opI (opNil _) rfl) rfl) Tryd.underlying23 (by kernel_rfl)
noncomputable def opRate : Op Tryd.prog 23 (Int × Int) := opMap opRate0 (fun p => (p.1, p.2.1)) (fun a => [.int .i64 a.1, .int .i64 a.2]) (fun _ _ => True) (fun _ => rfl) (fun _ _ _ => trivial) (fun _ => rfl)
theorem walk (r : Int × Int) (c : Int) (u v : Un) (w : World) (hL : Laid w) (_hr : opRate.ok w r) (hc : (Lit.int .i64 c).wf = true) (hu : opUn.ok w u) (hv : opUn.ok w v) :
    Calls Tryd.prog 3 #[.agg (opRate.cells r).toArray, .int .i64 c, .agg (opUn.cells u).toArray, .agg (opUn.cells v).toArray] w fun e w' => e = .returned (.bool true) ∧ Below w.heap.size w w' :=
  pmr_all r.1 r.2 c u v w hL (i64_of hc) hu.alts hu.cap hu.nil hv.alts hv.cap hv.nil
end Go.Proofs.YtgdjpaeclicdfaaDoor.transportPackMatchesReference
