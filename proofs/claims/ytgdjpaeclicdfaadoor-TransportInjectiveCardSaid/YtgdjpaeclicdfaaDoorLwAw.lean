/- TransportInjective: the walk's head. -/
import Derived.Test.YtgdjpaeclicdfaaDoorLwA
import Derived.Test.YtgdjpaeclicdfaaDoorTrOp
namespace Go.Proofs.YtgdjpaeclicdfaaDoor.transportInjective
open Go.ChangeShapes Go.WideShapes Go.ChangeAt Go.RowKit
theorem walk (c : Int) (u v : Un) (w : World) (hL : Laid w) (hc : (Lit.int .i64 c).wf = true) (hu : opUn.ok w u) (hv : opUn.ok w v) :
    Calls Tryd.prog 6 #[.int .i64 c, .agg (opUn.cells u).toArray, .agg (opUn.cells v).toArray] w fun e w' => e = .returned (.bool true) ∧ Below w.heap.size w w' :=
  injective_any c u v w hL (i64_of hc) hu.alts hu.cap hu.nil hv.alts hv.cap hv.nil
end Go.Proofs.YtgdjpaeclicdfaaDoor.transportInjective
