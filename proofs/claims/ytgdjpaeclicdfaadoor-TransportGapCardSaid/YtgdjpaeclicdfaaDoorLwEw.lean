/- TransportGap: the walk's head. -/
import Derived.Test.YtgdjpaeclicdfaaDoorLwE
import Derived.Test.YtgdjpaeclicdfaaDoorTrOp
namespace Go.Proofs.YtgdjpaeclicdfaaDoor.transportGap
open Go.ChangeShapes Go.WideShapes Go.ChangeAt Go.RowKit
theorem walk (c : Int) (u v : Un) (last : Bool) (w : World) (hL : Laid w) (hc : (Lit.int .i64 c).wf = true) (hu : opUn.ok w u) (hv : opUn.ok w v) :
    Calls Tryd.prog 12 #[.int .i64 c, .agg (opUn.cells u).toArray, .agg (opUn.cells v).toArray, .bool last] w fun e w' => e = .returned (.bool true) ∧ Below w.heap.size w w' :=
  gap_all c u v last w hL (i64_of hc) hu.alts hu.cap hu.nil hv.alts hv.cap hv.nil
end Go.Proofs.YtgdjpaeclicdfaaDoor.transportGap
