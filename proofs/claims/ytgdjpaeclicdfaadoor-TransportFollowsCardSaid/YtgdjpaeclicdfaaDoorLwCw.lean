/- TransportFollows: the walk's head. -/
import Derived.Test.YtgdjpaeclicdfaaDoorLwC
import Derived.Test.YtgdjpaeclicdfaaDoorTrOp
namespace Go.Proofs.YtgdjpaeclicdfaaDoor.transportFollows
open Go.ChangeShapes Go.WideShapes Go.ChangeAt Go.RowKit
theorem walk (c : Int) (u v : Un) (k : Int) (same : Bool) (w : World) (hL : Laid w) (hc : (Lit.int .i64 c).wf = true) (hu : opUn.ok w u) (hv : opUn.ok w v) (hk : (Lit.int .i64 k).wf = true) :
    Calls Tryd.prog 11 #[.int .i64 c, .agg (opUn.cells u).toArray, .agg (opUn.cells v).toArray, .int .i64 k, .bool same] w fun e w' => e = .returned (.bool true) ∧ Below w.heap.size w w' :=
  follows_all c k u v same w hL (i64_of hc) (i64_of hk) hu.alts hu.cap hu.nil hv.alts hv.cap hv.nil
end Go.Proofs.YtgdjpaeclicdfaaDoor.transportFollows
