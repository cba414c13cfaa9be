/- TransportPackets: the walk's head. -/
import Derived.Test.YtgdjpaeclicdfaaDoorLwF
import Derived.Test.YtgdjpaeclicdfaaDoorTrOp
namespace Go.Proofs.YtgdjpaeclicdfaaDoor.transportPackets
open Go.ChangeShapes Go.WideShapes Go.ChangeAt Go.RowKit
theorem walk (c : Int) (u : Un) (w : World) (hL : Laid w) (hc : (Lit.int .i64 c).wf = true) (hu : opUn.ok w u) :
    Calls Tryd.prog 7 #[.int .i64 c, .agg (opUn.cells u).toArray] w fun e w' => e = .returned (.bool true) ∧ Below w.heap.size w w' :=
  packets_all c u w hL (i64_of hc) hu.alts hu.cap hu.nil
end Go.Proofs.YtgdjpaeclicdfaaDoor.transportPackets
