/- TransportRoundTrip: the walk's head. -/
import Derived.Test.YtgdjpaeclicdfaaDoorLwD
import Derived.Test.YtgdjpaeclicdfaaDoorTrOp
namespace Go.Proofs.YtgdjpaeclicdfaaDoor.transportRoundTrip
open Go.ChangeShapes Go.WideShapes Go.ChangeAt Go.RowKit
theorem walk (c : Int) (u : Un) (s : ByteArray) (w : World) (hL : Laid w) (hc : (Lit.int .i64 c).wf = true) (hu : opUn.ok w u) (_hs : s.size ≤ reachBytes) :
    Calls Tryd.prog 5 #[.int .i64 c, .agg (opUn.cells u).toArray, .string s] w fun e w' => e = .returned (.bool true) ∧ Below w.heap.size w w' :=
  roundtrip_all c u s.data.toList w hL (i64_of hc) hu.alts hu.cap hu.nil
end Go.Proofs.YtgdjpaeclicdfaaDoor.transportRoundTrip
