/- TransportMissing: the walk's head. -/
import Derived.Test.YtgdjpaeclicdfaaDoorLwH
import Derived.Test.YtgdjpaeclicdfaaDoorTrOp
namespace Go.Proofs.YtgdjpaeclicdfaaDoor.transportMissing
open Go.ChangeShapes Go.WideShapes Go.ChangeAt Go.RowKit
theorem walk (c : Int) (u : Un) (i0 k0 : Int) (w : World) (hL : Laid w) (hc : (Lit.int .i64 c).wf = true) (hu : opUn.ok w u) (hi : (Lit.int .i64 i0).wf = true) (hk : (Lit.int .i64 k0).wf = true) :
    Calls Tryd.prog 10 #[.int .i64 c, .agg (opUn.cells u).toArray, .int .i64 i0, .int .i64 k0] w fun e w' => e = .returned (.bool true) ∧ Below w.heap.size w w' :=
  missing_all c u i0 k0 w hL (i64_of hc) (i64_of hi) (i64_of hk) hu.alts hu.cap hu.nil
end Go.Proofs.YtgdjpaeclicdfaaDoor.transportMissing
