/- TransportUnpackMatchesReference: the walk's head. -/
import Derived.Test.YtgdjpaeclicdfaaDoorLwJ
namespace Go.Proofs.YtgdjpaeclicdfaaDoor.transportUnpackMatchesReference
open Go.ChangeShapes Go.WideShapes Go.ChangeAt Go.RowKit
theorem walk (c : Int) (s t : ByteArray) (w : World) (hL : Laid w) (hc : (Lit.int .i64 c).wf = true) (_hs : s.size ≤ reachBytes) (_ht : t.size ≤ reachBytes) :
    Calls Tryd.prog 4 #[.int .i64 c, .string s, .string t] w fun e w' => e = .returned (.bool true) ∧ Below w.heap.size w w' := by
  refine umr_all c s.data.toList t.data.toList w hL ?_
  simp [Lit.wf, IntKind.min, IntKind.max, IntKind.signed, IntKind.bits] at hc
  omega
end Go.Proofs.YtgdjpaeclicdfaaDoor.transportUnpackMatchesReference
