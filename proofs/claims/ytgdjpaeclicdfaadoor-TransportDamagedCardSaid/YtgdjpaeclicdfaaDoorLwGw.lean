/- TransportDamaged: the walk's head. -/
import Derived.Test.YtgdjpaeclicdfaaDoorLwG
import Derived.Test.YtgdjpaeclicdfaaDoorTrOp
namespace Go.Proofs.YtgdjpaeclicdfaaDoor.transportDamaged
open Go.ChangeShapes Go.WideShapes Go.ChangeAt Go.RowKit
theorem walk (c : Int) (u : Un) (at0 x : Int) (w : World) (hL : Laid w) (hc : (Lit.int .i64 c).wf = true) (hu : opUn.ok w u) (hat : (Lit.int .i64 at0).wf = true) (hx : (Lit.int .u8 x).wf = true) :
    Calls Tryd.prog 9 #[.int .i64 c, .agg (opUn.cells u).toArray, .int .i64 at0, .int .u8 x] w fun e w' => e = .returned (.bool true) ∧ Below w.heap.size w w' := by
  have h : 0 ≤ x ∧ x < 256 := by
    simp [Lit.wf, IntKind.min, IntKind.max, IntKind.signed, IntKind.bits] at hx
    omega
  have e : x = (((UInt8.ofNat x.toNat).toNat : Nat) : Int) := by rw [toNat_of (by omega)]; omega
  rw [e]
  exact damaged_all c u at0 (UInt8.ofNat x.toNat) w hL (i64_of hc) (i64_of hat) hu.alts hu.cap hu.nil
end Go.Proofs.YtgdjpaeclicdfaaDoor.transportDamaged
