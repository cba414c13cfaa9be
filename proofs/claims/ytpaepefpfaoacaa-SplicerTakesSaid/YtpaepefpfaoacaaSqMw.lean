/- SplicerTakes: the walk, at opened arguments. -/
import Derived.Test.YtpaepefpfaoacaaSqI
import Derived.Test.YtpaepefpfaoacaaSqM
namespace Go.Proofs.Ytpaepefpfaoacaa.splicerTakes
open Go.ChangeShapes Go.WideShapes Go.ChangeAt Go.RowKit
theorem walk (r : Int) (x : Nat → Int) (l : SlA Pc) (z : SlA Int) (w : World) (h0 : (Lit.int .i64 r).wf = true) (h1 : opFiles.ok w x) (h2 : opPcs.ok w l) (h3 : opInts.ok w z) :
    Calls Try.prog 5 #[.int .i64 r, .agg (opFiles.cells x).toArray, (opPcs.cells l).headD undef, (opInts.cells z).headD undef] w fun e w' => e = .returned (.bool true) ∧ Below w.heap.size w w' :=
  takes_walk r x l.A l.l.length l.c l.l z.A z.l.length z.c z.l w (wf64_bd h0) h1 (opPcs_is h2).1 (opPcs_is h2).2.1 (opPcs_is h2).2.2 (opInts_is h3).1 (opInts_is h3).2.1 (opInts_is h3).2.2
end Go.Proofs.Ytpaepefpfaoacaa.splicerTakes
