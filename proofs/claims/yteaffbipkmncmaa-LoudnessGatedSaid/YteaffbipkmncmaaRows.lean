/-
  No cell of these rows narrows 'for every input' (looked for: loops, veiled, ifaces, maps, wideKeys, modest, calm, conditions, laid).
  DERIVED. THE GIVEN ROWS OF THIS SEAT. 7 by the template 'for every input the law returns true; each argument reads behind the call as it read before'; 0 by the template 'total and deterministic' (their statements: YteaffbipkmncmaaTotals.lean).
  GIVEN WITH THE SEED: the statements are not yours to turn. If you find one false, say at which input.
  Laid BY PROGRAM, IN A SANDBOX (cutbox-rows.mjs): the forced cells as the released guide's own fill.sh prints them over the translation 55f5358664bf8e63… (all of the seat's roots in one cut). By AI agents, Wed Nov 11 2026. No macro, syntax, notation, axiom, sorry.
-/
import Derived.Test.YteaffbipkmncmaaChecked
import GoSem.Claim
import GoSem.ClaimJoined
import GoSem.ClaimMapViews
import Derived.JoinedTies
import Derived.KernelRfl
namespace Go.Proofs.Yteaffbipkmncmaa
/- THE CELL 'sum', in the pinned program and in every row, IS THE sha256 OF THE DUMP (.gsa) THAT YteaffbipkmncmaaProg.lean LOADS. Nothing in Lean hashes anything: it is a label: what it is worth is what the hold of that sum in a sandbox is worth. -/
noncomputable def Try.pinned : Pinned := { name := "yteaffbipkmncmaa", sum := "55f5358664bf8e63cc2355703b23edc2948626629d506fdc0f50db71967df619", checked := Try.checked }
namespace Rows
def none {H : Type} : Left H := { results := [], args := [] }

/-- 'onairlaw14.LoudnessMeasureMatchesReference': WHATEVER THE INPUT: true; the input reads as it did. -/
def loudnessMeasureMatchesReferenceSpec : ChangeSpec := { name := "loudnessMeasureMatchesReference", fn := fun _ => fun
  | [d] => { results := [.lit (.bool true)], args := [d] }
  | _ => none }
def loudnessMeasureMatchesReferenceRow : OpenClaim := { program := "yteaffbipkmncmaa", sum := "55f5358664bf8e63cc2355703b23edc2948626629d506fdc0f50db71967df619", func := "onair/onairlaw14.LoudnessMeasureMatchesReference", spec := "loudnessMeasureMatchesReference", unfollowed := true, recurses := true, apart := false }
def LoudnessMeasureMatchesReferenceSaid : Prop := loudnessMeasureMatchesReferenceRow.holds Try.pinned (OpenSpec.ofChange loudnessMeasureMatchesReferenceSpec)

/-- ITS FALSE NEIGHBOUR: 'it returns false'. Refute it at one input. -/
def loudnessMeasureMatchesReferenceWrong : ChangeSpec := { name := "loudnessMeasureMatchesReference", fn := fun _ => fun
  | [d] => { results := [.lit (.bool false)], args := [d] }
  | _ => none }
def LoudnessMeasureMatchesReferenceWrongFalsely : Prop := loudnessMeasureMatchesReferenceRow.holds Try.pinned (OpenSpec.ofChange loudnessMeasureMatchesReferenceWrong)

/-- 'onairlaw14.LoudnessRampMatchesReference': WHATEVER THE INPUT: true; the input reads as it did. -/
def loudnessRampMatchesReferenceSpec : ChangeSpec := { name := "loudnessRampMatchesReference", fn := fun _ => fun
  | [d1, d2, d3] => { results := [.lit (.bool true)], args := [d1, d2, d3] }
  | _ => none }
def loudnessRampMatchesReferenceRow : OpenClaim := { program := "yteaffbipkmncmaa", sum := "55f5358664bf8e63cc2355703b23edc2948626629d506fdc0f50db71967df619", func := "onair/onairlaw14.LoudnessRampMatchesReference", spec := "loudnessRampMatchesReference", unfollowed := true, recurses := true, apart := false }
def LoudnessRampMatchesReferenceSaid : Prop := loudnessRampMatchesReferenceRow.holds Try.pinned (OpenSpec.ofChange loudnessRampMatchesReferenceSpec)

/-- ITS FALSE NEIGHBOUR: 'it returns false'. Refute it at one input. -/
def loudnessRampMatchesReferenceWrong : ChangeSpec := { name := "loudnessRampMatchesReference", fn := fun _ => fun
  | [d1, d2, d3] => { results := [.lit (.bool false)], args := [d1, d2, d3] }
  | _ => none }
def LoudnessRampMatchesReferenceWrongFalsely : Prop := loudnessRampMatchesReferenceRow.holds Try.pinned (OpenSpec.ofChange loudnessRampMatchesReferenceWrong)

/-- 'onairlaw14.LoudnessGated': WHATEVER THE INPUT: true; the input reads as it did. -/
def loudnessGatedSpec : ChangeSpec := { name := "loudnessGated", fn := fun _ => fun
  | [d1, d2, d3, d4] => { results := [.lit (.bool true)], args := [d1, d2, d3, d4] }
  | _ => none }
def loudnessGatedRow : OpenClaim := { program := "yteaffbipkmncmaa", sum := "55f5358664bf8e63cc2355703b23edc2948626629d506fdc0f50db71967df619", func := "onair/onairlaw14.LoudnessGated", spec := "loudnessGated", unfollowed := true, recurses := true, apart := false }
def LoudnessGatedSaid : Prop := loudnessGatedRow.holds Try.pinned (OpenSpec.ofChange loudnessGatedSpec)

/-- ITS FALSE NEIGHBOUR: 'it returns false'. Refute it at one input. -/
def loudnessGatedWrong : ChangeSpec := { name := "loudnessGated", fn := fun _ => fun
  | [d1, d2, d3, d4] => { results := [.lit (.bool false)], args := [d1, d2, d3, d4] }
  | _ => none }
def LoudnessGatedWrongFalsely : Prop := loudnessGatedRow.holds Try.pinned (OpenSpec.ofChange loudnessGatedWrong)

/-- 'onairlaw14.LoudnessBetween': WHATEVER THE INPUT: true; the input reads as it did. -/
def loudnessBetweenSpec : ChangeSpec := { name := "loudnessBetween", fn := fun _ => fun
  | [d] => { results := [.lit (.bool true)], args := [d] }
  | _ => none }
def loudnessBetweenRow : OpenClaim := { program := "yteaffbipkmncmaa", sum := "55f5358664bf8e63cc2355703b23edc2948626629d506fdc0f50db71967df619", func := "onair/onairlaw14.LoudnessBetween", spec := "loudnessBetween", unfollowed := true, recurses := true, apart := false }
def LoudnessBetweenSaid : Prop := loudnessBetweenRow.holds Try.pinned (OpenSpec.ofChange loudnessBetweenSpec)

/-- ITS FALSE NEIGHBOUR: 'it returns false'. Refute it at one input. -/
def loudnessBetweenWrong : ChangeSpec := { name := "loudnessBetween", fn := fun _ => fun
  | [d] => { results := [.lit (.bool false)], args := [d] }
  | _ => none }
def LoudnessBetweenWrongFalsely : Prop := loudnessBetweenRow.holds Try.pinned (OpenSpec.ofChange loudnessBetweenWrong)

/-- 'onairlaw14.LoudnessCorrected': WHATEVER THE INPUT: true; the input reads as it did. -/
def loudnessCorrectedSpec : ChangeSpec := { name := "loudnessCorrected", fn := fun _ => fun
  | [d] => { results := [.lit (.bool true)], args := [d] }
  | _ => none }
def loudnessCorrectedRow : OpenClaim := { program := "yteaffbipkmncmaa", sum := "55f5358664bf8e63cc2355703b23edc2948626629d506fdc0f50db71967df619", func := "onair/onairlaw14.LoudnessCorrected", spec := "loudnessCorrected", unfollowed := true, recurses := true, apart := false }
def LoudnessCorrectedSaid : Prop := loudnessCorrectedRow.holds Try.pinned (OpenSpec.ofChange loudnessCorrectedSpec)

/-- ITS FALSE NEIGHBOUR: 'it returns false'. Refute it at one input. -/
def loudnessCorrectedWrong : ChangeSpec := { name := "loudnessCorrected", fn := fun _ => fun
  | [d] => { results := [.lit (.bool false)], args := [d] }
  | _ => none }
def LoudnessCorrectedWrongFalsely : Prop := loudnessCorrectedRow.holds Try.pinned (OpenSpec.ofChange loudnessCorrectedWrong)

/-- 'onairlaw14.LoudnessRampSplit': WHATEVER THE INPUT: true; the input reads as it did. -/
def loudnessRampSplitSpec : ChangeSpec := { name := "loudnessRampSplit", fn := fun _ => fun
  | [d1, d2, d3, d4] => { results := [.lit (.bool true)], args := [d1, d2, d3, d4] }
  | _ => none }
def loudnessRampSplitRow : OpenClaim := { program := "yteaffbipkmncmaa", sum := "55f5358664bf8e63cc2355703b23edc2948626629d506fdc0f50db71967df619", func := "onair/onairlaw14.LoudnessRampSplit", spec := "loudnessRampSplit", unfollowed := true, recurses := true, apart := false }
def LoudnessRampSplitSaid : Prop := loudnessRampSplitRow.holds Try.pinned (OpenSpec.ofChange loudnessRampSplitSpec)

/-- ITS FALSE NEIGHBOUR: 'it returns false'. Refute it at one input. -/
def loudnessRampSplitWrong : ChangeSpec := { name := "loudnessRampSplit", fn := fun _ => fun
  | [d1, d2, d3, d4] => { results := [.lit (.bool false)], args := [d1, d2, d3, d4] }
  | _ => none }
def LoudnessRampSplitWrongFalsely : Prop := loudnessRampSplitRow.holds Try.pinned (OpenSpec.ofChange loudnessRampSplitWrong)

/-- 'onairlaw14.LoudnessRampReaches': WHATEVER THE INPUT: true; the input reads as it did. -/
def loudnessRampReachesSpec : ChangeSpec := { name := "loudnessRampReaches", fn := fun _ => fun
  | [d1, d2] => { results := [.lit (.bool true)], args := [d1, d2] }
  | _ => none }
def loudnessRampReachesRow : OpenClaim := { program := "yteaffbipkmncmaa", sum := "55f5358664bf8e63cc2355703b23edc2948626629d506fdc0f50db71967df619", func := "onair/onairlaw14.LoudnessRampReaches", spec := "loudnessRampReaches", unfollowed := true, recurses := true, apart := false }
def LoudnessRampReachesSaid : Prop := loudnessRampReachesRow.holds Try.pinned (OpenSpec.ofChange loudnessRampReachesSpec)

/-- ITS FALSE NEIGHBOUR: 'it returns false'. Refute it at one input. -/
def loudnessRampReachesWrong : ChangeSpec := { name := "loudnessRampReaches", fn := fun _ => fun
  | [d1, d2] => { results := [.lit (.bool false)], args := [d1, d2] }
  | _ => none }
def LoudnessRampReachesWrongFalsely : Prop := loudnessRampReachesRow.holds Try.pinned (OpenSpec.ofChange loudnessRampReachesWrong)

/- THE SECOND FORM. 'bulk': how many values and letters a reading holds, each counted each time it is reached (what is shared counts as often as it is met; a slice's spare places count too). A statement '..UptoSaid' is the law's where the arguments, and the package variables that the reading takes, are together of bulk at most 1048576: NARROWER than '..Said'. Prove '..Said' where nothing that the law and all that it calls make is longer than what came in: it says more and counts as full. Else prove '..UptoSaid'. A law counts once. -/
mutual
def uptoBulk {H : Type} : DataW H → Nat
  | .lit (.string bytes) => bytes.length + 1
  | .lit _ => 1
  | .nil => 1
  | .ptr d => uptoBulk d + 1
  | .slice elems spare => uptoBulkAll elems + uptoBulkAll spare + 1
  | .agg parts => uptoBulkAll parts + 1
  | .iface _ d => uptoBulk d + 1
  | .map entries => uptoBulkEntries entries + 1
  | .held _ => 1
def uptoBulkAll {H : Type} : List (DataW H) → Nat
  | [] => 0
  | d :: r => uptoBulk d + uptoBulkAll r
def uptoBulkEntries {H : Type} : List (Lit × DataW H) → Nat
  | [] => 0
  | x :: r => uptoBulkEntry x + uptoBulkEntries r
def uptoBulkEntry {H : Type} : Lit × DataW H → Nat
  | (.string bytes, d) => bytes.length + uptoBulk d + 1
  | (_, d) => uptoBulk d + 1
 end
def uptoSmall : (H : Type) → List (DataW H) → Bool := fun _ ds => decide (uptoBulkAll ds ≤ 1048576)
def OpenSpec.upto (s : _root_.Go.ChangeSpec) : _root_.Go.OpenSpec := { _root_.Go.OpenSpec.ofChange s with cond := some uptoSmall }

/-- 'onairlaw14.LoudnessMeasureMatchesReference', WHERE WHAT IT READS IS OF BULK AT MOST 1048576: true; the input reads as it did. -/
def loudnessMeasureMatchesReferenceUptoRow : OpenClaim := { program := "yteaffbipkmncmaa", sum := "55f5358664bf8e63cc2355703b23edc2948626629d506fdc0f50db71967df619", func := "onair/onairlaw14.LoudnessMeasureMatchesReference", spec := "loudnessMeasureMatchesReference", unfollowed := true, recurses := true, apart := false, narrowed := true }
def LoudnessMeasureMatchesReferenceUptoSaid : Prop := loudnessMeasureMatchesReferenceUptoRow.holds Try.pinned (OpenSpec.upto loudnessMeasureMatchesReferenceSpec)

/-- 'onairlaw14.LoudnessRampMatchesReference', WHERE WHAT IT READS IS OF BULK AT MOST 1048576: true; the input reads as it did. -/
def loudnessRampMatchesReferenceUptoRow : OpenClaim := { program := "yteaffbipkmncmaa", sum := "55f5358664bf8e63cc2355703b23edc2948626629d506fdc0f50db71967df619", func := "onair/onairlaw14.LoudnessRampMatchesReference", spec := "loudnessRampMatchesReference", unfollowed := true, recurses := true, apart := false, narrowed := true }
def LoudnessRampMatchesReferenceUptoSaid : Prop := loudnessRampMatchesReferenceUptoRow.holds Try.pinned (OpenSpec.upto loudnessRampMatchesReferenceSpec)

/-- 'onairlaw14.LoudnessGated', WHERE WHAT IT READS IS OF BULK AT MOST 1048576: true; the input reads as it did. -/
def loudnessGatedUptoRow : OpenClaim := { program := "yteaffbipkmncmaa", sum := "55f5358664bf8e63cc2355703b23edc2948626629d506fdc0f50db71967df619", func := "onair/onairlaw14.LoudnessGated", spec := "loudnessGated", unfollowed := true, recurses := true, apart := false, narrowed := true }
def LoudnessGatedUptoSaid : Prop := loudnessGatedUptoRow.holds Try.pinned (OpenSpec.upto loudnessGatedSpec)

/-- 'onairlaw14.LoudnessBetween', WHERE WHAT IT READS IS OF BULK AT MOST 1048576: true; the input reads as it did. -/
def loudnessBetweenUptoRow : OpenClaim := { program := "yteaffbipkmncmaa", sum := "55f5358664bf8e63cc2355703b23edc2948626629d506fdc0f50db71967df619", func := "onair/onairlaw14.LoudnessBetween", spec := "loudnessBetween", unfollowed := true, recurses := true, apart := false, narrowed := true }
def LoudnessBetweenUptoSaid : Prop := loudnessBetweenUptoRow.holds Try.pinned (OpenSpec.upto loudnessBetweenSpec)

/-- 'onairlaw14.LoudnessCorrected', WHERE WHAT IT READS IS OF BULK AT MOST 1048576: true; the input reads as it did. -/
def loudnessCorrectedUptoRow : OpenClaim := { program := "yteaffbipkmncmaa", sum := "55f5358664bf8e63cc2355703b23edc2948626629d506fdc0f50db71967df619", func := "onair/onairlaw14.LoudnessCorrected", spec := "loudnessCorrected", unfollowed := true, recurses := true, apart := false, narrowed := true }
def LoudnessCorrectedUptoSaid : Prop := loudnessCorrectedUptoRow.holds Try.pinned (OpenSpec.upto loudnessCorrectedSpec)

/-- 'onairlaw14.LoudnessRampSplit', WHERE WHAT IT READS IS OF BULK AT MOST 1048576: true; the input reads as it did. -/
def loudnessRampSplitUptoRow : OpenClaim := { program := "yteaffbipkmncmaa", sum := "55f5358664bf8e63cc2355703b23edc2948626629d506fdc0f50db71967df619", func := "onair/onairlaw14.LoudnessRampSplit", spec := "loudnessRampSplit", unfollowed := true, recurses := true, apart := false, narrowed := true }
def LoudnessRampSplitUptoSaid : Prop := loudnessRampSplitUptoRow.holds Try.pinned (OpenSpec.upto loudnessRampSplitSpec)

/-- 'onairlaw14.LoudnessRampReaches', WHERE WHAT IT READS IS OF BULK AT MOST 1048576: true; the input reads as it did. -/
def loudnessRampReachesUptoRow : OpenClaim := { program := "yteaffbipkmncmaa", sum := "55f5358664bf8e63cc2355703b23edc2948626629d506fdc0f50db71967df619", func := "onair/onairlaw14.LoudnessRampReaches", spec := "loudnessRampReaches", unfollowed := true, recurses := true, apart := false, narrowed := true }
def LoudnessRampReachesUptoSaid : Prop := loudnessRampReachesUptoRow.holds Try.pinned (OpenSpec.upto loudnessRampReachesSpec)

end Rows
end Go.Proofs.Yteaffbipkmncmaa
