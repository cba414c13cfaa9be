/-
  No cell of these rows narrows 'for every input' (looked for: loops, veiled, ifaces, maps, wideKeys, modest, calm, conditions, laid).
  DERIVED. THE GIVEN ROWS OF THIS SEAT. 6 by the template 'for every input the law returns true; each argument reads behind the call as it read before'; 0 by the template 'total and deterministic' (their statements: YtbiniebonjcekaaTotals.lean).
  GIVEN WITH THE SEED: the statements are not yours to turn. If you find one false, say at which input.
  Laid BY PROGRAM, IN A SANDBOX (cutbox-rows.mjs): the forced cells as the released guide's own fill.sh prints them over the translation 36dd80cd80c3fd75… (all of the seat's roots in one cut). By AI agents, Wed Nov 11 2026. No macro, syntax, notation, axiom, sorry.
-/
import Derived.Test.YtbiniebonjcekaaChecked
import GoSem.Claim
import GoSem.ClaimJoined
import GoSem.ClaimMapViews
import Derived.JoinedTies
import Derived.KernelRfl
namespace Go.Proofs.Ytbiniebonjcekaa
/- THE CELL 'sum', in the pinned program and in every row, IS THE sha256 OF THE DUMP (.gsa) THAT YtbiniebonjcekaaProg.lean LOADS. Nothing in Lean hashes anything: it is a label: what it is worth is what the hold of that sum in a sandbox is worth. -/
noncomputable def Try.pinned : Pinned := { name := "ytbiniebonjcekaa", sum := "36dd80cd80c3fd75ac1a07637b5da03135df133f770029989ce9cbdfd26f982d", checked := Try.checked }
namespace Rows
def none {H : Type} : Left H := { results := [], args := [] }

/-- 'onairlaw13.VbvMatchesReference': WHATEVER THE INPUT: true; the input reads as it did. -/
def vbvMatchesReferenceSpec : ChangeSpec := { name := "vbvMatchesReference", fn := fun _ => fun
  | [d1, d2] => { results := [.lit (.bool true)], args := [d1, d2] }
  | _ => none }
def vbvMatchesReferenceRow : OpenClaim := { program := "ytbiniebonjcekaa", sum := "36dd80cd80c3fd75ac1a07637b5da03135df133f770029989ce9cbdfd26f982d", func := "onair/onairlaw13.VbvMatchesReference", spec := "vbvMatchesReference", unfollowed := true, recurses := true, apart := false }
def VbvMatchesReferenceSaid : Prop := vbvMatchesReferenceRow.holds Try.pinned (OpenSpec.ofChange vbvMatchesReferenceSpec)

/-- ITS FALSE NEIGHBOUR: 'it returns false'. Refute it at one input. -/
def vbvMatchesReferenceWrong : ChangeSpec := { name := "vbvMatchesReference", fn := fun _ => fun
  | [d1, d2] => { results := [.lit (.bool false)], args := [d1, d2] }
  | _ => none }
def VbvMatchesReferenceWrongFalsely : Prop := vbvMatchesReferenceRow.holds Try.pinned (OpenSpec.ofChange vbvMatchesReferenceWrong)

/-- 'onairlaw13.VbvMonotone': WHATEVER THE INPUT: true; the input reads as it did. -/
def vbvMonotoneSpec : ChangeSpec := { name := "vbvMonotone", fn := fun _ => fun
  | [d1, d2, d3] => { results := [.lit (.bool true)], args := [d1, d2, d3] }
  | _ => none }
def vbvMonotoneRow : OpenClaim := { program := "ytbiniebonjcekaa", sum := "36dd80cd80c3fd75ac1a07637b5da03135df133f770029989ce9cbdfd26f982d", func := "onair/onairlaw13.VbvMonotone", spec := "vbvMonotone", unfollowed := true, recurses := true, apart := false }
def VbvMonotoneSaid : Prop := vbvMonotoneRow.holds Try.pinned (OpenSpec.ofChange vbvMonotoneSpec)

/-- ITS FALSE NEIGHBOUR: 'it returns false'. Refute it at one input. -/
def vbvMonotoneWrong : ChangeSpec := { name := "vbvMonotone", fn := fun _ => fun
  | [d1, d2, d3] => { results := [.lit (.bool false)], args := [d1, d2, d3] }
  | _ => none }
def VbvMonotoneWrongFalsely : Prop := vbvMonotoneRow.holds Try.pinned (OpenSpec.ofChange vbvMonotoneWrong)

/-- 'onairlaw13.VbvNeed': WHATEVER THE INPUT: true; the input reads as it did. -/
def vbvNeedSpec : ChangeSpec := { name := "vbvNeed", fn := fun _ => fun
  | [d1, d2] => { results := [.lit (.bool true)], args := [d1, d2] }
  | _ => none }
def vbvNeedRow : OpenClaim := { program := "ytbiniebonjcekaa", sum := "36dd80cd80c3fd75ac1a07637b5da03135df133f770029989ce9cbdfd26f982d", func := "onair/onairlaw13.VbvNeed", spec := "vbvNeed", unfollowed := true, recurses := true, apart := false }
def VbvNeedSaid : Prop := vbvNeedRow.holds Try.pinned (OpenSpec.ofChange vbvNeedSpec)

/-- ITS FALSE NEIGHBOUR: 'it returns false'. Refute it at one input. -/
def vbvNeedWrong : ChangeSpec := { name := "vbvNeed", fn := fun _ => fun
  | [d1, d2] => { results := [.lit (.bool false)], args := [d1, d2] }
  | _ => none }
def VbvNeedWrongFalsely : Prop := vbvNeedRow.holds Try.pinned (OpenSpec.ofChange vbvNeedWrong)

/-- 'onairlaw13.VbvSplit': WHATEVER THE INPUT: true; the input reads as it did. -/
def vbvSplitSpec : ChangeSpec := { name := "vbvSplit", fn := fun _ => fun
  | [d1, d2, d3] => { results := [.lit (.bool true)], args := [d1, d2, d3] }
  | _ => none }
def vbvSplitRow : OpenClaim := { program := "ytbiniebonjcekaa", sum := "36dd80cd80c3fd75ac1a07637b5da03135df133f770029989ce9cbdfd26f982d", func := "onair/onairlaw13.VbvSplit", spec := "vbvSplit", unfollowed := true, recurses := true, apart := false }
def VbvSplitSaid : Prop := vbvSplitRow.holds Try.pinned (OpenSpec.ofChange vbvSplitSpec)

/-- ITS FALSE NEIGHBOUR: 'it returns false'. Refute it at one input. -/
def vbvSplitWrong : ChangeSpec := { name := "vbvSplit", fn := fun _ => fun
  | [d1, d2, d3] => { results := [.lit (.bool false)], args := [d1, d2, d3] }
  | _ => none }
def VbvSplitWrongFalsely : Prop := vbvSplitRow.holds Try.pinned (OpenSpec.ofChange vbvSplitWrong)

/-- 'onairlaw13.VbvSplices': WHATEVER THE INPUT: true; the input reads as it did. -/
def vbvSplicesSpec : ChangeSpec := { name := "vbvSplices", fn := fun _ => fun
  | [d1, d2, d3, d4] => { results := [.lit (.bool true)], args := [d1, d2, d3, d4] }
  | _ => none }
def vbvSplicesRow : OpenClaim := { program := "ytbiniebonjcekaa", sum := "36dd80cd80c3fd75ac1a07637b5da03135df133f770029989ce9cbdfd26f982d", func := "onair/onairlaw13.VbvSplices", spec := "vbvSplices", unfollowed := true, recurses := true, apart := false }
def VbvSplicesSaid : Prop := vbvSplicesRow.holds Try.pinned (OpenSpec.ofChange vbvSplicesSpec)

/-- ITS FALSE NEIGHBOUR: 'it returns false'. Refute it at one input. -/
def vbvSplicesWrong : ChangeSpec := { name := "vbvSplices", fn := fun _ => fun
  | [d1, d2, d3, d4] => { results := [.lit (.bool false)], args := [d1, d2, d3, d4] }
  | _ => none }
def VbvSplicesWrongFalsely : Prop := vbvSplicesRow.holds Try.pinned (OpenSpec.ofChange vbvSplicesWrong)

/-- 'onairlaw13.VbvIdle': WHATEVER THE INPUT: true; the input reads as it did. -/
def vbvIdleSpec : ChangeSpec := { name := "vbvIdle", fn := fun _ => fun
  | [d1, d2] => { results := [.lit (.bool true)], args := [d1, d2] }
  | _ => none }
def vbvIdleRow : OpenClaim := { program := "ytbiniebonjcekaa", sum := "36dd80cd80c3fd75ac1a07637b5da03135df133f770029989ce9cbdfd26f982d", func := "onair/onairlaw13.VbvIdle", spec := "vbvIdle", unfollowed := true, recurses := true, apart := false }
def VbvIdleSaid : Prop := vbvIdleRow.holds Try.pinned (OpenSpec.ofChange vbvIdleSpec)

/-- ITS FALSE NEIGHBOUR: 'it returns false'. Refute it at one input. -/
def vbvIdleWrong : ChangeSpec := { name := "vbvIdle", fn := fun _ => fun
  | [d1, d2] => { results := [.lit (.bool false)], args := [d1, d2] }
  | _ => none }
def VbvIdleWrongFalsely : Prop := vbvIdleRow.holds Try.pinned (OpenSpec.ofChange vbvIdleWrong)

/- THE SECOND FORM. 'bulk': how many values and letters a reading holds, each counted each time it is reached (what is shared counts as often as it is met; a slice's spare places count too). A statement '..UptoSaid' is the law's where the arguments, and the package variables that the reading takes, are together of bulk at most 1048576: NARROWER than '..Said'. Prove '..Said' where nothing that the law and all that it calls make is longer than what came in: it says more and counts as full. Else prove '..UptoSaid'. A law counts once. -/
mutual
def uptoBulk {H : Type} : DataW H → Nat
  | .lit (.string bytes) => bytes.length + 1
  | .lit _ => 1
  | .nil => 1
  | .ptr d => uptoBulk d + 1
  | .slice elems spare => uptoBulkAll elems + uptoBulkAll spare + 1
  | .agg parts => uptoBulkAll parts + 1
  | .iface _ d => uptoBulk d + 1
  | .map entries => uptoBulkEntries entries + 1
  | .held _ => 1
def uptoBulkAll {H : Type} : List (DataW H) → Nat
  | [] => 0
  | d :: r => uptoBulk d + uptoBulkAll r
def uptoBulkEntries {H : Type} : List (Lit × DataW H) → Nat
  | [] => 0
  | x :: r => uptoBulkEntry x + uptoBulkEntries r
def uptoBulkEntry {H : Type} : Lit × DataW H → Nat
  | (.string bytes, d) => bytes.length + uptoBulk d + 1
  | (_, d) => uptoBulk d + 1
 end
def uptoSmall : (H : Type) → List (DataW H) → Bool := fun _ ds => decide (uptoBulkAll ds ≤ 1048576)
def OpenSpec.upto (s : _root_.Go.ChangeSpec) : _root_.Go.OpenSpec := { _root_.Go.OpenSpec.ofChange s with cond := some uptoSmall }

/-- 'onairlaw13.VbvMatchesReference', WHERE WHAT IT READS IS OF BULK AT MOST 1048576: true; the input reads as it did. -/
def vbvMatchesReferenceUptoRow : OpenClaim := { program := "ytbiniebonjcekaa", sum := "36dd80cd80c3fd75ac1a07637b5da03135df133f770029989ce9cbdfd26f982d", func := "onair/onairlaw13.VbvMatchesReference", spec := "vbvMatchesReference", unfollowed := true, recurses := true, apart := false, narrowed := true }
def VbvMatchesReferenceUptoSaid : Prop := vbvMatchesReferenceUptoRow.holds Try.pinned (OpenSpec.upto vbvMatchesReferenceSpec)

/-- 'onairlaw13.VbvMonotone', WHERE WHAT IT READS IS OF BULK AT MOST 1048576: true; the input reads as it did. -/
def vbvMonotoneUptoRow : OpenClaim := { program := "ytbiniebonjcekaa", sum := "36dd80cd80c3fd75ac1a07637b5da03135df133f770029989ce9cbdfd26f982d", func := "onair/onairlaw13.VbvMonotone", spec := "vbvMonotone", unfollowed := true, recurses := true, apart := false, narrowed := true }
def VbvMonotoneUptoSaid : Prop := vbvMonotoneUptoRow.holds Try.pinned (OpenSpec.upto vbvMonotoneSpec)

/-- 'onairlaw13.VbvNeed', WHERE WHAT IT READS IS OF BULK AT MOST 1048576: true; the input reads as it did. -/
def vbvNeedUptoRow : OpenClaim := { program := "ytbiniebonjcekaa", sum := "36dd80cd80c3fd75ac1a07637b5da03135df133f770029989ce9cbdfd26f982d", func := "onair/onairlaw13.VbvNeed", spec := "vbvNeed", unfollowed := true, recurses := true, apart := false, narrowed := true }
def VbvNeedUptoSaid : Prop := vbvNeedUptoRow.holds Try.pinned (OpenSpec.upto vbvNeedSpec)

/-- 'onairlaw13.VbvSplit', WHERE WHAT IT READS IS OF BULK AT MOST 1048576: true; the input reads as it did. -/
def vbvSplitUptoRow : OpenClaim := { program := "ytbiniebonjcekaa", sum := "36dd80cd80c3fd75ac1a07637b5da03135df133f770029989ce9cbdfd26f982d", func := "onair/onairlaw13.VbvSplit", spec := "vbvSplit", unfollowed := true, recurses := true, apart := false, narrowed := true }
def VbvSplitUptoSaid : Prop := vbvSplitUptoRow.holds Try.pinned (OpenSpec.upto vbvSplitSpec)

/-- 'onairlaw13.VbvSplices', WHERE WHAT IT READS IS OF BULK AT MOST 1048576: true; the input reads as it did. -/
def vbvSplicesUptoRow : OpenClaim := { program := "ytbiniebonjcekaa", sum := "36dd80cd80c3fd75ac1a07637b5da03135df133f770029989ce9cbdfd26f982d", func := "onair/onairlaw13.VbvSplices", spec := "vbvSplices", unfollowed := true, recurses := true, apart := false, narrowed := true }
def VbvSplicesUptoSaid : Prop := vbvSplicesUptoRow.holds Try.pinned (OpenSpec.upto vbvSplicesSpec)

/-- 'onairlaw13.VbvIdle', WHERE WHAT IT READS IS OF BULK AT MOST 1048576: true; the input reads as it did. -/
def vbvIdleUptoRow : OpenClaim := { program := "ytbiniebonjcekaa", sum := "36dd80cd80c3fd75ac1a07637b5da03135df133f770029989ce9cbdfd26f982d", func := "onair/onairlaw13.VbvIdle", spec := "vbvIdle", unfollowed := true, recurses := true, apart := false, narrowed := true }
def VbvIdleUptoSaid : Prop := vbvIdleUptoRow.holds Try.pinned (OpenSpec.upto vbvIdleSpec)

end Rows
end Go.Proofs.Ytbiniebonjcekaa
