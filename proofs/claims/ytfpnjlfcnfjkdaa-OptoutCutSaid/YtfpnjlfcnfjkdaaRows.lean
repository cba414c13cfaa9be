/-
  No cell of these rows narrows 'for every input' (looked for: loops, veiled, ifaces, maps, wideKeys, modest, calm, conditions, laid).
  DERIVED. THE GIVEN ROWS OF THIS SEAT. 7 by the template 'for every input the law returns true; each argument reads behind the call as it read before'; 0 by the template 'total and deterministic' (their statements: YtfpnjlfcnfjkdaaTotals.lean).
  GIVEN WITH THE SEED: the statements are not yours to turn. If you find one false, say at which input.
  Laid BY PROGRAM, IN A SANDBOX (cutbox-rows.mjs): the forced cells as the released guide's own fill.sh prints them over the translation 35a4bf6f60f6078d… (all of the seat's roots in one cut). By AI agents, Wed Nov 11 2026. No macro, syntax, notation, axiom, sorry.
-/
import Derived.Test.YtfpnjlfcnfjkdaaChecked
import GoSem.Claim
import GoSem.ClaimJoined
import GoSem.ClaimMapViews
import Derived.JoinedTies
import Derived.KernelRfl
namespace Go.Proofs.Ytfpnjlfcnfjkdaa
/- THE CELL 'sum', in the pinned program and in every row, IS THE sha256 OF THE DUMP (.gsa) THAT YtfpnjlfcnfjkdaaProg.lean LOADS. Nothing in Lean hashes anything: it is a label: what it is worth is what the hold of that sum in a sandbox is worth. -/
noncomputable def Try.pinned : Pinned := { name := "ytfpnjlfcnfjkdaa", sum := "35a4bf6f60f6078d715cce15d973bb368d3b3363f03cffdad457c11aa331df67", checked := Try.checked }
namespace Rows
def none {H : Type} : Left H := { results := [], args := [] }

/-- 'onairlaw17.OptoutValidMatchesReference': WHATEVER THE INPUT: true; the input reads as it did. -/
def optoutValidMatchesReferenceSpec : ChangeSpec := { name := "optoutValidMatchesReference", fn := fun _ => fun
  | [d1, d2, d3] => { results := [.lit (.bool true)], args := [d1, d2, d3] }
  | _ => none }
def optoutValidMatchesReferenceRow : OpenClaim := { program := "ytfpnjlfcnfjkdaa", sum := "35a4bf6f60f6078d715cce15d973bb368d3b3363f03cffdad457c11aa331df67", func := "onair/onairlaw17.OptoutValidMatchesReference", spec := "optoutValidMatchesReference", inPlace := ["internal/abi.NoEscape"], unfollowed := true, recurses := true, apart := false }
def OptoutValidMatchesReferenceSaid : Prop := optoutValidMatchesReferenceRow.holds Try.pinned (OpenSpec.ofChange optoutValidMatchesReferenceSpec)

/-- ITS FALSE NEIGHBOUR: 'it returns false'. Refute it at one input. -/
def optoutValidMatchesReferenceWrong : ChangeSpec := { name := "optoutValidMatchesReference", fn := fun _ => fun
  | [d1, d2, d3] => { results := [.lit (.bool false)], args := [d1, d2, d3] }
  | _ => none }
def OptoutValidMatchesReferenceWrongFalsely : Prop := optoutValidMatchesReferenceRow.holds Try.pinned (OpenSpec.ofChange optoutValidMatchesReferenceWrong)

/-- 'onairlaw17.OptoutNextMatchesReference': WHATEVER THE INPUT: true; the input reads as it did. -/
def optoutNextMatchesReferenceSpec : ChangeSpec := { name := "optoutNextMatchesReference", fn := fun _ => fun
  | [d1, d2] => { results := [.lit (.bool true)], args := [d1, d2] }
  | _ => none }
def optoutNextMatchesReferenceRow : OpenClaim := { program := "ytfpnjlfcnfjkdaa", sum := "35a4bf6f60f6078d715cce15d973bb368d3b3363f03cffdad457c11aa331df67", func := "onair/onairlaw17.OptoutNextMatchesReference", spec := "optoutNextMatchesReference", inPlace := ["internal/abi.NoEscape"], unfollowed := true, recurses := true, apart := false }
def OptoutNextMatchesReferenceSaid : Prop := optoutNextMatchesReferenceRow.holds Try.pinned (OpenSpec.ofChange optoutNextMatchesReferenceSpec)

/-- ITS FALSE NEIGHBOUR: 'it returns false'. Refute it at one input. -/
def optoutNextMatchesReferenceWrong : ChangeSpec := { name := "optoutNextMatchesReference", fn := fun _ => fun
  | [d1, d2] => { results := [.lit (.bool false)], args := [d1, d2] }
  | _ => none }
def OptoutNextMatchesReferenceWrongFalsely : Prop := optoutNextMatchesReferenceRow.holds Try.pinned (OpenSpec.ofChange optoutNextMatchesReferenceWrong)

/-- 'onairlaw17.OptoutRoundTrip': WHATEVER THE INPUT: true; the input reads as it did. -/
def optoutRoundTripSpec : ChangeSpec := { name := "optoutRoundTrip", fn := fun _ => fun
  | [d1, d2, d3] => { results := [.lit (.bool true)], args := [d1, d2, d3] }
  | _ => none }
def optoutRoundTripRow : OpenClaim := { program := "ytfpnjlfcnfjkdaa", sum := "35a4bf6f60f6078d715cce15d973bb368d3b3363f03cffdad457c11aa331df67", func := "onair/onairlaw17.OptoutRoundTrip", spec := "optoutRoundTrip", inPlace := ["internal/abi.NoEscape"], unfollowed := true, recurses := true, apart := false }
def OptoutRoundTripSaid : Prop := optoutRoundTripRow.holds Try.pinned (OpenSpec.ofChange optoutRoundTripSpec)

/-- ITS FALSE NEIGHBOUR: 'it returns false'. Refute it at one input. -/
def optoutRoundTripWrong : ChangeSpec := { name := "optoutRoundTrip", fn := fun _ => fun
  | [d1, d2, d3] => { results := [.lit (.bool false)], args := [d1, d2, d3] }
  | _ => none }
def OptoutRoundTripWrongFalsely : Prop := optoutRoundTripRow.holds Try.pinned (OpenSpec.ofChange optoutRoundTripWrong)

/-- 'onairlaw17.OptoutDecodedAgain': WHATEVER THE INPUT: true; the input reads as it did. -/
def optoutDecodedAgainSpec : ChangeSpec := { name := "optoutDecodedAgain", fn := fun _ => fun
  | [d] => { results := [.lit (.bool true)], args := [d] }
  | _ => none }
def optoutDecodedAgainRow : OpenClaim := { program := "ytfpnjlfcnfjkdaa", sum := "35a4bf6f60f6078d715cce15d973bb368d3b3363f03cffdad457c11aa331df67", func := "onair/onairlaw17.OptoutDecodedAgain", spec := "optoutDecodedAgain", inPlace := ["internal/abi.NoEscape"], unfollowed := true, recurses := true, apart := false }
def OptoutDecodedAgainSaid : Prop := optoutDecodedAgainRow.holds Try.pinned (OpenSpec.ofChange optoutDecodedAgainSpec)

/-- ITS FALSE NEIGHBOUR: 'it returns false'. Refute it at one input. -/
def optoutDecodedAgainWrong : ChangeSpec := { name := "optoutDecodedAgain", fn := fun _ => fun
  | [d] => { results := [.lit (.bool false)], args := [d] }
  | _ => none }
def OptoutDecodedAgainWrongFalsely : Prop := optoutDecodedAgainRow.holds Try.pinned (OpenSpec.ofChange optoutDecodedAgainWrong)

/-- 'onairlaw17.OptoutNear': WHATEVER THE INPUT: true; the input reads as it did. -/
def optoutNearSpec : ChangeSpec := { name := "optoutNear", fn := fun _ => fun
  | [d1, d2] => { results := [.lit (.bool true)], args := [d1, d2] }
  | _ => none }
def optoutNearRow : OpenClaim := { program := "ytfpnjlfcnfjkdaa", sum := "35a4bf6f60f6078d715cce15d973bb368d3b3363f03cffdad457c11aa331df67", func := "onair/onairlaw17.OptoutNear", spec := "optoutNear", inPlace := ["internal/abi.NoEscape"], unfollowed := true, recurses := true, apart := false }
def OptoutNearSaid : Prop := optoutNearRow.holds Try.pinned (OpenSpec.ofChange optoutNearSpec)

/-- ITS FALSE NEIGHBOUR: 'it returns false'. Refute it at one input. -/
def optoutNearWrong : ChangeSpec := { name := "optoutNear", fn := fun _ => fun
  | [d1, d2] => { results := [.lit (.bool false)], args := [d1, d2] }
  | _ => none }
def OptoutNearWrongFalsely : Prop := optoutNearRow.holds Try.pinned (OpenSpec.ofChange optoutNearWrong)

/-- 'onairlaw17.OptoutAnnounced': WHATEVER THE INPUT: true; the input reads as it did. -/
def optoutAnnouncedSpec : ChangeSpec := { name := "optoutAnnounced", fn := fun _ => fun
  | [d] => { results := [.lit (.bool true)], args := [d] }
  | _ => none }
def optoutAnnouncedRow : OpenClaim := { program := "ytfpnjlfcnfjkdaa", sum := "35a4bf6f60f6078d715cce15d973bb368d3b3363f03cffdad457c11aa331df67", func := "onair/onairlaw17.OptoutAnnounced", spec := "optoutAnnounced", inPlace := ["internal/abi.NoEscape"], unfollowed := true, recurses := true, apart := false }
def OptoutAnnouncedSaid : Prop := optoutAnnouncedRow.holds Try.pinned (OpenSpec.ofChange optoutAnnouncedSpec)

/-- ITS FALSE NEIGHBOUR: 'it returns false'. Refute it at one input. -/
def optoutAnnouncedWrong : ChangeSpec := { name := "optoutAnnounced", fn := fun _ => fun
  | [d] => { results := [.lit (.bool false)], args := [d] }
  | _ => none }
def OptoutAnnouncedWrongFalsely : Prop := optoutAnnouncedRow.holds Try.pinned (OpenSpec.ofChange optoutAnnouncedWrong)

/-- 'onairlaw17.OptoutCut': WHATEVER THE INPUT: true; the input reads as it did. -/
def optoutCutSpec : ChangeSpec := { name := "optoutCut", fn := fun _ => fun
  | [d1, d2, d3] => { results := [.lit (.bool true)], args := [d1, d2, d3] }
  | _ => none }
def optoutCutRow : OpenClaim := { program := "ytfpnjlfcnfjkdaa", sum := "35a4bf6f60f6078d715cce15d973bb368d3b3363f03cffdad457c11aa331df67", func := "onair/onairlaw17.OptoutCut", spec := "optoutCut", inPlace := ["internal/abi.NoEscape"], unfollowed := true, recurses := true, apart := false }
def OptoutCutSaid : Prop := optoutCutRow.holds Try.pinned (OpenSpec.ofChange optoutCutSpec)

/-- ITS FALSE NEIGHBOUR: 'it returns false'. Refute it at one input. -/
def optoutCutWrong : ChangeSpec := { name := "optoutCut", fn := fun _ => fun
  | [d1, d2, d3] => { results := [.lit (.bool false)], args := [d1, d2, d3] }
  | _ => none }
def OptoutCutWrongFalsely : Prop := optoutCutRow.holds Try.pinned (OpenSpec.ofChange optoutCutWrong)

/- THE SECOND FORM. 'bulk': how many values and letters a reading holds, each counted each time it is reached (what is shared counts as often as it is met; a slice's spare places count too). A statement '..UptoSaid' is the law's where the arguments, and the package variables that the reading takes, are together of bulk at most 1048576: NARROWER than '..Said'. Prove '..Said' where nothing that the law and all that it calls make is longer than what came in: it says more and counts as full. Else prove '..UptoSaid'. A law counts once. -/
mutual
def uptoBulk {H : Type} : DataW H → Nat
  | .lit (.string bytes) => bytes.length + 1
  | .lit _ => 1
  | .nil => 1
  | .ptr d => uptoBulk d + 1
  | .slice elems spare => uptoBulkAll elems + uptoBulkAll spare + 1
  | .agg parts => uptoBulkAll parts + 1
  | .iface _ d => uptoBulk d + 1
  | .map entries => uptoBulkEntries entries + 1
  | .held _ => 1
def uptoBulkAll {H : Type} : List (DataW H) → Nat
  | [] => 0
  | d :: r => uptoBulk d + uptoBulkAll r
def uptoBulkEntries {H : Type} : List (Lit × DataW H) → Nat
  | [] => 0
  | x :: r => uptoBulkEntry x + uptoBulkEntries r
def uptoBulkEntry {H : Type} : Lit × DataW H → Nat
  | (.string bytes, d) => bytes.length + uptoBulk d + 1
  | (_, d) => uptoBulk d + 1
 end
def uptoSmall : (H : Type) → List (DataW H) → Bool := fun _ ds => decide (uptoBulkAll ds ≤ 1048576)
def OpenSpec.upto (s : _root_.Go.ChangeSpec) : _root_.Go.OpenSpec := { _root_.Go.OpenSpec.ofChange s with cond := some uptoSmall }

/-- 'onairlaw17.OptoutValidMatchesReference', WHERE WHAT IT READS IS OF BULK AT MOST 1048576: true; the input reads as it did. -/
def optoutValidMatchesReferenceUptoRow : OpenClaim := { program := "ytfpnjlfcnfjkdaa", sum := "35a4bf6f60f6078d715cce15d973bb368d3b3363f03cffdad457c11aa331df67", func := "onair/onairlaw17.OptoutValidMatchesReference", spec := "optoutValidMatchesReference", inPlace := ["internal/abi.NoEscape"], unfollowed := true, recurses := true, apart := false, narrowed := true }
def OptoutValidMatchesReferenceUptoSaid : Prop := optoutValidMatchesReferenceUptoRow.holds Try.pinned (OpenSpec.upto optoutValidMatchesReferenceSpec)

/-- 'onairlaw17.OptoutNextMatchesReference', WHERE WHAT IT READS IS OF BULK AT MOST 1048576: true; the input reads as it did. -/
def optoutNextMatchesReferenceUptoRow : OpenClaim := { program := "ytfpnjlfcnfjkdaa", sum := "35a4bf6f60f6078d715cce15d973bb368d3b3363f03cffdad457c11aa331df67", func := "onair/onairlaw17.OptoutNextMatchesReference", spec := "optoutNextMatchesReference", inPlace := ["internal/abi.NoEscape"], unfollowed := true, recurses := true, apart := false, narrowed := true }
def OptoutNextMatchesReferenceUptoSaid : Prop := optoutNextMatchesReferenceUptoRow.holds Try.pinned (OpenSpec.upto optoutNextMatchesReferenceSpec)

/-- 'onairlaw17.OptoutRoundTrip', WHERE WHAT IT READS IS OF BULK AT MOST 1048576: true; the input reads as it did. -/
def optoutRoundTripUptoRow : OpenClaim := { program := "ytfpnjlfcnfjkdaa", sum := "35a4bf6f60f6078d715cce15d973bb368d3b3363f03cffdad457c11aa331df67", func := "onair/onairlaw17.OptoutRoundTrip", spec := "optoutRoundTrip", inPlace := ["internal/abi.NoEscape"], unfollowed := true, recurses := true, apart := false, narrowed := true }
def OptoutRoundTripUptoSaid : Prop := optoutRoundTripUptoRow.holds Try.pinned (OpenSpec.upto optoutRoundTripSpec)

/-- 'onairlaw17.OptoutDecodedAgain', WHERE WHAT IT READS IS OF BULK AT MOST 1048576: true; the input reads as it did. -/
def optoutDecodedAgainUptoRow : OpenClaim := { program := "ytfpnjlfcnfjkdaa", sum := "35a4bf6f60f6078d715cce15d973bb368d3b3363f03cffdad457c11aa331df67", func := "onair/onairlaw17.OptoutDecodedAgain", spec := "optoutDecodedAgain", inPlace := ["internal/abi.NoEscape"], unfollowed := true, recurses := true, apart := false, narrowed := true }
def OptoutDecodedAgainUptoSaid : Prop := optoutDecodedAgainUptoRow.holds Try.pinned (OpenSpec.upto optoutDecodedAgainSpec)

/-- 'onairlaw17.OptoutNear', WHERE WHAT IT READS IS OF BULK AT MOST 1048576: true; the input reads as it did. -/
def optoutNearUptoRow : OpenClaim := { program := "ytfpnjlfcnfjkdaa", sum := "35a4bf6f60f6078d715cce15d973bb368d3b3363f03cffdad457c11aa331df67", func := "onair/onairlaw17.OptoutNear", spec := "optoutNear", inPlace := ["internal/abi.NoEscape"], unfollowed := true, recurses := true, apart := false, narrowed := true }
def OptoutNearUptoSaid : Prop := optoutNearUptoRow.holds Try.pinned (OpenSpec.upto optoutNearSpec)

/-- 'onairlaw17.OptoutAnnounced', WHERE WHAT IT READS IS OF BULK AT MOST 1048576: true; the input reads as it did. -/
def optoutAnnouncedUptoRow : OpenClaim := { program := "ytfpnjlfcnfjkdaa", sum := "35a4bf6f60f6078d715cce15d973bb368d3b3363f03cffdad457c11aa331df67", func := "onair/onairlaw17.OptoutAnnounced", spec := "optoutAnnounced", inPlace := ["internal/abi.NoEscape"], unfollowed := true, recurses := true, apart := false, narrowed := true }
def OptoutAnnouncedUptoSaid : Prop := optoutAnnouncedUptoRow.holds Try.pinned (OpenSpec.upto optoutAnnouncedSpec)

/-- 'onairlaw17.OptoutCut', WHERE WHAT IT READS IS OF BULK AT MOST 1048576: true; the input reads as it did. -/
def optoutCutUptoRow : OpenClaim := { program := "ytfpnjlfcnfjkdaa", sum := "35a4bf6f60f6078d715cce15d973bb368d3b3363f03cffdad457c11aa331df67", func := "onair/onairlaw17.OptoutCut", spec := "optoutCut", inPlace := ["internal/abi.NoEscape"], unfollowed := true, recurses := true, apart := false, narrowed := true }
def OptoutCutUptoSaid : Prop := optoutCutUptoRow.holds Try.pinned (OpenSpec.upto optoutCutSpec)

end Rows
end Go.Proofs.Ytfpnjlfcnfjkdaa
