/-
  NARROWER THAN 'FOR EVERY INPUT', by the rows' own cells (each row's printed sentence says how): PlanValidMatchesReference: laid · PlanLookupsMatchReference: laid · PlanEncodeMatchesReference: laid · PlanDecodeMatchesReference: laid · PlanRoundTrip: laid · PlanDecodedAgain: laid · PlanPrefixes: laid · PlanParts: laid · PlanFinds: laid.
  DERIVED. THE GIVEN ROWS OF THIS SEAT. 9 by the template 'for every input the law returns true; each argument reads behind the call as it read before'; 0 by the template 'total and deterministic' (their statements: YteeillphhiaopaaGreatDoorTotals.lean).
  GIVEN WITH THE SEED: the statements are not yours to turn. If you find one false, say at which input.
  Laid BY PROGRAM, IN A SANDBOX (cutbox-rows.mjs): the forced cells as the released guide's own fill.sh prints them over the translation 5067d73932da932a… (all of the seat's roots in one cut). By AI agents, Wed Nov 11 2026. No macro, syntax, notation, axiom, sorry.
-/
import Derived.Test.YteeillphhiaopaaGreatDoorChecked
import GoSem.Claim
import GoSem.ClaimJoined
import GoSem.ClaimMapViews
import Derived.JoinedTies
import Derived.KernelRfl
namespace Go.Proofs.YteeillphhiaopaaGreatDoor
/- THE CELL 'sum', in the pinned program and in every row, IS THE sha256 OF THE DUMP (.gsa) THAT YteeillphhiaopaaGreatDoorProg.lean LOADS. Nothing in Lean hashes anything: it is a label: what it is worth is what the hold of that sum in a sandbox is worth. -/
noncomputable def Tryz.pinned : Pinned := { name := "yteeillphhiaopaagreatdoor", sum := "5067d73932da932adc28dbbe41122f42ce51327fcdf68f908c8995ea7d286d91", checked := Tryz.checked }
namespace Rows
def none {H : Type} : Left H := { results := [], args := [] }

/- WHAT THE LISTED PACKAGE-LEVEL VARIABLES READ AS WHEN THE CALL BEGINS. Each datum BY PROGRAM (the guide's laid-datum.mjs) off the statement by which the dump's own 'gosem.cut.vars' lays the variable. In a bare row this is a premise. The card (YteeillphhiaopaaGreatDoorCards.lean) ties it to the program's text. -/
def laid_onair_timecode_rates {H : Type} : DataW H := .agg [.agg [.agg [.lit (.int .i64 24000), .lit (.int .i64 1001)], .lit (.int .i64 24), .lit (.int .i64 0)], .agg [.agg [.lit (.int .i64 24), .lit (.int .i64 1)], .lit (.int .i64 24), .lit (.int .i64 0)], .agg [.agg [.lit (.int .i64 25), .lit (.int .i64 1)], .lit (.int .i64 25), .lit (.int .i64 0)], .agg [.agg [.lit (.int .i64 30000), .lit (.int .i64 1001)], .lit (.int .i64 30), .lit (.int .i64 2)], .agg [.agg [.lit (.int .i64 30), .lit (.int .i64 1)], .lit (.int .i64 30), .lit (.int .i64 0)], .agg [.agg [.lit (.int .i64 50), .lit (.int .i64 1)], .lit (.int .i64 50), .lit (.int .i64 0)], .agg [.agg [.lit (.int .i64 60000), .lit (.int .i64 1001)], .lit (.int .i64 60), .lit (.int .i64 4)], .agg [.agg [.lit (.int .i64 60), .lit (.int .i64 1)], .lit (.int .i64 60), .lit (.int .i64 0)]]
def laid_onair_plan_errBytes {H : Type} : DataW H := .iface "*errors.errorString" (.ptr (.agg [.lit (.string [117, 110, 101, 120, 112, 101, 99, 116, 101, 100, 32, 98, 121, 116, 101, 115])]))
def laid_onair_plan_errPlan {H : Type} : DataW H := .iface "*errors.errorString" (.ptr (.agg [.lit (.string [110, 111, 32, 118, 97, 108, 105, 100, 32, 112, 108, 97, 110])]))

/-- 'onairlaw08.PlanValidMatchesReference': WHATEVER THE INPUT: true; the input reads as it did. -/
def planValidMatchesReferenceSpec : ChangeSpec := { name := "planValidMatchesReference", fn := fun _ => fun
  | [d1, d2] => { results := [.lit (.bool true)], args := [d1, d2] }
  | _ => none }
def planValidMatchesReferenceRow : OpenClaim := { program := "yteeillphhiaopaagreatdoor", sum := "5067d73932da932adc28dbbe41122f42ce51327fcdf68f908c8995ea7d286d91", func := "onair/onairlaw08.PlanValidMatchesReference", spec := "planValidMatchesReference", inPlace := ["internal/abi.NoEscape", "internal/reflectlite.TypeOf"], unfollowed := true, recurses := true, named := ["onair/timecode.rates", "onair/plan.errBytes", "onair/plan.errPlan"], apart := false, laid := [("onair/timecode.rates", laid_onair_timecode_rates), ("onair/plan.errBytes", laid_onair_plan_errBytes), ("onair/plan.errPlan", laid_onair_plan_errPlan)] }
def PlanValidMatchesReferenceSaid : Prop := planValidMatchesReferenceRow.holds Tryz.pinned (OpenSpec.ofChange planValidMatchesReferenceSpec)

/-- ITS FALSE NEIGHBOUR: 'it returns false'. Refute it at one input. -/
def planValidMatchesReferenceWrong : ChangeSpec := { name := "planValidMatchesReference", fn := fun _ => fun
  | [d1, d2] => { results := [.lit (.bool false)], args := [d1, d2] }
  | _ => none }
def PlanValidMatchesReferenceWrongFalsely : Prop := planValidMatchesReferenceRow.holds Tryz.pinned (OpenSpec.ofChange planValidMatchesReferenceWrong)

/-- 'onairlaw08.PlanLookupsMatchReference': WHATEVER THE INPUT: true; the input reads as it did. -/
def planLookupsMatchReferenceSpec : ChangeSpec := { name := "planLookupsMatchReference", fn := fun _ => fun
  | [d1, d2] => { results := [.lit (.bool true)], args := [d1, d2] }
  | _ => none }
def planLookupsMatchReferenceRow : OpenClaim := { program := "yteeillphhiaopaagreatdoor", sum := "5067d73932da932adc28dbbe41122f42ce51327fcdf68f908c8995ea7d286d91", func := "onair/onairlaw08.PlanLookupsMatchReference", spec := "planLookupsMatchReference", inPlace := ["internal/abi.NoEscape", "internal/reflectlite.TypeOf"], unfollowed := true, recurses := true, named := ["onair/timecode.rates", "onair/plan.errBytes", "onair/plan.errPlan"], apart := false, laid := [("onair/timecode.rates", laid_onair_timecode_rates), ("onair/plan.errBytes", laid_onair_plan_errBytes), ("onair/plan.errPlan", laid_onair_plan_errPlan)] }
def PlanLookupsMatchReferenceSaid : Prop := planLookupsMatchReferenceRow.holds Tryz.pinned (OpenSpec.ofChange planLookupsMatchReferenceSpec)

/-- ITS FALSE NEIGHBOUR: 'it returns false'. Refute it at one input. -/
def planLookupsMatchReferenceWrong : ChangeSpec := { name := "planLookupsMatchReference", fn := fun _ => fun
  | [d1, d2] => { results := [.lit (.bool false)], args := [d1, d2] }
  | _ => none }
def PlanLookupsMatchReferenceWrongFalsely : Prop := planLookupsMatchReferenceRow.holds Tryz.pinned (OpenSpec.ofChange planLookupsMatchReferenceWrong)

/-- 'onairlaw08.PlanEncodeMatchesReference': WHATEVER THE INPUT: true; the input reads as it did. -/
def planEncodeMatchesReferenceSpec : ChangeSpec := { name := "planEncodeMatchesReference", fn := fun _ => fun
  | [d] => { results := [.lit (.bool true)], args := [d] }
  | _ => none }
def planEncodeMatchesReferenceRow : OpenClaim := { program := "yteeillphhiaopaagreatdoor", sum := "5067d73932da932adc28dbbe41122f42ce51327fcdf68f908c8995ea7d286d91", func := "onair/onairlaw08.PlanEncodeMatchesReference", spec := "planEncodeMatchesReference", inPlace := ["internal/abi.NoEscape", "internal/reflectlite.TypeOf"], unfollowed := true, recurses := true, named := ["onair/timecode.rates", "onair/plan.errBytes", "onair/plan.errPlan"], apart := false, laid := [("onair/timecode.rates", laid_onair_timecode_rates), ("onair/plan.errBytes", laid_onair_plan_errBytes), ("onair/plan.errPlan", laid_onair_plan_errPlan)] }
def PlanEncodeMatchesReferenceSaid : Prop := planEncodeMatchesReferenceRow.holds Tryz.pinned (OpenSpec.ofChange planEncodeMatchesReferenceSpec)

/-- ITS FALSE NEIGHBOUR: 'it returns false'. Refute it at one input. -/
def planEncodeMatchesReferenceWrong : ChangeSpec := { name := "planEncodeMatchesReference", fn := fun _ => fun
  | [d] => { results := [.lit (.bool false)], args := [d] }
  | _ => none }
def PlanEncodeMatchesReferenceWrongFalsely : Prop := planEncodeMatchesReferenceRow.holds Tryz.pinned (OpenSpec.ofChange planEncodeMatchesReferenceWrong)

/-- 'onairlaw08.PlanDecodeMatchesReference': WHATEVER THE INPUT: true; the input reads as it did. -/
def planDecodeMatchesReferenceSpec : ChangeSpec := { name := "planDecodeMatchesReference", fn := fun _ => fun
  | [d] => { results := [.lit (.bool true)], args := [d] }
  | _ => none }
def planDecodeMatchesReferenceRow : OpenClaim := { program := "yteeillphhiaopaagreatdoor", sum := "5067d73932da932adc28dbbe41122f42ce51327fcdf68f908c8995ea7d286d91", func := "onair/onairlaw08.PlanDecodeMatchesReference", spec := "planDecodeMatchesReference", inPlace := ["internal/abi.NoEscape", "internal/reflectlite.TypeOf"], unfollowed := true, recurses := true, named := ["onair/timecode.rates", "onair/plan.errBytes", "onair/plan.errPlan"], apart := false, laid := [("onair/timecode.rates", laid_onair_timecode_rates), ("onair/plan.errBytes", laid_onair_plan_errBytes), ("onair/plan.errPlan", laid_onair_plan_errPlan)] }
def PlanDecodeMatchesReferenceSaid : Prop := planDecodeMatchesReferenceRow.holds Tryz.pinned (OpenSpec.ofChange planDecodeMatchesReferenceSpec)

/-- ITS FALSE NEIGHBOUR: 'it returns false'. Refute it at one input. -/
def planDecodeMatchesReferenceWrong : ChangeSpec := { name := "planDecodeMatchesReference", fn := fun _ => fun
  | [d] => { results := [.lit (.bool false)], args := [d] }
  | _ => none }
def PlanDecodeMatchesReferenceWrongFalsely : Prop := planDecodeMatchesReferenceRow.holds Tryz.pinned (OpenSpec.ofChange planDecodeMatchesReferenceWrong)

/-- 'onairlaw08.PlanRoundTrip': WHATEVER THE INPUT: true; the input reads as it did. -/
def planRoundTripSpec : ChangeSpec := { name := "planRoundTrip", fn := fun _ => fun
  | [d1, d2] => { results := [.lit (.bool true)], args := [d1, d2] }
  | _ => none }
def planRoundTripRow : OpenClaim := { program := "yteeillphhiaopaagreatdoor", sum := "5067d73932da932adc28dbbe41122f42ce51327fcdf68f908c8995ea7d286d91", func := "onair/onairlaw08.PlanRoundTrip", spec := "planRoundTrip", inPlace := ["internal/abi.NoEscape", "internal/reflectlite.TypeOf"], unfollowed := true, recurses := true, named := ["onair/timecode.rates", "onair/plan.errBytes", "onair/plan.errPlan"], apart := false, laid := [("onair/timecode.rates", laid_onair_timecode_rates), ("onair/plan.errBytes", laid_onair_plan_errBytes), ("onair/plan.errPlan", laid_onair_plan_errPlan)] }
def PlanRoundTripSaid : Prop := planRoundTripRow.holds Tryz.pinned (OpenSpec.ofChange planRoundTripSpec)

/-- ITS FALSE NEIGHBOUR: 'it returns false'. Refute it at one input. -/
def planRoundTripWrong : ChangeSpec := { name := "planRoundTrip", fn := fun _ => fun
  | [d1, d2] => { results := [.lit (.bool false)], args := [d1, d2] }
  | _ => none }
def PlanRoundTripWrongFalsely : Prop := planRoundTripRow.holds Tryz.pinned (OpenSpec.ofChange planRoundTripWrong)

/-- 'onairlaw08.PlanDecodedAgain': WHATEVER THE INPUT: true; the input reads as it did. -/
def planDecodedAgainSpec : ChangeSpec := { name := "planDecodedAgain", fn := fun _ => fun
  | [d] => { results := [.lit (.bool true)], args := [d] }
  | _ => none }
def planDecodedAgainRow : OpenClaim := { program := "yteeillphhiaopaagreatdoor", sum := "5067d73932da932adc28dbbe41122f42ce51327fcdf68f908c8995ea7d286d91", func := "onair/onairlaw08.PlanDecodedAgain", spec := "planDecodedAgain", inPlace := ["internal/abi.NoEscape", "internal/reflectlite.TypeOf"], unfollowed := true, recurses := true, named := ["onair/timecode.rates", "onair/plan.errBytes", "onair/plan.errPlan"], apart := false, laid := [("onair/timecode.rates", laid_onair_timecode_rates), ("onair/plan.errBytes", laid_onair_plan_errBytes), ("onair/plan.errPlan", laid_onair_plan_errPlan)] }
def PlanDecodedAgainSaid : Prop := planDecodedAgainRow.holds Tryz.pinned (OpenSpec.ofChange planDecodedAgainSpec)

/-- ITS FALSE NEIGHBOUR: 'it returns false'. Refute it at one input. -/
def planDecodedAgainWrong : ChangeSpec := { name := "planDecodedAgain", fn := fun _ => fun
  | [d] => { results := [.lit (.bool false)], args := [d] }
  | _ => none }
def PlanDecodedAgainWrongFalsely : Prop := planDecodedAgainRow.holds Tryz.pinned (OpenSpec.ofChange planDecodedAgainWrong)

/-- 'onairlaw08.PlanPrefixes': WHATEVER THE INPUT: true; the input reads as it did. -/
def planPrefixesSpec : ChangeSpec := { name := "planPrefixes", fn := fun _ => fun
  | [d1, d2, d3] => { results := [.lit (.bool true)], args := [d1, d2, d3] }
  | _ => none }
def planPrefixesRow : OpenClaim := { program := "yteeillphhiaopaagreatdoor", sum := "5067d73932da932adc28dbbe41122f42ce51327fcdf68f908c8995ea7d286d91", func := "onair/onairlaw08.PlanPrefixes", spec := "planPrefixes", inPlace := ["internal/abi.NoEscape", "internal/reflectlite.TypeOf"], unfollowed := true, recurses := true, named := ["onair/timecode.rates", "onair/plan.errBytes", "onair/plan.errPlan"], apart := false, laid := [("onair/timecode.rates", laid_onair_timecode_rates), ("onair/plan.errBytes", laid_onair_plan_errBytes), ("onair/plan.errPlan", laid_onair_plan_errPlan)] }
def PlanPrefixesSaid : Prop := planPrefixesRow.holds Tryz.pinned (OpenSpec.ofChange planPrefixesSpec)

/-- ITS FALSE NEIGHBOUR: 'it returns false'. Refute it at one input. -/
def planPrefixesWrong : ChangeSpec := { name := "planPrefixes", fn := fun _ => fun
  | [d1, d2, d3] => { results := [.lit (.bool false)], args := [d1, d2, d3] }
  | _ => none }
def PlanPrefixesWrongFalsely : Prop := planPrefixesRow.holds Tryz.pinned (OpenSpec.ofChange planPrefixesWrong)

/-- 'onairlaw08.PlanParts': WHATEVER THE INPUT: true; the input reads as it did. -/
def planPartsSpec : ChangeSpec := { name := "planParts", fn := fun _ => fun
  | [d1, d2, d3] => { results := [.lit (.bool true)], args := [d1, d2, d3] }
  | _ => none }
def planPartsRow : OpenClaim := { program := "yteeillphhiaopaagreatdoor", sum := "5067d73932da932adc28dbbe41122f42ce51327fcdf68f908c8995ea7d286d91", func := "onair/onairlaw08.PlanParts", spec := "planParts", inPlace := ["internal/abi.NoEscape", "internal/reflectlite.TypeOf"], unfollowed := true, recurses := true, named := ["onair/timecode.rates", "onair/plan.errBytes", "onair/plan.errPlan"], apart := false, laid := [("onair/timecode.rates", laid_onair_timecode_rates), ("onair/plan.errBytes", laid_onair_plan_errBytes), ("onair/plan.errPlan", laid_onair_plan_errPlan)] }
def PlanPartsSaid : Prop := planPartsRow.holds Tryz.pinned (OpenSpec.ofChange planPartsSpec)

/-- ITS FALSE NEIGHBOUR: 'it returns false'. Refute it at one input. -/
def planPartsWrong : ChangeSpec := { name := "planParts", fn := fun _ => fun
  | [d1, d2, d3] => { results := [.lit (.bool false)], args := [d1, d2, d3] }
  | _ => none }
def PlanPartsWrongFalsely : Prop := planPartsRow.holds Tryz.pinned (OpenSpec.ofChange planPartsWrong)

/-- 'onairlaw08.PlanFinds': WHATEVER THE INPUT: true; the input reads as it did. -/
def planFindsSpec : ChangeSpec := { name := "planFinds", fn := fun _ => fun
  | [d1, d2] => { results := [.lit (.bool true)], args := [d1, d2] }
  | _ => none }
def planFindsRow : OpenClaim := { program := "yteeillphhiaopaagreatdoor", sum := "5067d73932da932adc28dbbe41122f42ce51327fcdf68f908c8995ea7d286d91", func := "onair/onairlaw08.PlanFinds", spec := "planFinds", inPlace := ["internal/abi.NoEscape", "internal/reflectlite.TypeOf"], unfollowed := true, recurses := true, named := ["onair/timecode.rates", "onair/plan.errBytes", "onair/plan.errPlan"], apart := false, laid := [("onair/timecode.rates", laid_onair_timecode_rates), ("onair/plan.errBytes", laid_onair_plan_errBytes), ("onair/plan.errPlan", laid_onair_plan_errPlan)] }
def PlanFindsSaid : Prop := planFindsRow.holds Tryz.pinned (OpenSpec.ofChange planFindsSpec)

/-- ITS FALSE NEIGHBOUR: 'it returns false'. Refute it at one input. -/
def planFindsWrong : ChangeSpec := { name := "planFinds", fn := fun _ => fun
  | [d1, d2] => { results := [.lit (.bool false)], args := [d1, d2] }
  | _ => none }
def PlanFindsWrongFalsely : Prop := planFindsRow.holds Tryz.pinned (OpenSpec.ofChange planFindsWrong)

/- THE SECOND FORM. 'bulk': how many values and letters a reading holds, each counted each time it is reached (what is shared counts as often as it is met; a slice's spare places count too). A statement '..UptoSaid' is the law's where the arguments, and the package variables that the reading takes, are together of bulk at most 1048576: NARROWER than '..Said'. Prove '..Said' where nothing that the law and all that it calls make is longer than what came in: it says more and counts as full. Else prove '..UptoSaid'. A law counts once. -/
mutual
def uptoBulk {H : Type} : DataW H → Nat
  | .lit (.string bytes) => bytes.length + 1
  | .lit _ => 1
  | .nil => 1
  | .ptr d => uptoBulk d + 1
  | .slice elems spare => uptoBulkAll elems + uptoBulkAll spare + 1
  | .agg parts => uptoBulkAll parts + 1
  | .iface _ d => uptoBulk d + 1
  | .map entries => uptoBulkEntries entries + 1
  | .held _ => 1
def uptoBulkAll {H : Type} : List (DataW H) → Nat
  | [] => 0
  | d :: r => uptoBulk d + uptoBulkAll r
def uptoBulkEntries {H : Type} : List (Lit × DataW H) → Nat
  | [] => 0
  | x :: r => uptoBulkEntry x + uptoBulkEntries r
def uptoBulkEntry {H : Type} : Lit × DataW H → Nat
  | (.string bytes, d) => bytes.length + uptoBulk d + 1
  | (_, d) => uptoBulk d + 1
 end
def uptoSmall : (H : Type) → List (DataW H) → Bool := fun _ ds => decide (uptoBulkAll ds ≤ 1048576)
def OpenSpec.upto (s : _root_.Go.ChangeSpec) : _root_.Go.OpenSpec := { _root_.Go.OpenSpec.ofChange s with cond := some uptoSmall }

/-- 'onairlaw08.PlanValidMatchesReference', WHERE WHAT IT READS IS OF BULK AT MOST 1048576: true; the input reads as it did. -/
def planValidMatchesReferenceUptoRow : OpenClaim := { program := "yteeillphhiaopaagreatdoor", sum := "5067d73932da932adc28dbbe41122f42ce51327fcdf68f908c8995ea7d286d91", func := "onair/onairlaw08.PlanValidMatchesReference", spec := "planValidMatchesReference", inPlace := ["internal/abi.NoEscape", "internal/reflectlite.TypeOf"], unfollowed := true, recurses := true, named := ["onair/timecode.rates", "onair/plan.errBytes", "onair/plan.errPlan"], apart := false, laid := [("onair/timecode.rates", laid_onair_timecode_rates), ("onair/plan.errBytes", laid_onair_plan_errBytes), ("onair/plan.errPlan", laid_onair_plan_errPlan)], narrowed := true }
def PlanValidMatchesReferenceUptoSaid : Prop := planValidMatchesReferenceUptoRow.holds Tryz.pinned (OpenSpec.upto planValidMatchesReferenceSpec)

/-- 'onairlaw08.PlanLookupsMatchReference', WHERE WHAT IT READS IS OF BULK AT MOST 1048576: true; the input reads as it did. -/
def planLookupsMatchReferenceUptoRow : OpenClaim := { program := "yteeillphhiaopaagreatdoor", sum := "5067d73932da932adc28dbbe41122f42ce51327fcdf68f908c8995ea7d286d91", func := "onair/onairlaw08.PlanLookupsMatchReference", spec := "planLookupsMatchReference", inPlace := ["internal/abi.NoEscape", "internal/reflectlite.TypeOf"], unfollowed := true, recurses := true, named := ["onair/timecode.rates", "onair/plan.errBytes", "onair/plan.errPlan"], apart := false, laid := [("onair/timecode.rates", laid_onair_timecode_rates), ("onair/plan.errBytes", laid_onair_plan_errBytes), ("onair/plan.errPlan", laid_onair_plan_errPlan)], narrowed := true }
def PlanLookupsMatchReferenceUptoSaid : Prop := planLookupsMatchReferenceUptoRow.holds Tryz.pinned (OpenSpec.upto planLookupsMatchReferenceSpec)

/-- 'onairlaw08.PlanEncodeMatchesReference', WHERE WHAT IT READS IS OF BULK AT MOST 1048576: true; the input reads as it did. -/
def planEncodeMatchesReferenceUptoRow : OpenClaim := { program := "yteeillphhiaopaagreatdoor", sum := "5067d73932da932adc28dbbe41122f42ce51327fcdf68f908c8995ea7d286d91", func := "onair/onairlaw08.PlanEncodeMatchesReference", spec := "planEncodeMatchesReference", inPlace := ["internal/abi.NoEscape", "internal/reflectlite.TypeOf"], unfollowed := true, recurses := true, named := ["onair/timecode.rates", "onair/plan.errBytes", "onair/plan.errPlan"], apart := false, laid := [("onair/timecode.rates", laid_onair_timecode_rates), ("onair/plan.errBytes", laid_onair_plan_errBytes), ("onair/plan.errPlan", laid_onair_plan_errPlan)], narrowed := true }
def PlanEncodeMatchesReferenceUptoSaid : Prop := planEncodeMatchesReferenceUptoRow.holds Tryz.pinned (OpenSpec.upto planEncodeMatchesReferenceSpec)

/-- 'onairlaw08.PlanDecodeMatchesReference', WHERE WHAT IT READS IS OF BULK AT MOST 1048576: true; the input reads as it did. -/
def planDecodeMatchesReferenceUptoRow : OpenClaim := { program := "yteeillphhiaopaagreatdoor", sum := "5067d73932da932adc28dbbe41122f42ce51327fcdf68f908c8995ea7d286d91", func := "onair/onairlaw08.PlanDecodeMatchesReference", spec := "planDecodeMatchesReference", inPlace := ["internal/abi.NoEscape", "internal/reflectlite.TypeOf"], unfollowed := true, recurses := true, named := ["onair/timecode.rates", "onair/plan.errBytes", "onair/plan.errPlan"], apart := false, laid := [("onair/timecode.rates", laid_onair_timecode_rates), ("onair/plan.errBytes", laid_onair_plan_errBytes), ("onair/plan.errPlan", laid_onair_plan_errPlan)], narrowed := true }
def PlanDecodeMatchesReferenceUptoSaid : Prop := planDecodeMatchesReferenceUptoRow.holds Tryz.pinned (OpenSpec.upto planDecodeMatchesReferenceSpec)

/-- 'onairlaw08.PlanRoundTrip', WHERE WHAT IT READS IS OF BULK AT MOST 1048576: true; the input reads as it did. -/
def planRoundTripUptoRow : OpenClaim := { program := "yteeillphhiaopaagreatdoor", sum := "5067d73932da932adc28dbbe41122f42ce51327fcdf68f908c8995ea7d286d91", func := "onair/onairlaw08.PlanRoundTrip", spec := "planRoundTrip", inPlace := ["internal/abi.NoEscape", "internal/reflectlite.TypeOf"], unfollowed := true, recurses := true, named := ["onair/timecode.rates", "onair/plan.errBytes", "onair/plan.errPlan"], apart := false, laid := [("onair/timecode.rates", laid_onair_timecode_rates), ("onair/plan.errBytes", laid_onair_plan_errBytes), ("onair/plan.errPlan", laid_onair_plan_errPlan)], narrowed := true }
def PlanRoundTripUptoSaid : Prop := planRoundTripUptoRow.holds Tryz.pinned (OpenSpec.upto planRoundTripSpec)

/-- 'onairlaw08.PlanDecodedAgain', WHERE WHAT IT READS IS OF BULK AT MOST 1048576: true; the input reads as it did. -/
def planDecodedAgainUptoRow : OpenClaim := { program := "yteeillphhiaopaagreatdoor", sum := "5067d73932da932adc28dbbe41122f42ce51327fcdf68f908c8995ea7d286d91", func := "onair/onairlaw08.PlanDecodedAgain", spec := "planDecodedAgain", inPlace := ["internal/abi.NoEscape", "internal/reflectlite.TypeOf"], unfollowed := true, recurses := true, named := ["onair/timecode.rates", "onair/plan.errBytes", "onair/plan.errPlan"], apart := false, laid := [("onair/timecode.rates", laid_onair_timecode_rates), ("onair/plan.errBytes", laid_onair_plan_errBytes), ("onair/plan.errPlan", laid_onair_plan_errPlan)], narrowed := true }
def PlanDecodedAgainUptoSaid : Prop := planDecodedAgainUptoRow.holds Tryz.pinned (OpenSpec.upto planDecodedAgainSpec)

/-- 'onairlaw08.PlanPrefixes', WHERE WHAT IT READS IS OF BULK AT MOST 1048576: true; the input reads as it did. -/
def planPrefixesUptoRow : OpenClaim := { program := "yteeillphhiaopaagreatdoor", sum := "5067d73932da932adc28dbbe41122f42ce51327fcdf68f908c8995ea7d286d91", func := "onair/onairlaw08.PlanPrefixes", spec := "planPrefixes", inPlace := ["internal/abi.NoEscape", "internal/reflectlite.TypeOf"], unfollowed := true, recurses := true, named := ["onair/timecode.rates", "onair/plan.errBytes", "onair/plan.errPlan"], apart := false, laid := [("onair/timecode.rates", laid_onair_timecode_rates), ("onair/plan.errBytes", laid_onair_plan_errBytes), ("onair/plan.errPlan", laid_onair_plan_errPlan)], narrowed := true }
def PlanPrefixesUptoSaid : Prop := planPrefixesUptoRow.holds Tryz.pinned (OpenSpec.upto planPrefixesSpec)

/-- 'onairlaw08.PlanParts', WHERE WHAT IT READS IS OF BULK AT MOST 1048576: true; the input reads as it did. -/
def planPartsUptoRow : OpenClaim := { program := "yteeillphhiaopaagreatdoor", sum := "5067d73932da932adc28dbbe41122f42ce51327fcdf68f908c8995ea7d286d91", func := "onair/onairlaw08.PlanParts", spec := "planParts", inPlace := ["internal/abi.NoEscape", "internal/reflectlite.TypeOf"], unfollowed := true, recurses := true, named := ["onair/timecode.rates", "onair/plan.errBytes", "onair/plan.errPlan"], apart := false, laid := [("onair/timecode.rates", laid_onair_timecode_rates), ("onair/plan.errBytes", laid_onair_plan_errBytes), ("onair/plan.errPlan", laid_onair_plan_errPlan)], narrowed := true }
def PlanPartsUptoSaid : Prop := planPartsUptoRow.holds Tryz.pinned (OpenSpec.upto planPartsSpec)

/-- 'onairlaw08.PlanFinds', WHERE WHAT IT READS IS OF BULK AT MOST 1048576: true; the input reads as it did. -/
def planFindsUptoRow : OpenClaim := { program := "yteeillphhiaopaagreatdoor", sum := "5067d73932da932adc28dbbe41122f42ce51327fcdf68f908c8995ea7d286d91", func := "onair/onairlaw08.PlanFinds", spec := "planFinds", inPlace := ["internal/abi.NoEscape", "internal/reflectlite.TypeOf"], unfollowed := true, recurses := true, named := ["onair/timecode.rates", "onair/plan.errBytes", "onair/plan.errPlan"], apart := false, laid := [("onair/timecode.rates", laid_onair_timecode_rates), ("onair/plan.errBytes", laid_onair_plan_errBytes), ("onair/plan.errPlan", laid_onair_plan_errPlan)], narrowed := true }
def PlanFindsUptoSaid : Prop := planFindsUptoRow.holds Tryz.pinned (OpenSpec.upto planFindsSpec)

end Rows
end Go.Proofs.YteeillphhiaopaaGreatDoor
