/-
  NARROWER THAN 'FOR EVERY INPUT', by the rows' own cells (each row's printed sentence says how): TransportPackMatchesReference: laid · TransportUnpackMatchesReference: laid · TransportRoundTrip: laid · TransportInjective: laid · TransportPackets: laid · TransportClock: laid · TransportDamaged: laid · TransportMissing: laid · TransportFollows: laid · TransportGap: laid.
  DERIVED. THE GIVEN ROWS OF THIS SEAT. 10 by the template 'for every input the law returns true; each argument reads behind the call as it read before'; 0 by the template 'total and deterministic' (their statements: YtgdjpaeclicdfaaDoorTotals.lean).
  GIVEN WITH THE SEED: the statements are not yours to turn. If you find one false, say at which input.
  Laid BY PROGRAM, IN A SANDBOX (cutbox-rows.mjs): the forced cells as the released guide's own fill.sh prints them over the translation f6e22a3a34ad682c… (all of the seat's roots in one cut). By AI agents, Wed Nov 11 2026. No macro, syntax, notation, axiom, sorry.
-/
import Derived.Test.YtgdjpaeclicdfaaDoorChecked
import GoSem.Claim
import GoSem.ClaimJoined
import GoSem.ClaimMapViews
import Derived.JoinedTies
import Derived.KernelRfl
namespace Go.Proofs.YtgdjpaeclicdfaaDoor
/- THE CELL 'sum', in the pinned program and in every row, IS THE sha256 OF THE DUMP (.gsa) THAT YtgdjpaeclicdfaaDoorProg.lean LOADS. Nothing in Lean hashes anything: it is a label: what it is worth is what the hold of that sum in a sandbox is worth. -/
noncomputable def Tryd.pinned : Pinned := { name := "ytgdjpaeclicdfaadoor", sum := "f6e22a3a34ad682cc80e238bf07f8bd10ae498cf303d1db1b25f2067b8fdc748", checked := Tryd.checked }
namespace Rows
def none {H : Type} : Left H := { results := [], args := [] }

/- WHAT THE LISTED PACKAGE-LEVEL VARIABLES READ AS WHEN THE CALL BEGINS. Each datum BY PROGRAM (the guide's laid-datum.mjs) off the statement by which the dump's own 'gosem.cut.vars' lays the variable. In a bare row this is a premise. The card (YtgdjpaeclicdfaaDoorCards.lean) ties it to the program's text. -/
def laid_onair_timecode_rates {H : Type} : DataW H := .agg [.agg [.agg [.lit (.int .i64 24000), .lit (.int .i64 1001)], .lit (.int .i64 24), .lit (.int .i64 0)], .agg [.agg [.lit (.int .i64 24), .lit (.int .i64 1)], .lit (.int .i64 24), .lit (.int .i64 0)], .agg [.agg [.lit (.int .i64 25), .lit (.int .i64 1)], .lit (.int .i64 25), .lit (.int .i64 0)], .agg [.agg [.lit (.int .i64 30000), .lit (.int .i64 1001)], .lit (.int .i64 30), .lit (.int .i64 2)], .agg [.agg [.lit (.int .i64 30), .lit (.int .i64 1)], .lit (.int .i64 30), .lit (.int .i64 0)], .agg [.agg [.lit (.int .i64 50), .lit (.int .i64 1)], .lit (.int .i64 50), .lit (.int .i64 0)], .agg [.agg [.lit (.int .i64 60000), .lit (.int .i64 1001)], .lit (.int .i64 60), .lit (.int .i64 4)], .agg [.agg [.lit (.int .i64 60), .lit (.int .i64 1)], .lit (.int .i64 60), .lit (.int .i64 0)]]
def laid_onair_wire_remainders {H : Type} : DataW H := .agg [.lit (.int .u32 0), .lit (.int .u32 274646895), .lit (.int .u32 549293790), .lit (.int .u32 820201905), .lit (.int .u32 1098587580), .lit (.int .u32 1361435347), .lit (.int .u32 1640403810), .lit (.int .u32 1905808397), .lit (.int .u32 2197175160), .lit (.int .u32 2460548119), .lit (.int .u32 2722870694), .lit (.int .u32 2987750089), .lit (.int .u32 3280807620), .lit (.int .u32 3553878443), .lit (.int .u32 3811616794), .lit (.int .u32 4084100981)]

/-- 'onairlaw18.TransportPackMatchesReference': WHATEVER THE INPUT: true; the input reads as it did. -/
def transportPackMatchesReferenceSpec : ChangeSpec := { name := "transportPackMatchesReference", fn := fun _ => fun
  | [d1, d2, d3, d4] => { results := [.lit (.bool true)], args := [d1, d2, d3, d4] }
  | _ => none }
def transportPackMatchesReferenceRow : OpenClaim := { program := "ytgdjpaeclicdfaadoor", sum := "f6e22a3a34ad682cc80e238bf07f8bd10ae498cf303d1db1b25f2067b8fdc748", func := "onair/onairlaw18.TransportPackMatchesReference", spec := "transportPackMatchesReference", inPlace := ["internal/abi.NoEscape"], unfollowed := true, recurses := true, named := ["onair/timecode.rates", "onair/wire.remainders"], apart := false, laid := [("onair/timecode.rates", laid_onair_timecode_rates), ("onair/wire.remainders", laid_onair_wire_remainders)] }
def TransportPackMatchesReferenceSaid : Prop := transportPackMatchesReferenceRow.holds Tryd.pinned (OpenSpec.ofChange transportPackMatchesReferenceSpec)

/-- ITS FALSE NEIGHBOUR: 'it returns false'. Refute it at one input. -/
def transportPackMatchesReferenceWrong : ChangeSpec := { name := "transportPackMatchesReference", fn := fun _ => fun
  | [d1, d2, d3, d4] => { results := [.lit (.bool false)], args := [d1, d2, d3, d4] }
  | _ => none }
def TransportPackMatchesReferenceWrongFalsely : Prop := transportPackMatchesReferenceRow.holds Tryd.pinned (OpenSpec.ofChange transportPackMatchesReferenceWrong)

/-- 'onairlaw18.TransportUnpackMatchesReference': WHATEVER THE INPUT: true; the input reads as it did. -/
def transportUnpackMatchesReferenceSpec : ChangeSpec := { name := "transportUnpackMatchesReference", fn := fun _ => fun
  | [d1, d2, d3] => { results := [.lit (.bool true)], args := [d1, d2, d3] }
  | _ => none }
def transportUnpackMatchesReferenceRow : OpenClaim := { program := "ytgdjpaeclicdfaadoor", sum := "f6e22a3a34ad682cc80e238bf07f8bd10ae498cf303d1db1b25f2067b8fdc748", func := "onair/onairlaw18.TransportUnpackMatchesReference", spec := "transportUnpackMatchesReference", inPlace := ["internal/abi.NoEscape"], unfollowed := true, recurses := true, named := ["onair/timecode.rates", "onair/wire.remainders"], apart := false, laid := [("onair/timecode.rates", laid_onair_timecode_rates), ("onair/wire.remainders", laid_onair_wire_remainders)] }
def TransportUnpackMatchesReferenceSaid : Prop := transportUnpackMatchesReferenceRow.holds Tryd.pinned (OpenSpec.ofChange transportUnpackMatchesReferenceSpec)

/-- ITS FALSE NEIGHBOUR: 'it returns false'. Refute it at one input. -/
def transportUnpackMatchesReferenceWrong : ChangeSpec := { name := "transportUnpackMatchesReference", fn := fun _ => fun
  | [d1, d2, d3] => { results := [.lit (.bool false)], args := [d1, d2, d3] }
  | _ => none }
def TransportUnpackMatchesReferenceWrongFalsely : Prop := transportUnpackMatchesReferenceRow.holds Tryd.pinned (OpenSpec.ofChange transportUnpackMatchesReferenceWrong)

/-- 'onairlaw18.TransportRoundTrip': WHATEVER THE INPUT: true; the input reads as it did. -/
def transportRoundTripSpec : ChangeSpec := { name := "transportRoundTrip", fn := fun _ => fun
  | [d1, d2, d3] => { results := [.lit (.bool true)], args := [d1, d2, d3] }
  | _ => none }
def transportRoundTripRow : OpenClaim := { program := "ytgdjpaeclicdfaadoor", sum := "f6e22a3a34ad682cc80e238bf07f8bd10ae498cf303d1db1b25f2067b8fdc748", func := "onair/onairlaw18.TransportRoundTrip", spec := "transportRoundTrip", inPlace := ["internal/abi.NoEscape"], unfollowed := true, recurses := true, named := ["onair/timecode.rates", "onair/wire.remainders"], apart := false, laid := [("onair/timecode.rates", laid_onair_timecode_rates), ("onair/wire.remainders", laid_onair_wire_remainders)] }
def TransportRoundTripSaid : Prop := transportRoundTripRow.holds Tryd.pinned (OpenSpec.ofChange transportRoundTripSpec)

/-- ITS FALSE NEIGHBOUR: 'it returns false'. Refute it at one input. -/
def transportRoundTripWrong : ChangeSpec := { name := "transportRoundTrip", fn := fun _ => fun
  | [d1, d2, d3] => { results := [.lit (.bool false)], args := [d1, d2, d3] }
  | _ => none }
def TransportRoundTripWrongFalsely : Prop := transportRoundTripRow.holds Tryd.pinned (OpenSpec.ofChange transportRoundTripWrong)

/-- 'onairlaw18.TransportInjective': WHATEVER THE INPUT: true; the input reads as it did. -/
def transportInjectiveSpec : ChangeSpec := { name := "transportInjective", fn := fun _ => fun
  | [d1, d2, d3] => { results := [.lit (.bool true)], args := [d1, d2, d3] }
  | _ => none }
def transportInjectiveRow : OpenClaim := { program := "ytgdjpaeclicdfaadoor", sum := "f6e22a3a34ad682cc80e238bf07f8bd10ae498cf303d1db1b25f2067b8fdc748", func := "onair/onairlaw18.TransportInjective", spec := "transportInjective", inPlace := ["internal/abi.NoEscape"], unfollowed := true, recurses := true, named := ["onair/timecode.rates", "onair/wire.remainders"], apart := false, laid := [("onair/timecode.rates", laid_onair_timecode_rates), ("onair/wire.remainders", laid_onair_wire_remainders)] }
def TransportInjectiveSaid : Prop := transportInjectiveRow.holds Tryd.pinned (OpenSpec.ofChange transportInjectiveSpec)

/-- ITS FALSE NEIGHBOUR: 'it returns false'. Refute it at one input. -/
def transportInjectiveWrong : ChangeSpec := { name := "transportInjective", fn := fun _ => fun
  | [d1, d2, d3] => { results := [.lit (.bool false)], args := [d1, d2, d3] }
  | _ => none }
def TransportInjectiveWrongFalsely : Prop := transportInjectiveRow.holds Tryd.pinned (OpenSpec.ofChange transportInjectiveWrong)

/-- 'onairlaw18.TransportPackets': WHATEVER THE INPUT: true; the input reads as it did. -/
def transportPacketsSpec : ChangeSpec := { name := "transportPackets", fn := fun _ => fun
  | [d1, d2] => { results := [.lit (.bool true)], args := [d1, d2] }
  | _ => none }
def transportPacketsRow : OpenClaim := { program := "ytgdjpaeclicdfaadoor", sum := "f6e22a3a34ad682cc80e238bf07f8bd10ae498cf303d1db1b25f2067b8fdc748", func := "onair/onairlaw18.TransportPackets", spec := "transportPackets", inPlace := ["internal/abi.NoEscape"], unfollowed := true, recurses := true, named := ["onair/timecode.rates", "onair/wire.remainders"], apart := false, laid := [("onair/timecode.rates", laid_onair_timecode_rates), ("onair/wire.remainders", laid_onair_wire_remainders)] }
def TransportPacketsSaid : Prop := transportPacketsRow.holds Tryd.pinned (OpenSpec.ofChange transportPacketsSpec)

/-- ITS FALSE NEIGHBOUR: 'it returns false'. Refute it at one input. -/
def transportPacketsWrong : ChangeSpec := { name := "transportPackets", fn := fun _ => fun
  | [d1, d2] => { results := [.lit (.bool false)], args := [d1, d2] }
  | _ => none }
def TransportPacketsWrongFalsely : Prop := transportPacketsRow.holds Tryd.pinned (OpenSpec.ofChange transportPacketsWrong)

/-- 'onairlaw18.TransportClock': WHATEVER THE INPUT: true; the input reads as it did. -/
def transportClockSpec : ChangeSpec := { name := "transportClock", fn := fun _ => fun
  | [d1, d2] => { results := [.lit (.bool true)], args := [d1, d2] }
  | _ => none }
def transportClockRow : OpenClaim := { program := "ytgdjpaeclicdfaadoor", sum := "f6e22a3a34ad682cc80e238bf07f8bd10ae498cf303d1db1b25f2067b8fdc748", func := "onair/onairlaw18.TransportClock", spec := "transportClock", inPlace := ["internal/abi.NoEscape"], unfollowed := true, recurses := true, named := ["onair/timecode.rates", "onair/wire.remainders"], apart := false, laid := [("onair/timecode.rates", laid_onair_timecode_rates), ("onair/wire.remainders", laid_onair_wire_remainders)] }
def TransportClockSaid : Prop := transportClockRow.holds Tryd.pinned (OpenSpec.ofChange transportClockSpec)

/-- ITS FALSE NEIGHBOUR: 'it returns false'. Refute it at one input. -/
def transportClockWrong : ChangeSpec := { name := "transportClock", fn := fun _ => fun
  | [d1, d2] => { results := [.lit (.bool false)], args := [d1, d2] }
  | _ => none }
def TransportClockWrongFalsely : Prop := transportClockRow.holds Tryd.pinned (OpenSpec.ofChange transportClockWrong)

/-- 'onairlaw18.TransportDamaged': WHATEVER THE INPUT: true; the input reads as it did. -/
def transportDamagedSpec : ChangeSpec := { name := "transportDamaged", fn := fun _ => fun
  | [d1, d2, d3, d4] => { results := [.lit (.bool true)], args := [d1, d2, d3, d4] }
  | _ => none }
def transportDamagedRow : OpenClaim := { program := "ytgdjpaeclicdfaadoor", sum := "f6e22a3a34ad682cc80e238bf07f8bd10ae498cf303d1db1b25f2067b8fdc748", func := "onair/onairlaw18.TransportDamaged", spec := "transportDamaged", inPlace := ["internal/abi.NoEscape"], unfollowed := true, recurses := true, named := ["onair/timecode.rates", "onair/wire.remainders"], apart := false, laid := [("onair/timecode.rates", laid_onair_timecode_rates), ("onair/wire.remainders", laid_onair_wire_remainders)] }
def TransportDamagedSaid : Prop := transportDamagedRow.holds Tryd.pinned (OpenSpec.ofChange transportDamagedSpec)

/-- ITS FALSE NEIGHBOUR: 'it returns false'. Refute it at one input. -/
def transportDamagedWrong : ChangeSpec := { name := "transportDamaged", fn := fun _ => fun
  | [d1, d2, d3, d4] => { results := [.lit (.bool false)], args := [d1, d2, d3, d4] }
  | _ => none }
def TransportDamagedWrongFalsely : Prop := transportDamagedRow.holds Tryd.pinned (OpenSpec.ofChange transportDamagedWrong)

/-- 'onairlaw18.TransportMissing': WHATEVER THE INPUT: true; the input reads as it did. -/
def transportMissingSpec : ChangeSpec := { name := "transportMissing", fn := fun _ => fun
  | [d1, d2, d3, d4] => { results := [.lit (.bool true)], args := [d1, d2, d3, d4] }
  | _ => none }
def transportMissingRow : OpenClaim := { program := "ytgdjpaeclicdfaadoor", sum := "f6e22a3a34ad682cc80e238bf07f8bd10ae498cf303d1db1b25f2067b8fdc748", func := "onair/onairlaw18.TransportMissing", spec := "transportMissing", inPlace := ["internal/abi.NoEscape"], unfollowed := true, recurses := true, named := ["onair/timecode.rates", "onair/wire.remainders"], apart := false, laid := [("onair/timecode.rates", laid_onair_timecode_rates), ("onair/wire.remainders", laid_onair_wire_remainders)] }
def TransportMissingSaid : Prop := transportMissingRow.holds Tryd.pinned (OpenSpec.ofChange transportMissingSpec)

/-- ITS FALSE NEIGHBOUR: 'it returns false'. Refute it at one input. -/
def transportMissingWrong : ChangeSpec := { name := "transportMissing", fn := fun _ => fun
  | [d1, d2, d3, d4] => { results := [.lit (.bool false)], args := [d1, d2, d3, d4] }
  | _ => none }
def TransportMissingWrongFalsely : Prop := transportMissingRow.holds Tryd.pinned (OpenSpec.ofChange transportMissingWrong)

/-- 'onairlaw18.TransportFollows': WHATEVER THE INPUT: true; the input reads as it did. -/
def transportFollowsSpec : ChangeSpec := { name := "transportFollows", fn := fun _ => fun
  | [d1, d2, d3, d4, d5] => { results := [.lit (.bool true)], args := [d1, d2, d3, d4, d5] }
  | _ => none }
def transportFollowsRow : OpenClaim := { program := "ytgdjpaeclicdfaadoor", sum := "f6e22a3a34ad682cc80e238bf07f8bd10ae498cf303d1db1b25f2067b8fdc748", func := "onair/onairlaw18.TransportFollows", spec := "transportFollows", inPlace := ["internal/abi.NoEscape"], unfollowed := true, recurses := true, named := ["onair/timecode.rates", "onair/wire.remainders"], apart := false, laid := [("onair/timecode.rates", laid_onair_timecode_rates), ("onair/wire.remainders", laid_onair_wire_remainders)] }
def TransportFollowsSaid : Prop := transportFollowsRow.holds Tryd.pinned (OpenSpec.ofChange transportFollowsSpec)

/-- ITS FALSE NEIGHBOUR: 'it returns false'. Refute it at one input. -/
def transportFollowsWrong : ChangeSpec := { name := "transportFollows", fn := fun _ => fun
  | [d1, d2, d3, d4, d5] => { results := [.lit (.bool false)], args := [d1, d2, d3, d4, d5] }
  | _ => none }
def TransportFollowsWrongFalsely : Prop := transportFollowsRow.holds Tryd.pinned (OpenSpec.ofChange transportFollowsWrong)

/-- 'onairlaw18.TransportGap': WHATEVER THE INPUT: true; the input reads as it did. -/
def transportGapSpec : ChangeSpec := { name := "transportGap", fn := fun _ => fun
  | [d1, d2, d3, d4] => { results := [.lit (.bool true)], args := [d1, d2, d3, d4] }
  | _ => none }
def transportGapRow : OpenClaim := { program := "ytgdjpaeclicdfaadoor", sum := "f6e22a3a34ad682cc80e238bf07f8bd10ae498cf303d1db1b25f2067b8fdc748", func := "onair/onairlaw18.TransportGap", spec := "transportGap", inPlace := ["internal/abi.NoEscape"], unfollowed := true, recurses := true, named := ["onair/timecode.rates", "onair/wire.remainders"], apart := false, laid := [("onair/timecode.rates", laid_onair_timecode_rates), ("onair/wire.remainders", laid_onair_wire_remainders)] }
def TransportGapSaid : Prop := transportGapRow.holds Tryd.pinned (OpenSpec.ofChange transportGapSpec)

/-- ITS FALSE NEIGHBOUR: 'it returns false'. Refute it at one input. -/
def transportGapWrong : ChangeSpec := { name := "transportGap", fn := fun _ => fun
  | [d1, d2, d3, d4] => { results := [.lit (.bool false)], args := [d1, d2, d3, d4] }
  | _ => none }
def TransportGapWrongFalsely : Prop := transportGapRow.holds Tryd.pinned (OpenSpec.ofChange transportGapWrong)

/- THE SECOND FORM. 'bulk': how many values and letters a reading holds, each counted each time it is reached (what is shared counts as often as it is met; a slice's spare places count too). A statement '..UptoSaid' is the law's where the arguments, and the package variables that the reading takes, are together of bulk at most 1048576: NARROWER than '..Said'. Prove '..Said' where nothing that the law and all that it calls make is longer than what came in: it says more and counts as full. Else prove '..UptoSaid'. A law counts once. -/
mutual
def uptoBulk {H : Type} : DataW H → Nat
  | .lit (.string bytes) => bytes.length + 1
  | .lit _ => 1
  | .nil => 1
  | .ptr d => uptoBulk d + 1
  | .slice elems spare => uptoBulkAll elems + uptoBulkAll spare + 1
  | .agg parts => uptoBulkAll parts + 1
  | .iface _ d => uptoBulk d + 1
  | .map entries => uptoBulkEntries entries + 1
  | .held _ => 1
def uptoBulkAll {H : Type} : List (DataW H) → Nat
  | [] => 0
  | d :: r => uptoBulk d + uptoBulkAll r
def uptoBulkEntries {H : Type} : List (Lit × DataW H) → Nat
  | [] => 0
  | x :: r => uptoBulkEntry x + uptoBulkEntries r
def uptoBulkEntry {H : Type} : Lit × DataW H → Nat
  | (.string bytes, d) => bytes.length + uptoBulk d + 1
  | (_, d) => uptoBulk d + 1
 end
def uptoSmall : (H : Type) → List (DataW H) → Bool := fun _ ds => decide (uptoBulkAll ds ≤ 1048576)
def OpenSpec.upto (s : _root_.Go.ChangeSpec) : _root_.Go.OpenSpec := { _root_.Go.OpenSpec.ofChange s with cond := some uptoSmall }

/-- 'onairlaw18.TransportPackMatchesReference', WHERE WHAT IT READS IS OF BULK AT MOST 1048576: true; the input reads as it did. -/
def transportPackMatchesReferenceUptoRow : OpenClaim := { program := "ytgdjpaeclicdfaadoor", sum := "f6e22a3a34ad682cc80e238bf07f8bd10ae498cf303d1db1b25f2067b8fdc748", func := "onair/onairlaw18.TransportPackMatchesReference", spec := "transportPackMatchesReference", inPlace := ["internal/abi.NoEscape"], unfollowed := true, recurses := true, named := ["onair/timecode.rates", "onair/wire.remainders"], apart := false, laid := [("onair/timecode.rates", laid_onair_timecode_rates), ("onair/wire.remainders", laid_onair_wire_remainders)], narrowed := true }
def TransportPackMatchesReferenceUptoSaid : Prop := transportPackMatchesReferenceUptoRow.holds Tryd.pinned (OpenSpec.upto transportPackMatchesReferenceSpec)

/-- 'onairlaw18.TransportUnpackMatchesReference', WHERE WHAT IT READS IS OF BULK AT MOST 1048576: true; the input reads as it did. -/
def transportUnpackMatchesReferenceUptoRow : OpenClaim := { program := "ytgdjpaeclicdfaadoor", sum := "f6e22a3a34ad682cc80e238bf07f8bd10ae498cf303d1db1b25f2067b8fdc748", func := "onair/onairlaw18.TransportUnpackMatchesReference", spec := "transportUnpackMatchesReference", inPlace := ["internal/abi.NoEscape"], unfollowed := true, recurses := true, named := ["onair/timecode.rates", "onair/wire.remainders"], apart := false, laid := [("onair/timecode.rates", laid_onair_timecode_rates), ("onair/wire.remainders", laid_onair_wire_remainders)], narrowed := true }
def TransportUnpackMatchesReferenceUptoSaid : Prop := transportUnpackMatchesReferenceUptoRow.holds Tryd.pinned (OpenSpec.upto transportUnpackMatchesReferenceSpec)

/-- 'onairlaw18.TransportRoundTrip', WHERE WHAT IT READS IS OF BULK AT MOST 1048576: true; the input reads as it did. -/
def transportRoundTripUptoRow : OpenClaim := { program := "ytgdjpaeclicdfaadoor", sum := "f6e22a3a34ad682cc80e238bf07f8bd10ae498cf303d1db1b25f2067b8fdc748", func := "onair/onairlaw18.TransportRoundTrip", spec := "transportRoundTrip", inPlace := ["internal/abi.NoEscape"], unfollowed := true, recurses := true, named := ["onair/timecode.rates", "onair/wire.remainders"], apart := false, laid := [("onair/timecode.rates", laid_onair_timecode_rates), ("onair/wire.remainders", laid_onair_wire_remainders)], narrowed := true }
def TransportRoundTripUptoSaid : Prop := transportRoundTripUptoRow.holds Tryd.pinned (OpenSpec.upto transportRoundTripSpec)

/-- 'onairlaw18.TransportInjective', WHERE WHAT IT READS IS OF BULK AT MOST 1048576: true; the input reads as it did. -/
def transportInjectiveUptoRow : OpenClaim := { program := "ytgdjpaeclicdfaadoor", sum := "f6e22a3a34ad682cc80e238bf07f8bd10ae498cf303d1db1b25f2067b8fdc748", func := "onair/onairlaw18.TransportInjective", spec := "transportInjective", inPlace := ["internal/abi.NoEscape"], unfollowed := true, recurses := true, named := ["onair/timecode.rates", "onair/wire.remainders"], apart := false, laid := [("onair/timecode.rates", laid_onair_timecode_rates), ("onair/wire.remainders", laid_onair_wire_remainders)], narrowed := true }
def TransportInjectiveUptoSaid : Prop := transportInjectiveUptoRow.holds Tryd.pinned (OpenSpec.upto transportInjectiveSpec)

/-- 'onairlaw18.TransportPackets', WHERE WHAT IT READS IS OF BULK AT MOST 1048576: true; the input reads as it did. -/
def transportPacketsUptoRow : OpenClaim := { program := "ytgdjpaeclicdfaadoor", sum := "f6e22a3a34ad682cc80e238bf07f8bd10ae498cf303d1db1b25f2067b8fdc748", func := "onair/onairlaw18.TransportPackets", spec := "transportPackets", inPlace := ["internal/abi.NoEscape"], unfollowed := true, recurses := true, named := ["onair/timecode.rates", "onair/wire.remainders"], apart := false, laid := [("onair/timecode.rates", laid_onair_timecode_rates), ("onair/wire.remainders", laid_onair_wire_remainders)], narrowed := true }
def TransportPacketsUptoSaid : Prop := transportPacketsUptoRow.holds Tryd.pinned (OpenSpec.upto transportPacketsSpec)

/-- 'onairlaw18.TransportClock', WHERE WHAT IT READS IS OF BULK AT MOST 1048576: true; the input reads as it did. -/
def transportClockUptoRow : OpenClaim := { program := "ytgdjpaeclicdfaadoor", sum := "f6e22a3a34ad682cc80e238bf07f8bd10ae498cf303d1db1b25f2067b8fdc748", func := "onair/onairlaw18.TransportClock", spec := "transportClock", inPlace := ["internal/abi.NoEscape"], unfollowed := true, recurses := true, named := ["onair/timecode.rates", "onair/wire.remainders"], apart := false, laid := [("onair/timecode.rates", laid_onair_timecode_rates), ("onair/wire.remainders", laid_onair_wire_remainders)], narrowed := true }
def TransportClockUptoSaid : Prop := transportClockUptoRow.holds Tryd.pinned (OpenSpec.upto transportClockSpec)

/-- 'onairlaw18.TransportDamaged', WHERE WHAT IT READS IS OF BULK AT MOST 1048576: true; the input reads as it did. -/
def transportDamagedUptoRow : OpenClaim := { program := "ytgdjpaeclicdfaadoor", sum := "f6e22a3a34ad682cc80e238bf07f8bd10ae498cf303d1db1b25f2067b8fdc748", func := "onair/onairlaw18.TransportDamaged", spec := "transportDamaged", inPlace := ["internal/abi.NoEscape"], unfollowed := true, recurses := true, named := ["onair/timecode.rates", "onair/wire.remainders"], apart := false, laid := [("onair/timecode.rates", laid_onair_timecode_rates), ("onair/wire.remainders", laid_onair_wire_remainders)], narrowed := true }
def TransportDamagedUptoSaid : Prop := transportDamagedUptoRow.holds Tryd.pinned (OpenSpec.upto transportDamagedSpec)

/-- 'onairlaw18.TransportMissing', WHERE WHAT IT READS IS OF BULK AT MOST 1048576: true; the input reads as it did. -/
def transportMissingUptoRow : OpenClaim := { program := "ytgdjpaeclicdfaadoor", sum := "f6e22a3a34ad682cc80e238bf07f8bd10ae498cf303d1db1b25f2067b8fdc748", func := "onair/onairlaw18.TransportMissing", spec := "transportMissing", inPlace := ["internal/abi.NoEscape"], unfollowed := true, recurses := true, named := ["onair/timecode.rates", "onair/wire.remainders"], apart := false, laid := [("onair/timecode.rates", laid_onair_timecode_rates), ("onair/wire.remainders", laid_onair_wire_remainders)], narrowed := true }
def TransportMissingUptoSaid : Prop := transportMissingUptoRow.holds Tryd.pinned (OpenSpec.upto transportMissingSpec)

/-- 'onairlaw18.TransportFollows', WHERE WHAT IT READS IS OF BULK AT MOST 1048576: true; the input reads as it did. -/
def transportFollowsUptoRow : OpenClaim := { program := "ytgdjpaeclicdfaadoor", sum := "f6e22a3a34ad682cc80e238bf07f8bd10ae498cf303d1db1b25f2067b8fdc748", func := "onair/onairlaw18.TransportFollows", spec := "transportFollows", inPlace := ["internal/abi.NoEscape"], unfollowed := true, recurses := true, named := ["onair/timecode.rates", "onair/wire.remainders"], apart := false, laid := [("onair/timecode.rates", laid_onair_timecode_rates), ("onair/wire.remainders", laid_onair_wire_remainders)], narrowed := true }
def TransportFollowsUptoSaid : Prop := transportFollowsUptoRow.holds Tryd.pinned (OpenSpec.upto transportFollowsSpec)

/-- 'onairlaw18.TransportGap', WHERE WHAT IT READS IS OF BULK AT MOST 1048576: true; the input reads as it did. -/
def transportGapUptoRow : OpenClaim := { program := "ytgdjpaeclicdfaadoor", sum := "f6e22a3a34ad682cc80e238bf07f8bd10ae498cf303d1db1b25f2067b8fdc748", func := "onair/onairlaw18.TransportGap", spec := "transportGap", inPlace := ["internal/abi.NoEscape"], unfollowed := true, recurses := true, named := ["onair/timecode.rates", "onair/wire.remainders"], apart := false, laid := [("onair/timecode.rates", laid_onair_timecode_rates), ("onair/wire.remainders", laid_onair_wire_remainders)], narrowed := true }
def TransportGapUptoSaid : Prop := transportGapUptoRow.holds Tryd.pinned (OpenSpec.upto transportGapSpec)

end Rows
end Go.Proofs.YtgdjpaeclicdfaaDoor
