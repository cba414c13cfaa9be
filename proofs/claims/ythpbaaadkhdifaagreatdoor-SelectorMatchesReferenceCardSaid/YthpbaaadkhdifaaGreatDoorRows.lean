/-
  NARROWER THAN 'FOR EVERY INPUT', by the rows' own cells (each row's printed sentence says how): SelectorMatchesReference: laid · SelectorSafe: laid · SelectorDecodable: laid · SelectorSeamless: laid · SelectorChannels: laid · SelectorKeeps: laid · SelectorNew: laid.
  DERIVED. THE GIVEN ROWS OF THIS SEAT. 7 by the template 'for every input the law returns true; each argument reads behind the call as it read before'; 0 by the template 'total and deterministic' (their statements: YthpbaaadkhdifaaGreatDoorTotals.lean).
  GIVEN WITH THE SEED: the statements are not yours to turn. If you find one false, say at which input.
  Laid BY PROGRAM, IN A SANDBOX (cutbox-rows.mjs): the forced cells as the released guide's own fill.sh prints them over the translation 322d345ed5c1908e… (all of the seat's roots in one cut). By AI agents, Wed Nov 11 2026. No macro, syntax, notation, axiom, sorry.
-/
import Derived.Test.YthpbaaadkhdifaaGreatDoorChecked
import GoSem.Claim
import GoSem.ClaimJoined
import GoSem.ClaimMapViews
import Derived.JoinedTies
import Derived.KernelRfl
namespace Go.Proofs.YthpbaaadkhdifaaGreatDoor
/- THE CELL 'sum', in the pinned program and in every row, IS THE sha256 OF THE DUMP (.gsa) THAT YthpbaaadkhdifaaGreatDoorProg.lean LOADS. Nothing in Lean hashes anything: it is a label: what it is worth is what the hold of that sum in a sandbox is worth. -/
noncomputable def Tryz.pinned : Pinned := { name := "ythpbaaadkhdifaagreatdoor", sum := "322d345ed5c1908ee769f1f43069d0a66a3a0b7f496881d9189cdd8ae480bdf1", checked := Tryz.checked }
namespace Rows
def none {H : Type} : Left H := { results := [], args := [] }

/- WHAT THE LISTED PACKAGE-LEVEL VARIABLES READ AS WHEN THE CALL BEGINS. Each datum BY PROGRAM (the guide's laid-datum.mjs) off the statement by which the dump's own 'gosem.cut.vars' lays the variable. In a bare row this is a premise. The card (YthpbaaadkhdifaaGreatDoorCards.lean) ties it to the program's text. -/
def laid_onair_timecode_rates {H : Type} : DataW H := .agg [.agg [.agg [.lit (.int .i64 24000), .lit (.int .i64 1001)], .lit (.int .i64 24), .lit (.int .i64 0)], .agg [.agg [.lit (.int .i64 24), .lit (.int .i64 1)], .lit (.int .i64 24), .lit (.int .i64 0)], .agg [.agg [.lit (.int .i64 25), .lit (.int .i64 1)], .lit (.int .i64 25), .lit (.int .i64 0)], .agg [.agg [.lit (.int .i64 30000), .lit (.int .i64 1001)], .lit (.int .i64 30), .lit (.int .i64 2)], .agg [.agg [.lit (.int .i64 30), .lit (.int .i64 1)], .lit (.int .i64 30), .lit (.int .i64 0)], .agg [.agg [.lit (.int .i64 50), .lit (.int .i64 1)], .lit (.int .i64 50), .lit (.int .i64 0)], .agg [.agg [.lit (.int .i64 60000), .lit (.int .i64 1001)], .lit (.int .i64 60), .lit (.int .i64 4)], .agg [.agg [.lit (.int .i64 60), .lit (.int .i64 1)], .lit (.int .i64 60), .lit (.int .i64 0)]]
def laid_onair_wire_remainders {H : Type} : DataW H := .agg [.lit (.int .u32 0), .lit (.int .u32 274646895), .lit (.int .u32 549293790), .lit (.int .u32 820201905), .lit (.int .u32 1098587580), .lit (.int .u32 1361435347), .lit (.int .u32 1640403810), .lit (.int .u32 1905808397), .lit (.int .u32 2197175160), .lit (.int .u32 2460548119), .lit (.int .u32 2722870694), .lit (.int .u32 2987750089), .lit (.int .u32 3280807620), .lit (.int .u32 3553878443), .lit (.int .u32 3811616794), .lit (.int .u32 4084100981)]

/-- 'onairlaw22.SelectorMatchesReference': WHATEVER THE INPUT: true; the input reads as it did. -/
def selectorMatchesReferenceSpec : ChangeSpec := { name := "selectorMatchesReference", fn := fun _ => fun
  | [d1, d2] => { results := [.lit (.bool true)], args := [d1, d2] }
  | _ => none }
def selectorMatchesReferenceRow : OpenClaim := { program := "ythpbaaadkhdifaagreatdoor", sum := "322d345ed5c1908ee769f1f43069d0a66a3a0b7f496881d9189cdd8ae480bdf1", func := "onair/onairlaw22.SelectorMatchesReference", spec := "selectorMatchesReference", inPlace := ["internal/abi.NoEscape", "internal/bytealg.MakeNoZero"], unfollowed := true, recurses := true, named := ["onair/timecode.rates", "onair/wire.remainders"], apart := false, laid := [("onair/timecode.rates", laid_onair_timecode_rates), ("onair/wire.remainders", laid_onair_wire_remainders)] }
def SelectorMatchesReferenceSaid : Prop := selectorMatchesReferenceRow.holds Tryz.pinned (OpenSpec.ofChange selectorMatchesReferenceSpec)

/-- ITS FALSE NEIGHBOUR: 'it returns false'. Refute it at one input. -/
def selectorMatchesReferenceWrong : ChangeSpec := { name := "selectorMatchesReference", fn := fun _ => fun
  | [d1, d2] => { results := [.lit (.bool false)], args := [d1, d2] }
  | _ => none }
def SelectorMatchesReferenceWrongFalsely : Prop := selectorMatchesReferenceRow.holds Tryz.pinned (OpenSpec.ofChange selectorMatchesReferenceWrong)

/-- 'onairlaw22.SelectorSafe': WHATEVER THE INPUT: true; the input reads as it did. -/
def selectorSafeSpec : ChangeSpec := { name := "selectorSafe", fn := fun _ => fun
  | [d1, d2] => { results := [.lit (.bool true)], args := [d1, d2] }
  | _ => none }
def selectorSafeRow : OpenClaim := { program := "ythpbaaadkhdifaagreatdoor", sum := "322d345ed5c1908ee769f1f43069d0a66a3a0b7f496881d9189cdd8ae480bdf1", func := "onair/onairlaw22.SelectorSafe", spec := "selectorSafe", inPlace := ["internal/abi.NoEscape", "internal/bytealg.MakeNoZero"], unfollowed := true, recurses := true, named := ["onair/timecode.rates", "onair/wire.remainders"], apart := false, laid := [("onair/timecode.rates", laid_onair_timecode_rates), ("onair/wire.remainders", laid_onair_wire_remainders)] }
def SelectorSafeSaid : Prop := selectorSafeRow.holds Tryz.pinned (OpenSpec.ofChange selectorSafeSpec)

/-- ITS FALSE NEIGHBOUR: 'it returns false'. Refute it at one input. -/
def selectorSafeWrong : ChangeSpec := { name := "selectorSafe", fn := fun _ => fun
  | [d1, d2] => { results := [.lit (.bool false)], args := [d1, d2] }
  | _ => none }
def SelectorSafeWrongFalsely : Prop := selectorSafeRow.holds Tryz.pinned (OpenSpec.ofChange selectorSafeWrong)

/-- 'onairlaw22.SelectorDecodable': WHATEVER THE INPUT: true; the input reads as it did. -/
def selectorDecodableSpec : ChangeSpec := { name := "selectorDecodable", fn := fun _ => fun
  | [d1, d2] => { results := [.lit (.bool true)], args := [d1, d2] }
  | _ => none }
def selectorDecodableRow : OpenClaim := { program := "ythpbaaadkhdifaagreatdoor", sum := "322d345ed5c1908ee769f1f43069d0a66a3a0b7f496881d9189cdd8ae480bdf1", func := "onair/onairlaw22.SelectorDecodable", spec := "selectorDecodable", inPlace := ["internal/abi.NoEscape", "internal/bytealg.MakeNoZero"], unfollowed := true, recurses := true, named := ["onair/timecode.rates", "onair/wire.remainders"], apart := false, laid := [("onair/timecode.rates", laid_onair_timecode_rates), ("onair/wire.remainders", laid_onair_wire_remainders)] }
def SelectorDecodableSaid : Prop := selectorDecodableRow.holds Tryz.pinned (OpenSpec.ofChange selectorDecodableSpec)

/-- ITS FALSE NEIGHBOUR: 'it returns false'. Refute it at one input. -/
def selectorDecodableWrong : ChangeSpec := { name := "selectorDecodable", fn := fun _ => fun
  | [d1, d2] => { results := [.lit (.bool false)], args := [d1, d2] }
  | _ => none }
def SelectorDecodableWrongFalsely : Prop := selectorDecodableRow.holds Tryz.pinned (OpenSpec.ofChange selectorDecodableWrong)

/-- 'onairlaw22.SelectorSeamless': WHATEVER THE INPUT: true; the input reads as it did. -/
def selectorSeamlessSpec : ChangeSpec := { name := "selectorSeamless", fn := fun _ => fun
  | [d1, d2, d3] => { results := [.lit (.bool true)], args := [d1, d2, d3] }
  | _ => none }
def selectorSeamlessRow : OpenClaim := { program := "ythpbaaadkhdifaagreatdoor", sum := "322d345ed5c1908ee769f1f43069d0a66a3a0b7f496881d9189cdd8ae480bdf1", func := "onair/onairlaw22.SelectorSeamless", spec := "selectorSeamless", inPlace := ["internal/abi.NoEscape", "internal/bytealg.MakeNoZero"], unfollowed := true, recurses := true, named := ["onair/timecode.rates", "onair/wire.remainders"], apart := false, laid := [("onair/timecode.rates", laid_onair_timecode_rates), ("onair/wire.remainders", laid_onair_wire_remainders)] }
def SelectorSeamlessSaid : Prop := selectorSeamlessRow.holds Tryz.pinned (OpenSpec.ofChange selectorSeamlessSpec)

/-- ITS FALSE NEIGHBOUR: 'it returns false'. Refute it at one input. -/
def selectorSeamlessWrong : ChangeSpec := { name := "selectorSeamless", fn := fun _ => fun
  | [d1, d2, d3] => { results := [.lit (.bool false)], args := [d1, d2, d3] }
  | _ => none }
def SelectorSeamlessWrongFalsely : Prop := selectorSeamlessRow.holds Tryz.pinned (OpenSpec.ofChange selectorSeamlessWrong)

/-- 'onairlaw22.SelectorChannels': WHATEVER THE INPUT: true; the input reads as it did. -/
def selectorChannelsSpec : ChangeSpec := { name := "selectorChannels", fn := fun _ => fun
  | [d1, d2] => { results := [.lit (.bool true)], args := [d1, d2] }
  | _ => none }
def selectorChannelsRow : OpenClaim := { program := "ythpbaaadkhdifaagreatdoor", sum := "322d345ed5c1908ee769f1f43069d0a66a3a0b7f496881d9189cdd8ae480bdf1", func := "onair/onairlaw22.SelectorChannels", spec := "selectorChannels", inPlace := ["internal/abi.NoEscape", "internal/bytealg.MakeNoZero"], unfollowed := true, recurses := true, named := ["onair/timecode.rates", "onair/wire.remainders"], apart := false, laid := [("onair/timecode.rates", laid_onair_timecode_rates), ("onair/wire.remainders", laid_onair_wire_remainders)] }
def SelectorChannelsSaid : Prop := selectorChannelsRow.holds Tryz.pinned (OpenSpec.ofChange selectorChannelsSpec)

/-- ITS FALSE NEIGHBOUR: 'it returns false'. Refute it at one input. -/
def selectorChannelsWrong : ChangeSpec := { name := "selectorChannels", fn := fun _ => fun
  | [d1, d2] => { results := [.lit (.bool false)], args := [d1, d2] }
  | _ => none }
def SelectorChannelsWrongFalsely : Prop := selectorChannelsRow.holds Tryz.pinned (OpenSpec.ofChange selectorChannelsWrong)

/-- 'onairlaw22.SelectorKeeps': WHATEVER THE INPUT: true; the input reads as it did. -/
def selectorKeepsSpec : ChangeSpec := { name := "selectorKeeps", fn := fun _ => fun
  | [d1, d2, d3] => { results := [.lit (.bool true)], args := [d1, d2, d3] }
  | _ => none }
def selectorKeepsRow : OpenClaim := { program := "ythpbaaadkhdifaagreatdoor", sum := "322d345ed5c1908ee769f1f43069d0a66a3a0b7f496881d9189cdd8ae480bdf1", func := "onair/onairlaw22.SelectorKeeps", spec := "selectorKeeps", inPlace := ["internal/abi.NoEscape", "internal/bytealg.MakeNoZero"], unfollowed := true, recurses := true, named := ["onair/timecode.rates", "onair/wire.remainders"], apart := false, laid := [("onair/timecode.rates", laid_onair_timecode_rates), ("onair/wire.remainders", laid_onair_wire_remainders)] }
def SelectorKeepsSaid : Prop := selectorKeepsRow.holds Tryz.pinned (OpenSpec.ofChange selectorKeepsSpec)

/-- ITS FALSE NEIGHBOUR: 'it returns false'. Refute it at one input. -/
def selectorKeepsWrong : ChangeSpec := { name := "selectorKeeps", fn := fun _ => fun
  | [d1, d2, d3] => { results := [.lit (.bool false)], args := [d1, d2, d3] }
  | _ => none }
def SelectorKeepsWrongFalsely : Prop := selectorKeepsRow.holds Tryz.pinned (OpenSpec.ofChange selectorKeepsWrong)

/-- 'onairlaw22.SelectorNew': WHATEVER THE INPUT: true; the input reads as it did. -/
def selectorNewSpec : ChangeSpec := { name := "selectorNew", fn := fun _ => fun
  | [d] => { results := [.lit (.bool true)], args := [d] }
  | _ => none }
def selectorNewRow : OpenClaim := { program := "ythpbaaadkhdifaagreatdoor", sum := "322d345ed5c1908ee769f1f43069d0a66a3a0b7f496881d9189cdd8ae480bdf1", func := "onair/onairlaw22.SelectorNew", spec := "selectorNew", inPlace := ["internal/abi.NoEscape", "internal/bytealg.MakeNoZero"], unfollowed := true, recurses := true, named := ["onair/timecode.rates", "onair/wire.remainders"], apart := false, laid := [("onair/timecode.rates", laid_onair_timecode_rates), ("onair/wire.remainders", laid_onair_wire_remainders)] }
def SelectorNewSaid : Prop := selectorNewRow.holds Tryz.pinned (OpenSpec.ofChange selectorNewSpec)

/-- ITS FALSE NEIGHBOUR: 'it returns false'. Refute it at one input. -/
def selectorNewWrong : ChangeSpec := { name := "selectorNew", fn := fun _ => fun
  | [d] => { results := [.lit (.bool false)], args := [d] }
  | _ => none }
def SelectorNewWrongFalsely : Prop := selectorNewRow.holds Tryz.pinned (OpenSpec.ofChange selectorNewWrong)

/- THE SECOND FORM. 'bulk': how many values and letters a reading holds, each counted each time it is reached (what is shared counts as often as it is met; a slice's spare places count too). A statement '..UptoSaid' is the law's where the arguments, and the package variables that the reading takes, are together of bulk at most 1048576: NARROWER than '..Said'. Prove '..Said' where nothing that the law and all that it calls make is longer than what came in: it says more and counts as full. Else prove '..UptoSaid'. A law counts once. -/
mutual
def uptoBulk {H : Type} : DataW H → Nat
  | .lit (.string bytes) => bytes.length + 1
  | .lit _ => 1
  | .nil => 1
  | .ptr d => uptoBulk d + 1
  | .slice elems spare => uptoBulkAll elems + uptoBulkAll spare + 1
  | .agg parts => uptoBulkAll parts + 1
  | .iface _ d => uptoBulk d + 1
  | .map entries => uptoBulkEntries entries + 1
  | .held _ => 1
def uptoBulkAll {H : Type} : List (DataW H) → Nat
  | [] => 0
  | d :: r => uptoBulk d + uptoBulkAll r
def uptoBulkEntries {H : Type} : List (Lit × DataW H) → Nat
  | [] => 0
  | x :: r => uptoBulkEntry x + uptoBulkEntries r
def uptoBulkEntry {H : Type} : Lit × DataW H → Nat
  | (.string bytes, d) => bytes.length + uptoBulk d + 1
  | (_, d) => uptoBulk d + 1
 end
def uptoSmall : (H : Type) → List (DataW H) → Bool := fun _ ds => decide (uptoBulkAll ds ≤ 1048576)
def OpenSpec.upto (s : _root_.Go.ChangeSpec) : _root_.Go.OpenSpec := { _root_.Go.OpenSpec.ofChange s with cond := some uptoSmall }

/-- 'onairlaw22.SelectorMatchesReference', WHERE WHAT IT READS IS OF BULK AT MOST 1048576: true; the input reads as it did. -/
def selectorMatchesReferenceUptoRow : OpenClaim := { program := "ythpbaaadkhdifaagreatdoor", sum := "322d345ed5c1908ee769f1f43069d0a66a3a0b7f496881d9189cdd8ae480bdf1", func := "onair/onairlaw22.SelectorMatchesReference", spec := "selectorMatchesReference", inPlace := ["internal/abi.NoEscape", "internal/bytealg.MakeNoZero"], unfollowed := true, recurses := true, named := ["onair/timecode.rates", "onair/wire.remainders"], apart := false, laid := [("onair/timecode.rates", laid_onair_timecode_rates), ("onair/wire.remainders", laid_onair_wire_remainders)], narrowed := true }
def SelectorMatchesReferenceUptoSaid : Prop := selectorMatchesReferenceUptoRow.holds Tryz.pinned (OpenSpec.upto selectorMatchesReferenceSpec)

/-- 'onairlaw22.SelectorSafe', WHERE WHAT IT READS IS OF BULK AT MOST 1048576: true; the input reads as it did. -/
def selectorSafeUptoRow : OpenClaim := { program := "ythpbaaadkhdifaagreatdoor", sum := "322d345ed5c1908ee769f1f43069d0a66a3a0b7f496881d9189cdd8ae480bdf1", func := "onair/onairlaw22.SelectorSafe", spec := "selectorSafe", inPlace := ["internal/abi.NoEscape", "internal/bytealg.MakeNoZero"], unfollowed := true, recurses := true, named := ["onair/timecode.rates", "onair/wire.remainders"], apart := false, laid := [("onair/timecode.rates", laid_onair_timecode_rates), ("onair/wire.remainders", laid_onair_wire_remainders)], narrowed := true }
def SelectorSafeUptoSaid : Prop := selectorSafeUptoRow.holds Tryz.pinned (OpenSpec.upto selectorSafeSpec)

/-- 'onairlaw22.SelectorDecodable', WHERE WHAT IT READS IS OF BULK AT MOST 1048576: true; the input reads as it did. -/
def selectorDecodableUptoRow : OpenClaim := { program := "ythpbaaadkhdifaagreatdoor", sum := "322d345ed5c1908ee769f1f43069d0a66a3a0b7f496881d9189cdd8ae480bdf1", func := "onair/onairlaw22.SelectorDecodable", spec := "selectorDecodable", inPlace := ["internal/abi.NoEscape", "internal/bytealg.MakeNoZero"], unfollowed := true, recurses := true, named := ["onair/timecode.rates", "onair/wire.remainders"], apart := false, laid := [("onair/timecode.rates", laid_onair_timecode_rates), ("onair/wire.remainders", laid_onair_wire_remainders)], narrowed := true }
def SelectorDecodableUptoSaid : Prop := selectorDecodableUptoRow.holds Tryz.pinned (OpenSpec.upto selectorDecodableSpec)

/-- 'onairlaw22.SelectorSeamless', WHERE WHAT IT READS IS OF BULK AT MOST 1048576: true; the input reads as it did. -/
def selectorSeamlessUptoRow : OpenClaim := { program := "ythpbaaadkhdifaagreatdoor", sum := "322d345ed5c1908ee769f1f43069d0a66a3a0b7f496881d9189cdd8ae480bdf1", func := "onair/onairlaw22.SelectorSeamless", spec := "selectorSeamless", inPlace := ["internal/abi.NoEscape", "internal/bytealg.MakeNoZero"], unfollowed := true, recurses := true, named := ["onair/timecode.rates", "onair/wire.remainders"], apart := false, laid := [("onair/timecode.rates", laid_onair_timecode_rates), ("onair/wire.remainders", laid_onair_wire_remainders)], narrowed := true }
def SelectorSeamlessUptoSaid : Prop := selectorSeamlessUptoRow.holds Tryz.pinned (OpenSpec.upto selectorSeamlessSpec)

/-- 'onairlaw22.SelectorChannels', WHERE WHAT IT READS IS OF BULK AT MOST 1048576: true; the input reads as it did. -/
def selectorChannelsUptoRow : OpenClaim := { program := "ythpbaaadkhdifaagreatdoor", sum := "322d345ed5c1908ee769f1f43069d0a66a3a0b7f496881d9189cdd8ae480bdf1", func := "onair/onairlaw22.SelectorChannels", spec := "selectorChannels", inPlace := ["internal/abi.NoEscape", "internal/bytealg.MakeNoZero"], unfollowed := true, recurses := true, named := ["onair/timecode.rates", "onair/wire.remainders"], apart := false, laid := [("onair/timecode.rates", laid_onair_timecode_rates), ("onair/wire.remainders", laid_onair_wire_remainders)], narrowed := true }
def SelectorChannelsUptoSaid : Prop := selectorChannelsUptoRow.holds Tryz.pinned (OpenSpec.upto selectorChannelsSpec)

/-- 'onairlaw22.SelectorKeeps', WHERE WHAT IT READS IS OF BULK AT MOST 1048576: true; the input reads as it did. -/
def selectorKeepsUptoRow : OpenClaim := { program := "ythpbaaadkhdifaagreatdoor", sum := "322d345ed5c1908ee769f1f43069d0a66a3a0b7f496881d9189cdd8ae480bdf1", func := "onair/onairlaw22.SelectorKeeps", spec := "selectorKeeps", inPlace := ["internal/abi.NoEscape", "internal/bytealg.MakeNoZero"], unfollowed := true, recurses := true, named := ["onair/timecode.rates", "onair/wire.remainders"], apart := false, laid := [("onair/timecode.rates", laid_onair_timecode_rates), ("onair/wire.remainders", laid_onair_wire_remainders)], narrowed := true }
def SelectorKeepsUptoSaid : Prop := selectorKeepsUptoRow.holds Tryz.pinned (OpenSpec.upto selectorKeepsSpec)

/-- 'onairlaw22.SelectorNew', WHERE WHAT IT READS IS OF BULK AT MOST 1048576: true; the input reads as it did. -/
def selectorNewUptoRow : OpenClaim := { program := "ythpbaaadkhdifaagreatdoor", sum := "322d345ed5c1908ee769f1f43069d0a66a3a0b7f496881d9189cdd8ae480bdf1", func := "onair/onairlaw22.SelectorNew", spec := "selectorNew", inPlace := ["internal/abi.NoEscape", "internal/bytealg.MakeNoZero"], unfollowed := true, recurses := true, named := ["onair/timecode.rates", "onair/wire.remainders"], apart := false, laid := [("onair/timecode.rates", laid_onair_timecode_rates), ("onair/wire.remainders", laid_onair_wire_remainders)], narrowed := true }
def SelectorNewUptoSaid : Prop := selectorNewUptoRow.holds Tryz.pinned (OpenSpec.upto selectorNewSpec)

end Rows
end Go.Proofs.YthpbaaadkhdifaaGreatDoor
