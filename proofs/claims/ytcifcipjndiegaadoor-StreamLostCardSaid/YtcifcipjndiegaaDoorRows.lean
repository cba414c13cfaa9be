/-
  NARROWER THAN 'FOR EVERY INPUT', by the rows' own cells (each row's printed sentence says how): StreamBlockMatchesReference: laid · StreamDecoderMatchesReference: laid · StreamShows: laid · StreamLost: laid · StreamJoin: laid.
  DERIVED. THE GIVEN ROWS OF THIS SEAT. 5 by the template 'for every input the law returns true; each argument reads behind the call as it read before'; 0 by the template 'total and deterministic' (their statements: YtcifcipjndiegaaDoorTotals.lean).
  GIVEN WITH THE SEED: the statements are not yours to turn. If you find one false, say at which input.
  Laid BY PROGRAM, IN A SANDBOX (cutbox-rows.mjs): the forced cells as the released guide's own fill.sh prints them over the translation 5831612beb8cba3f… (all of the seat's roots in one cut). By AI agents, Wed Nov 11 2026. No macro, syntax, notation, axiom, sorry.
-/
import Derived.Test.YtcifcipjndiegaaDoorChecked
import GoSem.PinnedTables
import GoSem.Claim
import GoSem.ClaimJoined
import GoSem.ClaimMapViews
import Derived.JoinedTies
import Derived.KernelRfl
namespace Go.Proofs.YtcifcipjndiegaaDoor
/- THE CELL 'sum', in the pinned program and in every row, IS THE sha256 OF THE DUMP (.gsa) THAT YtcifcipjndiegaaDoorProg.lean LOADS. Nothing in Lean hashes anything: it is a label: what it is worth is what the hold of that sum in a sandbox is worth. -/
noncomputable def Tryd.pinned : Pinned := { name := "ytcifcipjndiegaadoor", sum := "5831612beb8cba3f1b5f80b854dcc6367b94039bfa529cb7619a74ba79d65046", checked := Tryd.checked }
namespace Rows
def none {H : Type} : Left H := { results := [], args := [] }

/- WHAT THE LISTED PACKAGE-LEVEL VARIABLES READ AS WHEN THE CALL BEGINS. Each datum BY PROGRAM (the guide's laid-datum.mjs) off the statement by which the dump's own 'gosem.cut.vars' lays the variable. In a bare row this is a premise. The card (YtcifcipjndiegaaDoorCards.lean) ties it to the program's text. -/
def laid_unicode_utf8_acceptRanges {H : Type} : DataW H := .agg [.agg [.lit (.int .u8 128), .lit (.int .u8 191)], .agg [.lit (.int .u8 160), .lit (.int .u8 191)], .agg [.lit (.int .u8 128), .lit (.int .u8 159)], .agg [.lit (.int .u8 144), .lit (.int .u8 191)], .agg [.lit (.int .u8 128), .lit (.int .u8 143)], .agg [.lit (.int .u8 0), .lit (.int .u8 0)], .agg [.lit (.int .u8 0), .lit (.int .u8 0)], .agg [.lit (.int .u8 0), .lit (.int .u8 0)], .agg [.lit (.int .u8 0), .lit (.int .u8 0)], .agg [.lit (.int .u8 0), .lit (.int .u8 0)], .agg [.lit (.int .u8 0), .lit (.int .u8 0)], .agg [.lit (.int .u8 0), .lit (.int .u8 0)], .agg [.lit (.int .u8 0), .lit (.int .u8 0)], .agg [.lit (.int .u8 0), .lit (.int .u8 0)], .agg [.lit (.int .u8 0), .lit (.int .u8 0)], .agg [.lit (.int .u8 0), .lit (.int .u8 0)]]
def laid_onair_wire_remainders {H : Type} : DataW H := .agg [.lit (.int .u32 0), .lit (.int .u32 274646895), .lit (.int .u32 549293790), .lit (.int .u32 820201905), .lit (.int .u32 1098587580), .lit (.int .u32 1361435347), .lit (.int .u32 1640403810), .lit (.int .u32 1905808397), .lit (.int .u32 2197175160), .lit (.int .u32 2460548119), .lit (.int .u32 2722870694), .lit (.int .u32 2987750089), .lit (.int .u32 3280807620), .lit (.int .u32 3553878443), .lit (.int .u32 3811616794), .lit (.int .u32 4084100981)]
/-- One of Go's own tables, pinned by name: the form's constant. -/
def laid_unicode_utf8_first : DataW Unit := Go.Pinned.utf8First

/-- 'onairlaw16.StreamBlockMatchesReference': WHATEVER THE INPUT: true; the input reads as it did. -/
def streamBlockMatchesReferenceSpec : ChangeSpec := { name := "streamBlockMatchesReference", fn := fun _ => fun
  | [d] => { results := [.lit (.bool true)], args := [d] }
  | _ => none }
def streamBlockMatchesReferenceRow : OpenClaim := { program := "ytcifcipjndiegaadoor", sum := "5831612beb8cba3f1b5f80b854dcc6367b94039bfa529cb7619a74ba79d65046", func := "onair/onairlaw16.StreamBlockMatchesReference", spec := "streamBlockMatchesReference", inPlace := ["internal/abi.NoEscape", "internal/bytealg.MakeNoZero", "internal/bytealg.CountString", "internal/bytealg.IndexByteString", "internal/bytealg.IndexString"], unfollowed := true, recurses := true, named := ["onair/wire.remainders", "unicode/utf8.first", "unicode/utf8.acceptRanges", "internal/bytealg.MaxLen"], apart := false, laid := [("unicode/utf8.acceptRanges", laid_unicode_utf8_acceptRanges), ("onair/wire.remainders", laid_onair_wire_remainders), ("unicode/utf8.first", laid_unicode_utf8_first)] }
def StreamBlockMatchesReferenceSaid : Prop := streamBlockMatchesReferenceRow.holds Tryd.pinned (OpenSpec.ofChange streamBlockMatchesReferenceSpec)

/-- ITS FALSE NEIGHBOUR: 'it returns false'. Refute it at one input. -/
def streamBlockMatchesReferenceWrong : ChangeSpec := { name := "streamBlockMatchesReference", fn := fun _ => fun
  | [d] => { results := [.lit (.bool false)], args := [d] }
  | _ => none }
def StreamBlockMatchesReferenceWrongFalsely : Prop := streamBlockMatchesReferenceRow.holds Tryd.pinned (OpenSpec.ofChange streamBlockMatchesReferenceWrong)

/-- 'onairlaw16.StreamDecoderMatchesReference': WHATEVER THE INPUT: true; the input reads as it did. -/
def streamDecoderMatchesReferenceSpec : ChangeSpec := { name := "streamDecoderMatchesReference", fn := fun _ => fun
  | [d1, d2, d3] => { results := [.lit (.bool true)], args := [d1, d2, d3] }
  | _ => none }
def streamDecoderMatchesReferenceRow : OpenClaim := { program := "ytcifcipjndiegaadoor", sum := "5831612beb8cba3f1b5f80b854dcc6367b94039bfa529cb7619a74ba79d65046", func := "onair/onairlaw16.StreamDecoderMatchesReference", spec := "streamDecoderMatchesReference", inPlace := ["internal/abi.NoEscape", "internal/bytealg.MakeNoZero", "internal/bytealg.CountString", "internal/bytealg.IndexByteString", "internal/bytealg.IndexString"], unfollowed := true, recurses := true, named := ["onair/wire.remainders", "unicode/utf8.first", "unicode/utf8.acceptRanges", "internal/bytealg.MaxLen"], apart := false, laid := [("unicode/utf8.acceptRanges", laid_unicode_utf8_acceptRanges), ("onair/wire.remainders", laid_onair_wire_remainders), ("unicode/utf8.first", laid_unicode_utf8_first)] }
def StreamDecoderMatchesReferenceSaid : Prop := streamDecoderMatchesReferenceRow.holds Tryd.pinned (OpenSpec.ofChange streamDecoderMatchesReferenceSpec)

/-- ITS FALSE NEIGHBOUR: 'it returns false'. Refute it at one input. -/
def streamDecoderMatchesReferenceWrong : ChangeSpec := { name := "streamDecoderMatchesReference", fn := fun _ => fun
  | [d1, d2, d3] => { results := [.lit (.bool false)], args := [d1, d2, d3] }
  | _ => none }
def StreamDecoderMatchesReferenceWrongFalsely : Prop := streamDecoderMatchesReferenceRow.holds Tryd.pinned (OpenSpec.ofChange streamDecoderMatchesReferenceWrong)

/-- 'onairlaw16.StreamShows': WHATEVER THE INPUT: true; the input reads as it did. -/
def streamShowsSpec : ChangeSpec := { name := "streamShows", fn := fun _ => fun
  | [d1, d2, d3, d4] => { results := [.lit (.bool true)], args := [d1, d2, d3, d4] }
  | _ => none }
def streamShowsRow : OpenClaim := { program := "ytcifcipjndiegaadoor", sum := "5831612beb8cba3f1b5f80b854dcc6367b94039bfa529cb7619a74ba79d65046", func := "onair/onairlaw16.StreamShows", spec := "streamShows", inPlace := ["internal/abi.NoEscape", "internal/bytealg.MakeNoZero", "internal/bytealg.CountString", "internal/bytealg.IndexByteString", "internal/bytealg.IndexString"], unfollowed := true, recurses := true, named := ["onair/wire.remainders", "unicode/utf8.first", "unicode/utf8.acceptRanges", "internal/bytealg.MaxLen"], apart := false, laid := [("unicode/utf8.acceptRanges", laid_unicode_utf8_acceptRanges), ("onair/wire.remainders", laid_onair_wire_remainders), ("unicode/utf8.first", laid_unicode_utf8_first)] }
def StreamShowsSaid : Prop := streamShowsRow.holds Tryd.pinned (OpenSpec.ofChange streamShowsSpec)

/-- ITS FALSE NEIGHBOUR: 'it returns false'. Refute it at one input. -/
def streamShowsWrong : ChangeSpec := { name := "streamShows", fn := fun _ => fun
  | [d1, d2, d3, d4] => { results := [.lit (.bool false)], args := [d1, d2, d3, d4] }
  | _ => none }
def StreamShowsWrongFalsely : Prop := streamShowsRow.holds Tryd.pinned (OpenSpec.ofChange streamShowsWrong)

/-- 'onairlaw16.StreamLost': WHATEVER THE INPUT: true; the input reads as it did. -/
def streamLostSpec : ChangeSpec := { name := "streamLost", fn := fun _ => fun
  | [d1, d2, d3] => { results := [.lit (.bool true)], args := [d1, d2, d3] }
  | _ => none }
def streamLostRow : OpenClaim := { program := "ytcifcipjndiegaadoor", sum := "5831612beb8cba3f1b5f80b854dcc6367b94039bfa529cb7619a74ba79d65046", func := "onair/onairlaw16.StreamLost", spec := "streamLost", inPlace := ["internal/abi.NoEscape", "internal/bytealg.MakeNoZero", "internal/bytealg.CountString", "internal/bytealg.IndexByteString", "internal/bytealg.IndexString"], unfollowed := true, recurses := true, named := ["onair/wire.remainders", "unicode/utf8.first", "unicode/utf8.acceptRanges", "internal/bytealg.MaxLen"], apart := false, laid := [("unicode/utf8.acceptRanges", laid_unicode_utf8_acceptRanges), ("onair/wire.remainders", laid_onair_wire_remainders), ("unicode/utf8.first", laid_unicode_utf8_first)] }
def StreamLostSaid : Prop := streamLostRow.holds Tryd.pinned (OpenSpec.ofChange streamLostSpec)

/-- ITS FALSE NEIGHBOUR: 'it returns false'. Refute it at one input. -/
def streamLostWrong : ChangeSpec := { name := "streamLost", fn := fun _ => fun
  | [d1, d2, d3] => { results := [.lit (.bool false)], args := [d1, d2, d3] }
  | _ => none }
def StreamLostWrongFalsely : Prop := streamLostRow.holds Tryd.pinned (OpenSpec.ofChange streamLostWrong)

/-- 'onairlaw16.StreamJoin': WHATEVER THE INPUT: true; the input reads as it did. -/
def streamJoinSpec : ChangeSpec := { name := "streamJoin", fn := fun _ => fun
  | [d1, d2, d3] => { results := [.lit (.bool true)], args := [d1, d2, d3] }
  | _ => none }
def streamJoinRow : OpenClaim := { program := "ytcifcipjndiegaadoor", sum := "5831612beb8cba3f1b5f80b854dcc6367b94039bfa529cb7619a74ba79d65046", func := "onair/onairlaw16.StreamJoin", spec := "streamJoin", inPlace := ["internal/abi.NoEscape", "internal/bytealg.MakeNoZero", "internal/bytealg.CountString", "internal/bytealg.IndexByteString", "internal/bytealg.IndexString"], unfollowed := true, recurses := true, named := ["onair/wire.remainders", "unicode/utf8.first", "unicode/utf8.acceptRanges", "internal/bytealg.MaxLen"], apart := false, laid := [("unicode/utf8.acceptRanges", laid_unicode_utf8_acceptRanges), ("onair/wire.remainders", laid_onair_wire_remainders), ("unicode/utf8.first", laid_unicode_utf8_first)] }
def StreamJoinSaid : Prop := streamJoinRow.holds Tryd.pinned (OpenSpec.ofChange streamJoinSpec)

/-- ITS FALSE NEIGHBOUR: 'it returns false'. Refute it at one input. -/
def streamJoinWrong : ChangeSpec := { name := "streamJoin", fn := fun _ => fun
  | [d1, d2, d3] => { results := [.lit (.bool false)], args := [d1, d2, d3] }
  | _ => none }
def StreamJoinWrongFalsely : Prop := streamJoinRow.holds Tryd.pinned (OpenSpec.ofChange streamJoinWrong)

/- THE SECOND FORM. 'bulk': how many values and letters a reading holds, each counted each time it is reached (what is shared counts as often as it is met; a slice's spare places count too). A statement '..UptoSaid' is the law's where the arguments, and the package variables that the reading takes, are together of bulk at most 1048576: NARROWER than '..Said'. Prove '..Said' where nothing that the law and all that it calls make is longer than what came in: it says more and counts as full. Else prove '..UptoSaid'. A law counts once. -/
mutual
def uptoBulk {H : Type} : DataW H → Nat
  | .lit (.string bytes) => bytes.length + 1
  | .lit _ => 1
  | .nil => 1
  | .ptr d => uptoBulk d + 1
  | .slice elems spare => uptoBulkAll elems + uptoBulkAll spare + 1
  | .agg parts => uptoBulkAll parts + 1
  | .iface _ d => uptoBulk d + 1
  | .map entries => uptoBulkEntries entries + 1
  | .held _ => 1
def uptoBulkAll {H : Type} : List (DataW H) → Nat
  | [] => 0
  | d :: r => uptoBulk d + uptoBulkAll r
def uptoBulkEntries {H : Type} : List (Lit × DataW H) → Nat
  | [] => 0
  | x :: r => uptoBulkEntry x + uptoBulkEntries r
def uptoBulkEntry {H : Type} : Lit × DataW H → Nat
  | (.string bytes, d) => bytes.length + uptoBulk d + 1
  | (_, d) => uptoBulk d + 1
 end
def uptoSmall : (H : Type) → List (DataW H) → Bool := fun _ ds => decide (uptoBulkAll ds ≤ 1048576)
def OpenSpec.upto (s : _root_.Go.ChangeSpec) : _root_.Go.OpenSpec := { _root_.Go.OpenSpec.ofChange s with cond := some uptoSmall }

/-- 'onairlaw16.StreamBlockMatchesReference', WHERE WHAT IT READS IS OF BULK AT MOST 1048576: true; the input reads as it did. -/
def streamBlockMatchesReferenceUptoRow : OpenClaim := { program := "ytcifcipjndiegaadoor", sum := "5831612beb8cba3f1b5f80b854dcc6367b94039bfa529cb7619a74ba79d65046", func := "onair/onairlaw16.StreamBlockMatchesReference", spec := "streamBlockMatchesReference", inPlace := ["internal/abi.NoEscape", "internal/bytealg.MakeNoZero", "internal/bytealg.CountString", "internal/bytealg.IndexByteString", "internal/bytealg.IndexString"], unfollowed := true, recurses := true, named := ["onair/wire.remainders", "unicode/utf8.first", "unicode/utf8.acceptRanges", "internal/bytealg.MaxLen"], apart := false, laid := [("unicode/utf8.acceptRanges", laid_unicode_utf8_acceptRanges), ("onair/wire.remainders", laid_onair_wire_remainders), ("unicode/utf8.first", laid_unicode_utf8_first)], narrowed := true }
def StreamBlockMatchesReferenceUptoSaid : Prop := streamBlockMatchesReferenceUptoRow.holds Tryd.pinned (OpenSpec.upto streamBlockMatchesReferenceSpec)

/-- 'onairlaw16.StreamDecoderMatchesReference', WHERE WHAT IT READS IS OF BULK AT MOST 1048576: true; the input reads as it did. -/
def streamDecoderMatchesReferenceUptoRow : OpenClaim := { program := "ytcifcipjndiegaadoor", sum := "5831612beb8cba3f1b5f80b854dcc6367b94039bfa529cb7619a74ba79d65046", func := "onair/onairlaw16.StreamDecoderMatchesReference", spec := "streamDecoderMatchesReference", inPlace := ["internal/abi.NoEscape", "internal/bytealg.MakeNoZero", "internal/bytealg.CountString", "internal/bytealg.IndexByteString", "internal/bytealg.IndexString"], unfollowed := true, recurses := true, named := ["onair/wire.remainders", "unicode/utf8.first", "unicode/utf8.acceptRanges", "internal/bytealg.MaxLen"], apart := false, laid := [("unicode/utf8.acceptRanges", laid_unicode_utf8_acceptRanges), ("onair/wire.remainders", laid_onair_wire_remainders), ("unicode/utf8.first", laid_unicode_utf8_first)], narrowed := true }
def StreamDecoderMatchesReferenceUptoSaid : Prop := streamDecoderMatchesReferenceUptoRow.holds Tryd.pinned (OpenSpec.upto streamDecoderMatchesReferenceSpec)

/-- 'onairlaw16.StreamShows', WHERE WHAT IT READS IS OF BULK AT MOST 1048576: true; the input reads as it did. -/
def streamShowsUptoRow : OpenClaim := { program := "ytcifcipjndiegaadoor", sum := "5831612beb8cba3f1b5f80b854dcc6367b94039bfa529cb7619a74ba79d65046", func := "onair/onairlaw16.StreamShows", spec := "streamShows", inPlace := ["internal/abi.NoEscape", "internal/bytealg.MakeNoZero", "internal/bytealg.CountString", "internal/bytealg.IndexByteString", "internal/bytealg.IndexString"], unfollowed := true, recurses := true, named := ["onair/wire.remainders", "unicode/utf8.first", "unicode/utf8.acceptRanges", "internal/bytealg.MaxLen"], apart := false, laid := [("unicode/utf8.acceptRanges", laid_unicode_utf8_acceptRanges), ("onair/wire.remainders", laid_onair_wire_remainders), ("unicode/utf8.first", laid_unicode_utf8_first)], narrowed := true }
def StreamShowsUptoSaid : Prop := streamShowsUptoRow.holds Tryd.pinned (OpenSpec.upto streamShowsSpec)

/-- 'onairlaw16.StreamLost', WHERE WHAT IT READS IS OF BULK AT MOST 1048576: true; the input reads as it did. -/
def streamLostUptoRow : OpenClaim := { program := "ytcifcipjndiegaadoor", sum := "5831612beb8cba3f1b5f80b854dcc6367b94039bfa529cb7619a74ba79d65046", func := "onair/onairlaw16.StreamLost", spec := "streamLost", inPlace := ["internal/abi.NoEscape", "internal/bytealg.MakeNoZero", "internal/bytealg.CountString", "internal/bytealg.IndexByteString", "internal/bytealg.IndexString"], unfollowed := true, recurses := true, named := ["onair/wire.remainders", "unicode/utf8.first", "unicode/utf8.acceptRanges", "internal/bytealg.MaxLen"], apart := false, laid := [("unicode/utf8.acceptRanges", laid_unicode_utf8_acceptRanges), ("onair/wire.remainders", laid_onair_wire_remainders), ("unicode/utf8.first", laid_unicode_utf8_first)], narrowed := true }
def StreamLostUptoSaid : Prop := streamLostUptoRow.holds Tryd.pinned (OpenSpec.upto streamLostSpec)

/-- 'onairlaw16.StreamJoin', WHERE WHAT IT READS IS OF BULK AT MOST 1048576: true; the input reads as it did. -/
def streamJoinUptoRow : OpenClaim := { program := "ytcifcipjndiegaadoor", sum := "5831612beb8cba3f1b5f80b854dcc6367b94039bfa529cb7619a74ba79d65046", func := "onair/onairlaw16.StreamJoin", spec := "streamJoin", inPlace := ["internal/abi.NoEscape", "internal/bytealg.MakeNoZero", "internal/bytealg.CountString", "internal/bytealg.IndexByteString", "internal/bytealg.IndexString"], unfollowed := true, recurses := true, named := ["onair/wire.remainders", "unicode/utf8.first", "unicode/utf8.acceptRanges", "internal/bytealg.MaxLen"], apart := false, laid := [("unicode/utf8.acceptRanges", laid_unicode_utf8_acceptRanges), ("onair/wire.remainders", laid_onair_wire_remainders), ("unicode/utf8.first", laid_unicode_utf8_first)], narrowed := true }
def StreamJoinUptoSaid : Prop := streamJoinUptoRow.holds Tryd.pinned (OpenSpec.upto streamJoinSpec)

end Rows
end Go.Proofs.YtcifcipjndiegaaDoor
