/-
  No cell of these rows narrows 'for every input' (looked for: loops, veiled, ifaces, maps, wideKeys, modest, calm, conditions, laid).
  DERIVED. THE GIVEN ROWS OF THIS SEAT. 5 by the template 'for every input the law returns true; each argument reads behind the call as it read before'; 0 by the template 'total and deterministic' (their statements: YtpaepefpfaoacaaTotals.lean).
  GIVEN WITH THE SEED: the statements are not yours to turn. If you find one false, say at which input.
  Laid BY PROGRAM, IN A SANDBOX (cutbox-rows.mjs): the forced cells as the released guide's own fill.sh prints them over the translation 30dae29c0178c313… (all of the seat's roots in one cut). By AI agents, Wed Nov 11 2026. No macro, syntax, notation, axiom, sorry.
-/
import Derived.Test.YtpaepefpfaoacaaChecked
import GoSem.Claim
import GoSem.ClaimJoined
import GoSem.ClaimMapViews
import Derived.JoinedTies
import Derived.KernelRfl
namespace Go.Proofs.Ytpaepefpfaoacaa
/- THE CELL 'sum', in the pinned program and in every row, IS THE sha256 OF THE DUMP (.gsa) THAT YtpaepefpfaoacaaProg.lean LOADS. Nothing in Lean hashes anything: it is a label: what it is worth is what the hold of that sum in a sandbox is worth. -/
noncomputable def Try.pinned : Pinned := { name := "ytpaepefpfaoacaa", sum := "30dae29c0178c3138d8f7a4091d0275a716ce70d0320d5755ddd26ffe6681c8a", checked := Try.checked }
namespace Rows
def none {H : Type} : Left H := { results := [], args := [] }

/-- 'onairlaw23.SplicerLawful': WHATEVER THE INPUT: true; the input reads as it did. -/
def splicerLawfulSpec : ChangeSpec := { name := "splicerLawful", fn := fun _ => fun
  | [d1, d2, d3, d4] => { results := [.lit (.bool true)], args := [d1, d2, d3, d4] }
  | _ => none }
def splicerLawfulRow : OpenClaim := { program := "ytpaepefpfaoacaa", sum := "30dae29c0178c3138d8f7a4091d0275a716ce70d0320d5755ddd26ffe6681c8a", func := "onair/onairlaw23.SplicerLawful", spec := "splicerLawful", unfollowed := true, recurses := true, apart := false }
def SplicerLawfulSaid : Prop := splicerLawfulRow.holds Try.pinned (OpenSpec.ofChange splicerLawfulSpec)

/-- ITS FALSE NEIGHBOUR: 'it returns false'. Refute it at one input. -/
def splicerLawfulWrong : ChangeSpec := { name := "splicerLawful", fn := fun _ => fun
  | [d1, d2, d3, d4] => { results := [.lit (.bool false)], args := [d1, d2, d3, d4] }
  | _ => none }
def SplicerLawfulWrongFalsely : Prop := splicerLawfulRow.holds Try.pinned (OpenSpec.ofChange splicerLawfulWrong)

/-- 'onairlaw23.SplicerWhole': WHATEVER THE INPUT: true; the input reads as it did. -/
def splicerWholeSpec : ChangeSpec := { name := "splicerWhole", fn := fun _ => fun
  | [d1, d2, d3, d4] => { results := [.lit (.bool true)], args := [d1, d2, d3, d4] }
  | _ => none }
def splicerWholeRow : OpenClaim := { program := "ytpaepefpfaoacaa", sum := "30dae29c0178c3138d8f7a4091d0275a716ce70d0320d5755ddd26ffe6681c8a", func := "onair/onairlaw23.SplicerWhole", spec := "splicerWhole", unfollowed := true, recurses := true, apart := false }
def SplicerWholeSaid : Prop := splicerWholeRow.holds Try.pinned (OpenSpec.ofChange splicerWholeSpec)

/-- ITS FALSE NEIGHBOUR: 'it returns false'. Refute it at one input. -/
def splicerWholeWrong : ChangeSpec := { name := "splicerWhole", fn := fun _ => fun
  | [d1, d2, d3, d4] => { results := [.lit (.bool false)], args := [d1, d2, d3, d4] }
  | _ => none }
def SplicerWholeWrongFalsely : Prop := splicerWholeRow.holds Try.pinned (OpenSpec.ofChange splicerWholeWrong)

/-- 'onairlaw23.SplicerTakes': WHATEVER THE INPUT: true; the input reads as it did. -/
def splicerTakesSpec : ChangeSpec := { name := "splicerTakes", fn := fun _ => fun
  | [d1, d2, d3, d4] => { results := [.lit (.bool true)], args := [d1, d2, d3, d4] }
  | _ => none }
def splicerTakesRow : OpenClaim := { program := "ytpaepefpfaoacaa", sum := "30dae29c0178c3138d8f7a4091d0275a716ce70d0320d5755ddd26ffe6681c8a", func := "onair/onairlaw23.SplicerTakes", spec := "splicerTakes", unfollowed := true, recurses := true, apart := false }
def SplicerTakesSaid : Prop := splicerTakesRow.holds Try.pinned (OpenSpec.ofChange splicerTakesSpec)

/-- ITS FALSE NEIGHBOUR: 'it returns false'. Refute it at one input. -/
def splicerTakesWrong : ChangeSpec := { name := "splicerTakes", fn := fun _ => fun
  | [d1, d2, d3, d4] => { results := [.lit (.bool false)], args := [d1, d2, d3, d4] }
  | _ => none }
def SplicerTakesWrongFalsely : Prop := splicerTakesRow.holds Try.pinned (OpenSpec.ofChange splicerTakesWrong)

/-- 'onairlaw23.SplicerNetwork': WHATEVER THE INPUT: true; the input reads as it did. -/
def splicerNetworkSpec : ChangeSpec := { name := "splicerNetwork", fn := fun _ => fun
  | [d1, d2, d3, d4] => { results := [.lit (.bool true)], args := [d1, d2, d3, d4] }
  | _ => none }
def splicerNetworkRow : OpenClaim := { program := "ytpaepefpfaoacaa", sum := "30dae29c0178c3138d8f7a4091d0275a716ce70d0320d5755ddd26ffe6681c8a", func := "onair/onairlaw23.SplicerNetwork", spec := "splicerNetwork", unfollowed := true, recurses := true, apart := false }
def SplicerNetworkSaid : Prop := splicerNetworkRow.holds Try.pinned (OpenSpec.ofChange splicerNetworkSpec)

/-- ITS FALSE NEIGHBOUR: 'it returns false'. Refute it at one input. -/
def splicerNetworkWrong : ChangeSpec := { name := "splicerNetwork", fn := fun _ => fun
  | [d1, d2, d3, d4] => { results := [.lit (.bool false)], args := [d1, d2, d3, d4] }
  | _ => none }
def SplicerNetworkWrongFalsely : Prop := splicerNetworkRow.holds Try.pinned (OpenSpec.ofChange splicerNetworkWrong)

/-- 'onairlaw23.SplicerRefuses': WHATEVER THE INPUT: true; the input reads as it did. -/
def splicerRefusesSpec : ChangeSpec := { name := "splicerRefuses", fn := fun _ => fun
  | [d1, d2, d3, d4] => { results := [.lit (.bool true)], args := [d1, d2, d3, d4] }
  | _ => none }
def splicerRefusesRow : OpenClaim := { program := "ytpaepefpfaoacaa", sum := "30dae29c0178c3138d8f7a4091d0275a716ce70d0320d5755ddd26ffe6681c8a", func := "onair/onairlaw23.SplicerRefuses", spec := "splicerRefuses", unfollowed := true, recurses := true, apart := false }
def SplicerRefusesSaid : Prop := splicerRefusesRow.holds Try.pinned (OpenSpec.ofChange splicerRefusesSpec)

/-- ITS FALSE NEIGHBOUR: 'it returns false'. Refute it at one input. -/
def splicerRefusesWrong : ChangeSpec := { name := "splicerRefuses", fn := fun _ => fun
  | [d1, d2, d3, d4] => { results := [.lit (.bool false)], args := [d1, d2, d3, d4] }
  | _ => none }
def SplicerRefusesWrongFalsely : Prop := splicerRefusesRow.holds Try.pinned (OpenSpec.ofChange splicerRefusesWrong)

/- THE SECOND FORM. 'bulk': how many values and letters a reading holds, each counted each time it is reached (what is shared counts as often as it is met; a slice's spare places count too). A statement '..UptoSaid' is the law's where the arguments, and the package variables that the reading takes, are together of bulk at most 1048576: NARROWER than '..Said'. Prove '..Said' where nothing that the law and all that it calls make is longer than what came in: it says more and counts as full. Else prove '..UptoSaid'. A law counts once. -/
mutual
def uptoBulk {H : Type} : DataW H → Nat
  | .lit (.string bytes) => bytes.length + 1
  | .lit _ => 1
  | .nil => 1
  | .ptr d => uptoBulk d + 1
  | .slice elems spare => uptoBulkAll elems + uptoBulkAll spare + 1
  | .agg parts => uptoBulkAll parts + 1
  | .iface _ d => uptoBulk d + 1
  | .map entries => uptoBulkEntries entries + 1
  | .held _ => 1
def uptoBulkAll {H : Type} : List (DataW H) → Nat
  | [] => 0
  | d :: r => uptoBulk d + uptoBulkAll r
def uptoBulkEntries {H : Type} : List (Lit × DataW H) → Nat
  | [] => 0
  | x :: r => uptoBulkEntry x + uptoBulkEntries r
def uptoBulkEntry {H : Type} : Lit × DataW H → Nat
  | (.string bytes, d) => bytes.length + uptoBulk d + 1
  | (_, d) => uptoBulk d + 1
 end
def uptoSmall : (H : Type) → List (DataW H) → Bool := fun _ ds => decide (uptoBulkAll ds ≤ 1048576)
def OpenSpec.upto (s : _root_.Go.ChangeSpec) : _root_.Go.OpenSpec := { _root_.Go.OpenSpec.ofChange s with cond := some uptoSmall }

/-- 'onairlaw23.SplicerLawful', WHERE WHAT IT READS IS OF BULK AT MOST 1048576: true; the input reads as it did. -/
def splicerLawfulUptoRow : OpenClaim := { program := "ytpaepefpfaoacaa", sum := "30dae29c0178c3138d8f7a4091d0275a716ce70d0320d5755ddd26ffe6681c8a", func := "onair/onairlaw23.SplicerLawful", spec := "splicerLawful", unfollowed := true, recurses := true, apart := false, narrowed := true }
def SplicerLawfulUptoSaid : Prop := splicerLawfulUptoRow.holds Try.pinned (OpenSpec.upto splicerLawfulSpec)

/-- 'onairlaw23.SplicerWhole', WHERE WHAT IT READS IS OF BULK AT MOST 1048576: true; the input reads as it did. -/
def splicerWholeUptoRow : OpenClaim := { program := "ytpaepefpfaoacaa", sum := "30dae29c0178c3138d8f7a4091d0275a716ce70d0320d5755ddd26ffe6681c8a", func := "onair/onairlaw23.SplicerWhole", spec := "splicerWhole", unfollowed := true, recurses := true, apart := false, narrowed := true }
def SplicerWholeUptoSaid : Prop := splicerWholeUptoRow.holds Try.pinned (OpenSpec.upto splicerWholeSpec)

/-- 'onairlaw23.SplicerTakes', WHERE WHAT IT READS IS OF BULK AT MOST 1048576: true; the input reads as it did. -/
def splicerTakesUptoRow : OpenClaim := { program := "ytpaepefpfaoacaa", sum := "30dae29c0178c3138d8f7a4091d0275a716ce70d0320d5755ddd26ffe6681c8a", func := "onair/onairlaw23.SplicerTakes", spec := "splicerTakes", unfollowed := true, recurses := true, apart := false, narrowed := true }
def SplicerTakesUptoSaid : Prop := splicerTakesUptoRow.holds Try.pinned (OpenSpec.upto splicerTakesSpec)

/-- 'onairlaw23.SplicerNetwork', WHERE WHAT IT READS IS OF BULK AT MOST 1048576: true; the input reads as it did. -/
def splicerNetworkUptoRow : OpenClaim := { program := "ytpaepefpfaoacaa", sum := "30dae29c0178c3138d8f7a4091d0275a716ce70d0320d5755ddd26ffe6681c8a", func := "onair/onairlaw23.SplicerNetwork", spec := "splicerNetwork", unfollowed := true, recurses := true, apart := false, narrowed := true }
def SplicerNetworkUptoSaid : Prop := splicerNetworkUptoRow.holds Try.pinned (OpenSpec.upto splicerNetworkSpec)

/-- 'onairlaw23.SplicerRefuses', WHERE WHAT IT READS IS OF BULK AT MOST 1048576: true; the input reads as it did. -/
def splicerRefusesUptoRow : OpenClaim := { program := "ytpaepefpfaoacaa", sum := "30dae29c0178c3138d8f7a4091d0275a716ce70d0320d5755ddd26ffe6681c8a", func := "onair/onairlaw23.SplicerRefuses", spec := "splicerRefuses", unfollowed := true, recurses := true, apart := false, narrowed := true }
def SplicerRefusesUptoSaid : Prop := splicerRefusesUptoRow.holds Try.pinned (OpenSpec.upto splicerRefusesSpec)

end Rows
end Go.Proofs.Ytpaepefpfaoacaa
