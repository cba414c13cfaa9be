/-
  DERIVED. GIVEN WITH THE SEED: THE CARDS: each row of YteeillphhiaopaaGreatDoorRows.lean that lists a variable, with what it lists TIED to the program's text (the seventh form; the later family's looks); each row that meets fmt, with fmt's text TOLD by the authors' own Lean function (tested against real Go, not proved from fmt's source: count such statements apart). THE CARD IS WHAT COUNTS. Prove the row's statement (the work); the ties are given (YteeillphhiaopaaGreatDoorTie.lean); close each card by the builder's one call (the guide's Derived/Test/ToyasCard.lean, 'card_holds'). Laid BY PROGRAM, IN A SANDBOX (cutbox-door.mjs). By AI agents, Wed Nov 11 2026. No macro, syntax, notation, axiom, sorry.
-/
import Derived.Test.YteeillphhiaopaaGreatDoorRows
import GoSem.ClaimSeven
namespace Go.Proofs.YteeillphhiaopaaGreatDoor
namespace Rows

/-- THE TIED CARD OF 'onairlaw08.PlanValidMatchesReference'. -/
def planValidMatchesReferenceCard : Claim7 := { stood := { row := planValidMatchesReferenceRow, standIns := [], harness := (true, "0920b850dcc38d1adf8ac1a12a8052cedc72f0c93030e4301d2dcc84e7d73c35"), looks := true }, kinds := [], alts := [], laidByText := true, laidKinds := [.data, .sentinel, .sentinel], laidTests := true, laidLooks := .later }
def PlanValidMatchesReferenceCardSaid : Prop := Claim7.holds Tryz.pinned (.plain (OpenSpec.ofChange planValidMatchesReferenceSpec)) planValidMatchesReferenceCard

/-- THE TIED CARD OF 'onairlaw08.PlanLookupsMatchReference'. -/
def planLookupsMatchReferenceCard : Claim7 := { stood := { row := planLookupsMatchReferenceRow, standIns := [], harness := (true, "0920b850dcc38d1adf8ac1a12a8052cedc72f0c93030e4301d2dcc84e7d73c35"), looks := true }, kinds := [], alts := [], laidByText := true, laidKinds := [.data, .sentinel, .sentinel], laidTests := true, laidLooks := .later }
def PlanLookupsMatchReferenceCardSaid : Prop := Claim7.holds Tryz.pinned (.plain (OpenSpec.ofChange planLookupsMatchReferenceSpec)) planLookupsMatchReferenceCard

/-- THE TIED CARD OF 'onairlaw08.PlanEncodeMatchesReference'. -/
def planEncodeMatchesReferenceCard : Claim7 := { stood := { row := planEncodeMatchesReferenceRow, standIns := [], harness := (true, "0920b850dcc38d1adf8ac1a12a8052cedc72f0c93030e4301d2dcc84e7d73c35"), looks := true }, kinds := [], alts := [], laidByText := true, laidKinds := [.data, .sentinel, .sentinel], laidTests := true, laidLooks := .later }
def PlanEncodeMatchesReferenceCardSaid : Prop := Claim7.holds Tryz.pinned (.plain (OpenSpec.ofChange planEncodeMatchesReferenceSpec)) planEncodeMatchesReferenceCard

/-- THE TIED CARD OF 'onairlaw08.PlanDecodeMatchesReference'. -/
def planDecodeMatchesReferenceCard : Claim7 := { stood := { row := planDecodeMatchesReferenceRow, standIns := [], harness := (true, "0920b850dcc38d1adf8ac1a12a8052cedc72f0c93030e4301d2dcc84e7d73c35"), looks := true }, kinds := [], alts := [], laidByText := true, laidKinds := [.data, .sentinel, .sentinel], laidTests := true, laidLooks := .later }
def PlanDecodeMatchesReferenceCardSaid : Prop := Claim7.holds Tryz.pinned (.plain (OpenSpec.ofChange planDecodeMatchesReferenceSpec)) planDecodeMatchesReferenceCard

/-- THE TIED CARD OF 'onairlaw08.PlanRoundTrip'. -/
def planRoundTripCard : Claim7 := { stood := { row := planRoundTripRow, standIns := [], harness := (true, "0920b850dcc38d1adf8ac1a12a8052cedc72f0c93030e4301d2dcc84e7d73c35"), looks := true }, kinds := [], alts := [], laidByText := true, laidKinds := [.data, .sentinel, .sentinel], laidTests := true, laidLooks := .later }
def PlanRoundTripCardSaid : Prop := Claim7.holds Tryz.pinned (.plain (OpenSpec.ofChange planRoundTripSpec)) planRoundTripCard

/-- THE TIED CARD OF 'onairlaw08.PlanDecodedAgain'. -/
def planDecodedAgainCard : Claim7 := { stood := { row := planDecodedAgainRow, standIns := [], harness := (true, "0920b850dcc38d1adf8ac1a12a8052cedc72f0c93030e4301d2dcc84e7d73c35"), looks := true }, kinds := [], alts := [], laidByText := true, laidKinds := [.data, .sentinel, .sentinel], laidTests := true, laidLooks := .later }
def PlanDecodedAgainCardSaid : Prop := Claim7.holds Tryz.pinned (.plain (OpenSpec.ofChange planDecodedAgainSpec)) planDecodedAgainCard

/-- THE TIED CARD OF 'onairlaw08.PlanPrefixes'. -/
def planPrefixesCard : Claim7 := { stood := { row := planPrefixesRow, standIns := [], harness := (true, "0920b850dcc38d1adf8ac1a12a8052cedc72f0c93030e4301d2dcc84e7d73c35"), looks := true }, kinds := [], alts := [], laidByText := true, laidKinds := [.data, .sentinel, .sentinel], laidTests := true, laidLooks := .later }
def PlanPrefixesCardSaid : Prop := Claim7.holds Tryz.pinned (.plain (OpenSpec.ofChange planPrefixesSpec)) planPrefixesCard

/-- THE TIED CARD OF 'onairlaw08.PlanParts'. -/
def planPartsCard : Claim7 := { stood := { row := planPartsRow, standIns := [], harness := (true, "0920b850dcc38d1adf8ac1a12a8052cedc72f0c93030e4301d2dcc84e7d73c35"), looks := true }, kinds := [], alts := [], laidByText := true, laidKinds := [.data, .sentinel, .sentinel], laidTests := true, laidLooks := .later }
def PlanPartsCardSaid : Prop := Claim7.holds Tryz.pinned (.plain (OpenSpec.ofChange planPartsSpec)) planPartsCard

/-- THE TIED CARD OF 'onairlaw08.PlanFinds'. -/
def planFindsCard : Claim7 := { stood := { row := planFindsRow, standIns := [], harness := (true, "0920b850dcc38d1adf8ac1a12a8052cedc72f0c93030e4301d2dcc84e7d73c35"), looks := true }, kinds := [], alts := [], laidByText := true, laidKinds := [.data, .sentinel, .sentinel], laidTests := true, laidLooks := .later }
def PlanFindsCardSaid : Prop := Claim7.holds Tryz.pinned (.plain (OpenSpec.ofChange planFindsSpec)) planFindsCard

/-- THE SECOND FORM's CARD OF 'onairlaw08.PlanValidMatchesReference'. -/
def planValidMatchesReferenceUptoCard : Claim7 := { stood := { row := planValidMatchesReferenceUptoRow, standIns := [], harness := (true, "0920b850dcc38d1adf8ac1a12a8052cedc72f0c93030e4301d2dcc84e7d73c35"), looks := true }, kinds := [], alts := [], laidByText := true, laidKinds := [.data, .sentinel, .sentinel], laidTests := true, laidLooks := .later }
def PlanValidMatchesReferenceUptoCardSaid : Prop := Claim7.holds Tryz.pinned (.plain (OpenSpec.upto planValidMatchesReferenceSpec)) planValidMatchesReferenceUptoCard

/-- THE SECOND FORM's CARD OF 'onairlaw08.PlanLookupsMatchReference'. -/
def planLookupsMatchReferenceUptoCard : Claim7 := { stood := { row := planLookupsMatchReferenceUptoRow, standIns := [], harness := (true, "0920b850dcc38d1adf8ac1a12a8052cedc72f0c93030e4301d2dcc84e7d73c35"), looks := true }, kinds := [], alts := [], laidByText := true, laidKinds := [.data, .sentinel, .sentinel], laidTests := true, laidLooks := .later }
def PlanLookupsMatchReferenceUptoCardSaid : Prop := Claim7.holds Tryz.pinned (.plain (OpenSpec.upto planLookupsMatchReferenceSpec)) planLookupsMatchReferenceUptoCard

/-- THE SECOND FORM's CARD OF 'onairlaw08.PlanEncodeMatchesReference'. -/
def planEncodeMatchesReferenceUptoCard : Claim7 := { stood := { row := planEncodeMatchesReferenceUptoRow, standIns := [], harness := (true, "0920b850dcc38d1adf8ac1a12a8052cedc72f0c93030e4301d2dcc84e7d73c35"), looks := true }, kinds := [], alts := [], laidByText := true, laidKinds := [.data, .sentinel, .sentinel], laidTests := true, laidLooks := .later }
def PlanEncodeMatchesReferenceUptoCardSaid : Prop := Claim7.holds Tryz.pinned (.plain (OpenSpec.upto planEncodeMatchesReferenceSpec)) planEncodeMatchesReferenceUptoCard

/-- THE SECOND FORM's CARD OF 'onairlaw08.PlanDecodeMatchesReference'. -/
def planDecodeMatchesReferenceUptoCard : Claim7 := { stood := { row := planDecodeMatchesReferenceUptoRow, standIns := [], harness := (true, "0920b850dcc38d1adf8ac1a12a8052cedc72f0c93030e4301d2dcc84e7d73c35"), looks := true }, kinds := [], alts := [], laidByText := true, laidKinds := [.data, .sentinel, .sentinel], laidTests := true, laidLooks := .later }
def PlanDecodeMatchesReferenceUptoCardSaid : Prop := Claim7.holds Tryz.pinned (.plain (OpenSpec.upto planDecodeMatchesReferenceSpec)) planDecodeMatchesReferenceUptoCard

/-- THE SECOND FORM's CARD OF 'onairlaw08.PlanRoundTrip'. -/
def planRoundTripUptoCard : Claim7 := { stood := { row := planRoundTripUptoRow, standIns := [], harness := (true, "0920b850dcc38d1adf8ac1a12a8052cedc72f0c93030e4301d2dcc84e7d73c35"), looks := true }, kinds := [], alts := [], laidByText := true, laidKinds := [.data, .sentinel, .sentinel], laidTests := true, laidLooks := .later }
def PlanRoundTripUptoCardSaid : Prop := Claim7.holds Tryz.pinned (.plain (OpenSpec.upto planRoundTripSpec)) planRoundTripUptoCard

/-- THE SECOND FORM's CARD OF 'onairlaw08.PlanDecodedAgain'. -/
def planDecodedAgainUptoCard : Claim7 := { stood := { row := planDecodedAgainUptoRow, standIns := [], harness := (true, "0920b850dcc38d1adf8ac1a12a8052cedc72f0c93030e4301d2dcc84e7d73c35"), looks := true }, kinds := [], alts := [], laidByText := true, laidKinds := [.data, .sentinel, .sentinel], laidTests := true, laidLooks := .later }
def PlanDecodedAgainUptoCardSaid : Prop := Claim7.holds Tryz.pinned (.plain (OpenSpec.upto planDecodedAgainSpec)) planDecodedAgainUptoCard

/-- THE SECOND FORM's CARD OF 'onairlaw08.PlanPrefixes'. -/
def planPrefixesUptoCard : Claim7 := { stood := { row := planPrefixesUptoRow, standIns := [], harness := (true, "0920b850dcc38d1adf8ac1a12a8052cedc72f0c93030e4301d2dcc84e7d73c35"), looks := true }, kinds := [], alts := [], laidByText := true, laidKinds := [.data, .sentinel, .sentinel], laidTests := true, laidLooks := .later }
def PlanPrefixesUptoCardSaid : Prop := Claim7.holds Tryz.pinned (.plain (OpenSpec.upto planPrefixesSpec)) planPrefixesUptoCard

/-- THE SECOND FORM's CARD OF 'onairlaw08.PlanParts'. -/
def planPartsUptoCard : Claim7 := { stood := { row := planPartsUptoRow, standIns := [], harness := (true, "0920b850dcc38d1adf8ac1a12a8052cedc72f0c93030e4301d2dcc84e7d73c35"), looks := true }, kinds := [], alts := [], laidByText := true, laidKinds := [.data, .sentinel, .sentinel], laidTests := true, laidLooks := .later }
def PlanPartsUptoCardSaid : Prop := Claim7.holds Tryz.pinned (.plain (OpenSpec.upto planPartsSpec)) planPartsUptoCard

/-- THE SECOND FORM's CARD OF 'onairlaw08.PlanFinds'. -/
def planFindsUptoCard : Claim7 := { stood := { row := planFindsUptoRow, standIns := [], harness := (true, "0920b850dcc38d1adf8ac1a12a8052cedc72f0c93030e4301d2dcc84e7d73c35"), looks := true }, kinds := [], alts := [], laidByText := true, laidKinds := [.data, .sentinel, .sentinel], laidTests := true, laidLooks := .later }
def PlanFindsUptoCardSaid : Prop := Claim7.holds Tryz.pinned (.plain (OpenSpec.upto planFindsSpec)) planFindsUptoCard
end Rows
end Go.Proofs.YteeillphhiaopaaGreatDoor
