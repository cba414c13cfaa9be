/-
  DERIVED. GIVEN WITH THE SEED: THE CARDS: each row of YtgdjpaeclicdfaaDoorRows.lean that lists a variable, with what it lists TIED to the program's text (the seventh form; the later family's looks); each row that meets fmt, with fmt's text TOLD by the authors' own Lean function (tested against real Go, not proved from fmt's source: count such statements apart). THE CARD IS WHAT COUNTS. Prove the row's statement (the work); the ties are given (YtgdjpaeclicdfaaDoorTie.lean); close each card by the builder's one call (the guide's Derived/Test/ToyasCard.lean, 'card_holds'). Laid BY PROGRAM, IN A SANDBOX (cutbox-door.mjs). By AI agents, Wed Nov 11 2026. No macro, syntax, notation, axiom, sorry.
-/
import Derived.Test.YtgdjpaeclicdfaaDoorRows
import GoSem.ClaimSeven
namespace Go.Proofs.YtgdjpaeclicdfaaDoor
namespace Rows

/-- THE TIED CARD OF 'onairlaw18.TransportPackMatchesReference'. -/
def transportPackMatchesReferenceCard : Claim7 := { stood := { row := transportPackMatchesReferenceRow, standIns := [], harness := (true, "48e4a79b8d1e6370d851912b04b867c5d47a6fde9f3477d446831dae5800a2cd"), looks := false }, kinds := [], alts := [], laidByText := true, laidKinds := [.data, .data], laidTests := true, laidLooks := .later }
def TransportPackMatchesReferenceCardSaid : Prop := Claim7.holds Tryd.pinned (.plain (OpenSpec.ofChange transportPackMatchesReferenceSpec)) transportPackMatchesReferenceCard

/-- THE TIED CARD OF 'onairlaw18.TransportUnpackMatchesReference'. -/
def transportUnpackMatchesReferenceCard : Claim7 := { stood := { row := transportUnpackMatchesReferenceRow, standIns := [], harness := (true, "48e4a79b8d1e6370d851912b04b867c5d47a6fde9f3477d446831dae5800a2cd"), looks := false }, kinds := [], alts := [], laidByText := true, laidKinds := [.data, .data], laidTests := true, laidLooks := .later }
def TransportUnpackMatchesReferenceCardSaid : Prop := Claim7.holds Tryd.pinned (.plain (OpenSpec.ofChange transportUnpackMatchesReferenceSpec)) transportUnpackMatchesReferenceCard

/-- THE TIED CARD OF 'onairlaw18.TransportRoundTrip'. -/
def transportRoundTripCard : Claim7 := { stood := { row := transportRoundTripRow, standIns := [], harness := (true, "48e4a79b8d1e6370d851912b04b867c5d47a6fde9f3477d446831dae5800a2cd"), looks := false }, kinds := [], alts := [], laidByText := true, laidKinds := [.data, .data], laidTests := true, laidLooks := .later }
def TransportRoundTripCardSaid : Prop := Claim7.holds Tryd.pinned (.plain (OpenSpec.ofChange transportRoundTripSpec)) transportRoundTripCard

/-- THE TIED CARD OF 'onairlaw18.TransportInjective'. -/
def transportInjectiveCard : Claim7 := { stood := { row := transportInjectiveRow, standIns := [], harness := (true, "48e4a79b8d1e6370d851912b04b867c5d47a6fde9f3477d446831dae5800a2cd"), looks := false }, kinds := [], alts := [], laidByText := true, laidKinds := [.data, .data], laidTests := true, laidLooks := .later }
def TransportInjectiveCardSaid : Prop := Claim7.holds Tryd.pinned (.plain (OpenSpec.ofChange transportInjectiveSpec)) transportInjectiveCard

/-- THE TIED CARD OF 'onairlaw18.TransportPackets'. -/
def transportPacketsCard : Claim7 := { stood := { row := transportPacketsRow, standIns := [], harness := (true, "48e4a79b8d1e6370d851912b04b867c5d47a6fde9f3477d446831dae5800a2cd"), looks := false }, kinds := [], alts := [], laidByText := true, laidKinds := [.data, .data], laidTests := true, laidLooks := .later }
def TransportPacketsCardSaid : Prop := Claim7.holds Tryd.pinned (.plain (OpenSpec.ofChange transportPacketsSpec)) transportPacketsCard

/-- THE TIED CARD OF 'onairlaw18.TransportClock'. -/
def transportClockCard : Claim7 := { stood := { row := transportClockRow, standIns := [], harness := (true, "48e4a79b8d1e6370d851912b04b867c5d47a6fde9f3477d446831dae5800a2cd"), looks := false }, kinds := [], alts := [], laidByText := true, laidKinds := [.data, .data], laidTests := true, laidLooks := .later }
def TransportClockCardSaid : Prop := Claim7.holds Tryd.pinned (.plain (OpenSpec.ofChange transportClockSpec)) transportClockCard

/-- THE TIED CARD OF 'onairlaw18.TransportDamaged'. -/
def transportDamagedCard : Claim7 := { stood := { row := transportDamagedRow, standIns := [], harness := (true, "48e4a79b8d1e6370d851912b04b867c5d47a6fde9f3477d446831dae5800a2cd"), looks := false }, kinds := [], alts := [], laidByText := true, laidKinds := [.data, .data], laidTests := true, laidLooks := .later }
def TransportDamagedCardSaid : Prop := Claim7.holds Tryd.pinned (.plain (OpenSpec.ofChange transportDamagedSpec)) transportDamagedCard

/-- THE TIED CARD OF 'onairlaw18.TransportMissing'. -/
def transportMissingCard : Claim7 := { stood := { row := transportMissingRow, standIns := [], harness := (true, "48e4a79b8d1e6370d851912b04b867c5d47a6fde9f3477d446831dae5800a2cd"), looks := false }, kinds := [], alts := [], laidByText := true, laidKinds := [.data, .data], laidTests := true, laidLooks := .later }
def TransportMissingCardSaid : Prop := Claim7.holds Tryd.pinned (.plain (OpenSpec.ofChange transportMissingSpec)) transportMissingCard

/-- THE TIED CARD OF 'onairlaw18.TransportFollows'. -/
def transportFollowsCard : Claim7 := { stood := { row := transportFollowsRow, standIns := [], harness := (true, "48e4a79b8d1e6370d851912b04b867c5d47a6fde9f3477d446831dae5800a2cd"), looks := false }, kinds := [], alts := [], laidByText := true, laidKinds := [.data, .data], laidTests := true, laidLooks := .later }
def TransportFollowsCardSaid : Prop := Claim7.holds Tryd.pinned (.plain (OpenSpec.ofChange transportFollowsSpec)) transportFollowsCard

/-- THE TIED CARD OF 'onairlaw18.TransportGap'. -/
def transportGapCard : Claim7 := { stood := { row := transportGapRow, standIns := [], harness := (true, "48e4a79b8d1e6370d851912b04b867c5d47a6fde9f3477d446831dae5800a2cd"), looks := false }, kinds := [], alts := [], laidByText := true, laidKinds := [.data, .data], laidTests := true, laidLooks := .later }
def TransportGapCardSaid : Prop := Claim7.holds Tryd.pinned (.plain (OpenSpec.ofChange transportGapSpec)) transportGapCard

/-- THE SECOND FORM's CARD OF 'onairlaw18.TransportPackMatchesReference'. -/
def transportPackMatchesReferenceUptoCard : Claim7 := { stood := { row := transportPackMatchesReferenceUptoRow, standIns := [], harness := (true, "48e4a79b8d1e6370d851912b04b867c5d47a6fde9f3477d446831dae5800a2cd"), looks := false }, kinds := [], alts := [], laidByText := true, laidKinds := [.data, .data], laidTests := true, laidLooks := .later }
def TransportPackMatchesReferenceUptoCardSaid : Prop := Claim7.holds Tryd.pinned (.plain (OpenSpec.upto transportPackMatchesReferenceSpec)) transportPackMatchesReferenceUptoCard

/-- THE SECOND FORM's CARD OF 'onairlaw18.TransportUnpackMatchesReference'. -/
def transportUnpackMatchesReferenceUptoCard : Claim7 := { stood := { row := transportUnpackMatchesReferenceUptoRow, standIns := [], harness := (true, "48e4a79b8d1e6370d851912b04b867c5d47a6fde9f3477d446831dae5800a2cd"), looks := false }, kinds := [], alts := [], laidByText := true, laidKinds := [.data, .data], laidTests := true, laidLooks := .later }
def TransportUnpackMatchesReferenceUptoCardSaid : Prop := Claim7.holds Tryd.pinned (.plain (OpenSpec.upto transportUnpackMatchesReferenceSpec)) transportUnpackMatchesReferenceUptoCard

/-- THE SECOND FORM's CARD OF 'onairlaw18.TransportRoundTrip'. -/
def transportRoundTripUptoCard : Claim7 := { stood := { row := transportRoundTripUptoRow, standIns := [], harness := (true, "48e4a79b8d1e6370d851912b04b867c5d47a6fde9f3477d446831dae5800a2cd"), looks := false }, kinds := [], alts := [], laidByText := true, laidKinds := [.data, .data], laidTests := true, laidLooks := .later }
def TransportRoundTripUptoCardSaid : Prop := Claim7.holds Tryd.pinned (.plain (OpenSpec.upto transportRoundTripSpec)) transportRoundTripUptoCard

/-- THE SECOND FORM's CARD OF 'onairlaw18.TransportInjective'. -/
def transportInjectiveUptoCard : Claim7 := { stood := { row := transportInjectiveUptoRow, standIns := [], harness := (true, "48e4a79b8d1e6370d851912b04b867c5d47a6fde9f3477d446831dae5800a2cd"), looks := false }, kinds := [], alts := [], laidByText := true, laidKinds := [.data, .data], laidTests := true, laidLooks := .later }
def TransportInjectiveUptoCardSaid : Prop := Claim7.holds Tryd.pinned (.plain (OpenSpec.upto transportInjectiveSpec)) transportInjectiveUptoCard

/-- THE SECOND FORM's CARD OF 'onairlaw18.TransportPackets'. -/
def transportPacketsUptoCard : Claim7 := { stood := { row := transportPacketsUptoRow, standIns := [], harness := (true, "48e4a79b8d1e6370d851912b04b867c5d47a6fde9f3477d446831dae5800a2cd"), looks := false }, kinds := [], alts := [], laidByText := true, laidKinds := [.data, .data], laidTests := true, laidLooks := .later }
def TransportPacketsUptoCardSaid : Prop := Claim7.holds Tryd.pinned (.plain (OpenSpec.upto transportPacketsSpec)) transportPacketsUptoCard

/-- THE SECOND FORM's CARD OF 'onairlaw18.TransportClock'. -/
def transportClockUptoCard : Claim7 := { stood := { row := transportClockUptoRow, standIns := [], harness := (true, "48e4a79b8d1e6370d851912b04b867c5d47a6fde9f3477d446831dae5800a2cd"), looks := false }, kinds := [], alts := [], laidByText := true, laidKinds := [.data, .data], laidTests := true, laidLooks := .later }
def TransportClockUptoCardSaid : Prop := Claim7.holds Tryd.pinned (.plain (OpenSpec.upto transportClockSpec)) transportClockUptoCard

/-- THE SECOND FORM's CARD OF 'onairlaw18.TransportDamaged'. -/
def transportDamagedUptoCard : Claim7 := { stood := { row := transportDamagedUptoRow, standIns := [], harness := (true, "48e4a79b8d1e6370d851912b04b867c5d47a6fde9f3477d446831dae5800a2cd"), looks := false }, kinds := [], alts := [], laidByText := true, laidKinds := [.data, .data], laidTests := true, laidLooks := .later }
def TransportDamagedUptoCardSaid : Prop := Claim7.holds Tryd.pinned (.plain (OpenSpec.upto transportDamagedSpec)) transportDamagedUptoCard

/-- THE SECOND FORM's CARD OF 'onairlaw18.TransportMissing'. -/
def transportMissingUptoCard : Claim7 := { stood := { row := transportMissingUptoRow, standIns := [], harness := (true, "48e4a79b8d1e6370d851912b04b867c5d47a6fde9f3477d446831dae5800a2cd"), looks := false }, kinds := [], alts := [], laidByText := true, laidKinds := [.data, .data], laidTests := true, laidLooks := .later }
def TransportMissingUptoCardSaid : Prop := Claim7.holds Tryd.pinned (.plain (OpenSpec.upto transportMissingSpec)) transportMissingUptoCard

/-- THE SECOND FORM's CARD OF 'onairlaw18.TransportFollows'. -/
def transportFollowsUptoCard : Claim7 := { stood := { row := transportFollowsUptoRow, standIns := [], harness := (true, "48e4a79b8d1e6370d851912b04b867c5d47a6fde9f3477d446831dae5800a2cd"), looks := false }, kinds := [], alts := [], laidByText := true, laidKinds := [.data, .data], laidTests := true, laidLooks := .later }
def TransportFollowsUptoCardSaid : Prop := Claim7.holds Tryd.pinned (.plain (OpenSpec.upto transportFollowsSpec)) transportFollowsUptoCard

/-- THE SECOND FORM's CARD OF 'onairlaw18.TransportGap'. -/
def transportGapUptoCard : Claim7 := { stood := { row := transportGapUptoRow, standIns := [], harness := (true, "48e4a79b8d1e6370d851912b04b867c5d47a6fde9f3477d446831dae5800a2cd"), looks := false }, kinds := [], alts := [], laidByText := true, laidKinds := [.data, .data], laidTests := true, laidLooks := .later }
def TransportGapUptoCardSaid : Prop := Claim7.holds Tryd.pinned (.plain (OpenSpec.upto transportGapSpec)) transportGapUptoCard
end Rows
end Go.Proofs.YtgdjpaeclicdfaaDoor
