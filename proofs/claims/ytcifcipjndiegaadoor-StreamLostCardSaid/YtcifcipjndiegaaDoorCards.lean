/-
  DERIVED. GIVEN WITH THE SEED: THE CARDS: each row of YtcifcipjndiegaaDoorRows.lean that lists a variable, with what it lists TIED to the program's text (the seventh form; the later family's looks); each row that meets fmt, with fmt's text TOLD by the authors' own Lean function (tested against real Go, not proved from fmt's source: count such statements apart). THE CARD IS WHAT COUNTS. Prove the row's statement (the work); the ties are given (YtcifcipjndiegaaDoorTie.lean); close each card by the builder's one call (the guide's Derived/Test/ToyasCard.lean, 'card_holds'). Laid BY PROGRAM, IN A SANDBOX (cutbox-door.mjs). By AI agents, Wed Nov 11 2026. No macro, syntax, notation, axiom, sorry.
-/
import Derived.Test.YtcifcipjndiegaaDoorRows
import GoSem.ClaimSeven
namespace Go.Proofs.YtcifcipjndiegaaDoor
namespace Rows

/-- THE TIED CARD OF 'onairlaw16.StreamBlockMatchesReference'. -/
def streamBlockMatchesReferenceCard : Claim7 := { stood := { row := streamBlockMatchesReferenceRow, standIns := [], harness := (true, "6f311e653bb6413066dcd6c255ba4e90ddfde23d14300a6253a2c0eab8535950"), looks := false }, kinds := [], alts := [], laidByText := true, laidKinds := [.data, .data, .pinned], laidTests := true, laidLooks := .later }
def StreamBlockMatchesReferenceCardSaid : Prop := Claim7.holds Tryd.pinned (.plain (OpenSpec.ofChange streamBlockMatchesReferenceSpec)) streamBlockMatchesReferenceCard

/-- THE TIED CARD OF 'onairlaw16.StreamDecoderMatchesReference'. -/
def streamDecoderMatchesReferenceCard : Claim7 := { stood := { row := streamDecoderMatchesReferenceRow, standIns := [], harness := (true, "6f311e653bb6413066dcd6c255ba4e90ddfde23d14300a6253a2c0eab8535950"), looks := false }, kinds := [], alts := [], laidByText := true, laidKinds := [.data, .data, .pinned], laidTests := true, laidLooks := .later }
def StreamDecoderMatchesReferenceCardSaid : Prop := Claim7.holds Tryd.pinned (.plain (OpenSpec.ofChange streamDecoderMatchesReferenceSpec)) streamDecoderMatchesReferenceCard

/-- THE TIED CARD OF 'onairlaw16.StreamShows'. -/
def streamShowsCard : Claim7 := { stood := { row := streamShowsRow, standIns := [], harness := (true, "6f311e653bb6413066dcd6c255ba4e90ddfde23d14300a6253a2c0eab8535950"), looks := false }, kinds := [], alts := [], laidByText := true, laidKinds := [.data, .data, .pinned], laidTests := true, laidLooks := .later }
def StreamShowsCardSaid : Prop := Claim7.holds Tryd.pinned (.plain (OpenSpec.ofChange streamShowsSpec)) streamShowsCard

/-- THE TIED CARD OF 'onairlaw16.StreamLost'. -/
def streamLostCard : Claim7 := { stood := { row := streamLostRow, standIns := [], harness := (true, "6f311e653bb6413066dcd6c255ba4e90ddfde23d14300a6253a2c0eab8535950"), looks := false }, kinds := [], alts := [], laidByText := true, laidKinds := [.data, .data, .pinned], laidTests := true, laidLooks := .later }
def StreamLostCardSaid : Prop := Claim7.holds Tryd.pinned (.plain (OpenSpec.ofChange streamLostSpec)) streamLostCard

/-- THE TIED CARD OF 'onairlaw16.StreamJoin'. -/
def streamJoinCard : Claim7 := { stood := { row := streamJoinRow, standIns := [], harness := (true, "6f311e653bb6413066dcd6c255ba4e90ddfde23d14300a6253a2c0eab8535950"), looks := false }, kinds := [], alts := [], laidByText := true, laidKinds := [.data, .data, .pinned], laidTests := true, laidLooks := .later }
def StreamJoinCardSaid : Prop := Claim7.holds Tryd.pinned (.plain (OpenSpec.ofChange streamJoinSpec)) streamJoinCard

/-- THE SECOND FORM's CARD OF 'onairlaw16.StreamBlockMatchesReference'. -/
def streamBlockMatchesReferenceUptoCard : Claim7 := { stood := { row := streamBlockMatchesReferenceUptoRow, standIns := [], harness := (true, "6f311e653bb6413066dcd6c255ba4e90ddfde23d14300a6253a2c0eab8535950"), looks := false }, kinds := [], alts := [], laidByText := true, laidKinds := [.data, .data, .pinned], laidTests := true, laidLooks := .later }
def StreamBlockMatchesReferenceUptoCardSaid : Prop := Claim7.holds Tryd.pinned (.plain (OpenSpec.upto streamBlockMatchesReferenceSpec)) streamBlockMatchesReferenceUptoCard

/-- THE SECOND FORM's CARD OF 'onairlaw16.StreamDecoderMatchesReference'. -/
def streamDecoderMatchesReferenceUptoCard : Claim7 := { stood := { row := streamDecoderMatchesReferenceUptoRow, standIns := [], harness := (true, "6f311e653bb6413066dcd6c255ba4e90ddfde23d14300a6253a2c0eab8535950"), looks := false }, kinds := [], alts := [], laidByText := true, laidKinds := [.data, .data, .pinned], laidTests := true, laidLooks := .later }
def StreamDecoderMatchesReferenceUptoCardSaid : Prop := Claim7.holds Tryd.pinned (.plain (OpenSpec.upto streamDecoderMatchesReferenceSpec)) streamDecoderMatchesReferenceUptoCard

/-- THE SECOND FORM's CARD OF 'onairlaw16.StreamShows'. -/
def streamShowsUptoCard : Claim7 := { stood := { row := streamShowsUptoRow, standIns := [], harness := (true, "6f311e653bb6413066dcd6c255ba4e90ddfde23d14300a6253a2c0eab8535950"), looks := false }, kinds := [], alts := [], laidByText := true, laidKinds := [.data, .data, .pinned], laidTests := true, laidLooks := .later }
def StreamShowsUptoCardSaid : Prop := Claim7.holds Tryd.pinned (.plain (OpenSpec.upto streamShowsSpec)) streamShowsUptoCard

/-- THE SECOND FORM's CARD OF 'onairlaw16.StreamLost'. -/
def streamLostUptoCard : Claim7 := { stood := { row := streamLostUptoRow, standIns := [], harness := (true, "6f311e653bb6413066dcd6c255ba4e90ddfde23d14300a6253a2c0eab8535950"), looks := false }, kinds := [], alts := [], laidByText := true, laidKinds := [.data, .data, .pinned], laidTests := true, laidLooks := .later }
def StreamLostUptoCardSaid : Prop := Claim7.holds Tryd.pinned (.plain (OpenSpec.upto streamLostSpec)) streamLostUptoCard

/-- THE SECOND FORM's CARD OF 'onairlaw16.StreamJoin'. -/
def streamJoinUptoCard : Claim7 := { stood := { row := streamJoinUptoRow, standIns := [], harness := (true, "6f311e653bb6413066dcd6c255ba4e90ddfde23d14300a6253a2c0eab8535950"), looks := false }, kinds := [], alts := [], laidByText := true, laidKinds := [.data, .data, .pinned], laidTests := true, laidLooks := .later }
def StreamJoinUptoCardSaid : Prop := Claim7.holds Tryd.pinned (.plain (OpenSpec.upto streamJoinSpec)) streamJoinUptoCard
end Rows
end Go.Proofs.YtcifcipjndiegaaDoor
