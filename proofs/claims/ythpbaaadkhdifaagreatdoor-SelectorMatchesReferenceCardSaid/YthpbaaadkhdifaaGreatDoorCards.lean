/-
  DERIVED. GIVEN WITH THE SEED: THE CARDS: each row of YthpbaaadkhdifaaGreatDoorRows.lean that lists a variable, with what it lists TIED to the program's text (the seventh form; the later family's looks); each row that meets fmt, with fmt's text TOLD by the authors' own Lean function (tested against real Go, not proved from fmt's source: count such statements apart). THE CARD IS WHAT COUNTS. Prove the row's statement (the work); the ties are given (YthpbaaadkhdifaaGreatDoorTie.lean); close each card by the builder's one call (the guide's Derived/Test/ToyasCard.lean, 'card_holds'). Laid BY PROGRAM, IN A SANDBOX (cutbox-door.mjs). By AI agents, Wed Nov 11 2026. No macro, syntax, notation, axiom, sorry.
-/
import Derived.Test.YthpbaaadkhdifaaGreatDoorRows
import GoSem.ClaimSeven
namespace Go.Proofs.YthpbaaadkhdifaaGreatDoor
namespace Rows

/-- THE TIED CARD OF 'onairlaw22.SelectorMatchesReference'. -/
def selectorMatchesReferenceCard : Claim7 := { stood := { row := selectorMatchesReferenceRow, standIns := [], harness := (true, "9dee3736a47d5fde62d585030fb6813f4463abab0d4d0d63d0a04982675a9e5c"), looks := false }, kinds := [], alts := [], laidByText := true, laidKinds := [.data, .data], laidTests := true, laidLooks := .later }
def SelectorMatchesReferenceCardSaid : Prop := Claim7.holds Tryz.pinned (.plain (OpenSpec.ofChange selectorMatchesReferenceSpec)) selectorMatchesReferenceCard

/-- THE TIED CARD OF 'onairlaw22.SelectorSafe'. -/
def selectorSafeCard : Claim7 := { stood := { row := selectorSafeRow, standIns := [], harness := (true, "9dee3736a47d5fde62d585030fb6813f4463abab0d4d0d63d0a04982675a9e5c"), looks := false }, kinds := [], alts := [], laidByText := true, laidKinds := [.data, .data], laidTests := true, laidLooks := .later }
def SelectorSafeCardSaid : Prop := Claim7.holds Tryz.pinned (.plain (OpenSpec.ofChange selectorSafeSpec)) selectorSafeCard

/-- THE TIED CARD OF 'onairlaw22.SelectorDecodable'. -/
def selectorDecodableCard : Claim7 := { stood := { row := selectorDecodableRow, standIns := [], harness := (true, "9dee3736a47d5fde62d585030fb6813f4463abab0d4d0d63d0a04982675a9e5c"), looks := false }, kinds := [], alts := [], laidByText := true, laidKinds := [.data, .data], laidTests := true, laidLooks := .later }
def SelectorDecodableCardSaid : Prop := Claim7.holds Tryz.pinned (.plain (OpenSpec.ofChange selectorDecodableSpec)) selectorDecodableCard

/-- THE TIED CARD OF 'onairlaw22.SelectorSeamless'. -/
def selectorSeamlessCard : Claim7 := { stood := { row := selectorSeamlessRow, standIns := [], harness := (true, "9dee3736a47d5fde62d585030fb6813f4463abab0d4d0d63d0a04982675a9e5c"), looks := false }, kinds := [], alts := [], laidByText := true, laidKinds := [.data, .data], laidTests := true, laidLooks := .later }
def SelectorSeamlessCardSaid : Prop := Claim7.holds Tryz.pinned (.plain (OpenSpec.ofChange selectorSeamlessSpec)) selectorSeamlessCard

/-- THE TIED CARD OF 'onairlaw22.SelectorChannels'. -/
def selectorChannelsCard : Claim7 := { stood := { row := selectorChannelsRow, standIns := [], harness := (true, "9dee3736a47d5fde62d585030fb6813f4463abab0d4d0d63d0a04982675a9e5c"), looks := false }, kinds := [], alts := [], laidByText := true, laidKinds := [.data, .data], laidTests := true, laidLooks := .later }
def SelectorChannelsCardSaid : Prop := Claim7.holds Tryz.pinned (.plain (OpenSpec.ofChange selectorChannelsSpec)) selectorChannelsCard

/-- THE TIED CARD OF 'onairlaw22.SelectorKeeps'. -/
def selectorKeepsCard : Claim7 := { stood := { row := selectorKeepsRow, standIns := [], harness := (true, "9dee3736a47d5fde62d585030fb6813f4463abab0d4d0d63d0a04982675a9e5c"), looks := false }, kinds := [], alts := [], laidByText := true, laidKinds := [.data, .data], laidTests := true, laidLooks := .later }
def SelectorKeepsCardSaid : Prop := Claim7.holds Tryz.pinned (.plain (OpenSpec.ofChange selectorKeepsSpec)) selectorKeepsCard

/-- THE TIED CARD OF 'onairlaw22.SelectorNew'. -/
def selectorNewCard : Claim7 := { stood := { row := selectorNewRow, standIns := [], harness := (true, "9dee3736a47d5fde62d585030fb6813f4463abab0d4d0d63d0a04982675a9e5c"), looks := false }, kinds := [], alts := [], laidByText := true, laidKinds := [.data, .data], laidTests := true, laidLooks := .later }
def SelectorNewCardSaid : Prop := Claim7.holds Tryz.pinned (.plain (OpenSpec.ofChange selectorNewSpec)) selectorNewCard

/-- THE SECOND FORM's CARD OF 'onairlaw22.SelectorMatchesReference'. -/
def selectorMatchesReferenceUptoCard : Claim7 := { stood := { row := selectorMatchesReferenceUptoRow, standIns := [], harness := (true, "9dee3736a47d5fde62d585030fb6813f4463abab0d4d0d63d0a04982675a9e5c"), looks := false }, kinds := [], alts := [], laidByText := true, laidKinds := [.data, .data], laidTests := true, laidLooks := .later }
def SelectorMatchesReferenceUptoCardSaid : Prop := Claim7.holds Tryz.pinned (.plain (OpenSpec.upto selectorMatchesReferenceSpec)) selectorMatchesReferenceUptoCard

/-- THE SECOND FORM's CARD OF 'onairlaw22.SelectorSafe'. -/
def selectorSafeUptoCard : Claim7 := { stood := { row := selectorSafeUptoRow, standIns := [], harness := (true, "9dee3736a47d5fde62d585030fb6813f4463abab0d4d0d63d0a04982675a9e5c"), looks := false }, kinds := [], alts := [], laidByText := true, laidKinds := [.data, .data], laidTests := true, laidLooks := .later }
def SelectorSafeUptoCardSaid : Prop := Claim7.holds Tryz.pinned (.plain (OpenSpec.upto selectorSafeSpec)) selectorSafeUptoCard

/-- THE SECOND FORM's CARD OF 'onairlaw22.SelectorDecodable'. -/
def selectorDecodableUptoCard : Claim7 := { stood := { row := selectorDecodableUptoRow, standIns := [], harness := (true, "9dee3736a47d5fde62d585030fb6813f4463abab0d4d0d63d0a04982675a9e5c"), looks := false }, kinds := [], alts := [], laidByText := true, laidKinds := [.data, .data], laidTests := true, laidLooks := .later }
def SelectorDecodableUptoCardSaid : Prop := Claim7.holds Tryz.pinned (.plain (OpenSpec.upto selectorDecodableSpec)) selectorDecodableUptoCard

/-- THE SECOND FORM's CARD OF 'onairlaw22.SelectorSeamless'. -/
def selectorSeamlessUptoCard : Claim7 := { stood := { row := selectorSeamlessUptoRow, standIns := [], harness := (true, "9dee3736a47d5fde62d585030fb6813f4463abab0d4d0d63d0a04982675a9e5c"), looks := false }, kinds := [], alts := [], laidByText := true, laidKinds := [.data, .data], laidTests := true, laidLooks := .later }
def SelectorSeamlessUptoCardSaid : Prop := Claim7.holds Tryz.pinned (.plain (OpenSpec.upto selectorSeamlessSpec)) selectorSeamlessUptoCard

/-- THE SECOND FORM's CARD OF 'onairlaw22.SelectorChannels'. -/
def selectorChannelsUptoCard : Claim7 := { stood := { row := selectorChannelsUptoRow, standIns := [], harness := (true, "9dee3736a47d5fde62d585030fb6813f4463abab0d4d0d63d0a04982675a9e5c"), looks := false }, kinds := [], alts := [], laidByText := true, laidKinds := [.data, .data], laidTests := true, laidLooks := .later }
def SelectorChannelsUptoCardSaid : Prop := Claim7.holds Tryz.pinned (.plain (OpenSpec.upto selectorChannelsSpec)) selectorChannelsUptoCard

/-- THE SECOND FORM's CARD OF 'onairlaw22.SelectorKeeps'. -/
def selectorKeepsUptoCard : Claim7 := { stood := { row := selectorKeepsUptoRow, standIns := [], harness := (true, "9dee3736a47d5fde62d585030fb6813f4463abab0d4d0d63d0a04982675a9e5c"), looks := false }, kinds := [], alts := [], laidByText := true, laidKinds := [.data, .data], laidTests := true, laidLooks := .later }
def SelectorKeepsUptoCardSaid : Prop := Claim7.holds Tryz.pinned (.plain (OpenSpec.upto selectorKeepsSpec)) selectorKeepsUptoCard

/-- THE SECOND FORM's CARD OF 'onairlaw22.SelectorNew'. -/
def selectorNewUptoCard : Claim7 := { stood := { row := selectorNewUptoRow, standIns := [], harness := (true, "9dee3736a47d5fde62d585030fb6813f4463abab0d4d0d63d0a04982675a9e5c"), looks := false }, kinds := [], alts := [], laidByText := true, laidKinds := [.data, .data], laidTests := true, laidLooks := .later }
def SelectorNewUptoCardSaid : Prop := Claim7.holds Tryz.pinned (.plain (OpenSpec.upto selectorNewSpec)) selectorNewUptoCard
end Rows
end Go.Proofs.YthpbaaadkhdifaaGreatDoor
