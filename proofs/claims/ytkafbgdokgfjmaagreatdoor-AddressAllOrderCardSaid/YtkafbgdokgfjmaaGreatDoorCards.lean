/-
  DERIVED. GIVEN WITH THE SEED: THE CARDS: each row of YtkafbgdokgfjmaaGreatDoorRows.lean that lists a variable, with what it lists TIED to the program's text (the seventh form; the later family's looks); each row that meets fmt, with fmt's text TOLD by the authors' own Lean function (tested against real Go, not proved from fmt's source: count such statements apart). THE CARD IS WHAT COUNTS. Prove the row's statement (the work); the ties are given (YtkafbgdokgfjmaaGreatDoorTie.lean); close each card by the builder's one call (the guide's Derived/Test/ToyasCard.lean, 'card_holds'). Laid BY PROGRAM, IN A SANDBOX (cutbox-door.mjs). By AI agents, Wed Nov 11 2026. No macro, syntax, notation, axiom, sorry.
-/
import Derived.Test.YtkafbgdokgfjmaaGreatDoorRows
import GoSem.ClaimSeven
namespace Go.Proofs.YtkafbgdokgfjmaaGreatDoor
namespace Rows

/-- THE TIED CARD OF 'copydesklaw12.AddressFormatMatchesReference'. -/
def addressFormatMatchesReferenceCard : Claim7 := { stood := { row := addressFormatMatchesReferenceRow, standIns := [], harness := (true, "f162334dd48286d7735fc81a18d89f0e608178681e72d806cebf873503c62011"), looks := true }, kinds := [], alts := [], laidByText := true, laidKinds := [.data, .data, .data, .data, .sentinel, .sentinel, .pinned], laidTests := true, laidLooks := .later }
def AddressFormatMatchesReferenceCardSaid : Prop := Claim7.holds Tryz.pinned (.plain (OpenSpec.ofChange addressFormatMatchesReferenceSpec)) addressFormatMatchesReferenceCard

/-- THE TIED CARD OF 'copydesklaw12.AddressParseMatchesReference'. -/
def addressParseMatchesReferenceCard : Claim7 := { stood := { row := addressParseMatchesReferenceRow, standIns := [], harness := (true, "f162334dd48286d7735fc81a18d89f0e608178681e72d806cebf873503c62011"), looks := true }, kinds := [], alts := [], laidByText := true, laidKinds := [.data, .data, .data, .data, .sentinel, .sentinel, .pinned], laidTests := true, laidLooks := .later }
def AddressParseMatchesReferenceCardSaid : Prop := Claim7.holds Tryz.pinned (.plain (OpenSpec.ofChange addressParseMatchesReferenceSpec)) addressParseMatchesReferenceCard

/-- THE TIED CARD OF 'copydesklaw12.AddressAllMatchesReference'. -/
def addressAllMatchesReferenceCard : Claim7 := { stood := { row := addressAllMatchesReferenceRow, standIns := [], harness := (true, "f162334dd48286d7735fc81a18d89f0e608178681e72d806cebf873503c62011"), looks := true }, kinds := [], alts := [], laidByText := true, laidKinds := [.data, .data, .data, .data, .sentinel, .sentinel, .pinned], laidTests := true, laidLooks := .later }
def AddressAllMatchesReferenceCardSaid : Prop := Claim7.holds Tryz.pinned (.plain (OpenSpec.ofChange addressAllMatchesReferenceSpec)) addressAllMatchesReferenceCard

/-- THE TIED CARD OF 'copydesklaw12.AddressRoundTrip'. -/
def addressRoundTripCard : Claim7 := { stood := { row := addressRoundTripRow, standIns := [], harness := (true, "f162334dd48286d7735fc81a18d89f0e608178681e72d806cebf873503c62011"), looks := true }, kinds := [], alts := [], laidByText := true, laidKinds := [.data, .data, .data, .data, .sentinel, .sentinel, .pinned], laidTests := true, laidLooks := .later }
def AddressRoundTripCardSaid : Prop := Claim7.holds Tryz.pinned (.plain (OpenSpec.ofChange addressRoundTripSpec)) addressRoundTripCard

/-- THE TIED CARD OF 'copydesklaw12.AddressParsedAgain'. -/
def addressParsedAgainCard : Claim7 := { stood := { row := addressParsedAgainRow, standIns := [], harness := (true, "f162334dd48286d7735fc81a18d89f0e608178681e72d806cebf873503c62011"), looks := true }, kinds := [], alts := [], laidByText := true, laidKinds := [.data, .data, .data, .data, .sentinel, .sentinel, .pinned], laidTests := true, laidLooks := .later }
def AddressParsedAgainCardSaid : Prop := Claim7.holds Tryz.pinned (.plain (OpenSpec.ofChange addressParsedAgainSpec)) addressParsedAgainCard

/-- THE TIED CARD OF 'copydesklaw12.AddressAllEditions'. -/
def addressAllEditionsCard : Claim7 := { stood := { row := addressAllEditionsRow, standIns := [], harness := (true, "f162334dd48286d7735fc81a18d89f0e608178681e72d806cebf873503c62011"), looks := true }, kinds := [], alts := [], laidByText := true, laidKinds := [.data, .data, .data, .data, .sentinel, .sentinel, .pinned], laidTests := true, laidLooks := .later }
def AddressAllEditionsCardSaid : Prop := Claim7.holds Tryz.pinned (.plain (OpenSpec.ofChange addressAllEditionsSpec)) addressAllEditionsCard

/-- THE TIED CARD OF 'copydesklaw12.AddressAllOrder'. -/
def addressAllOrderCard : Claim7 := { stood := { row := addressAllOrderRow, standIns := [], harness := (true, "f162334dd48286d7735fc81a18d89f0e608178681e72d806cebf873503c62011"), looks := true }, kinds := [], alts := [], laidByText := true, laidKinds := [.data, .data, .data, .data, .sentinel, .sentinel, .pinned], laidTests := true, laidLooks := .later }
def AddressAllOrderCardSaid : Prop := Claim7.holds Tryz.pinned (.plain (OpenSpec.ofChange addressAllOrderSpec)) addressAllOrderCard

/-- THE TIED CARD OF 'copydesklaw12.AddressAllGrows'. -/
def addressAllGrowsCard : Claim7 := { stood := { row := addressAllGrowsRow, standIns := [], harness := (true, "f162334dd48286d7735fc81a18d89f0e608178681e72d806cebf873503c62011"), looks := true }, kinds := [], alts := [], laidByText := true, laidKinds := [.data, .data, .data, .data, .sentinel, .sentinel, .pinned], laidTests := true, laidLooks := .later }
def AddressAllGrowsCardSaid : Prop := Claim7.holds Tryz.pinned (.plain (OpenSpec.ofChange addressAllGrowsSpec)) addressAllGrowsCard

/-- THE TIED CARD OF 'copydesklaw12.AddressAllValid'. -/
def addressAllValidCard : Claim7 := { stood := { row := addressAllValidRow, standIns := [], harness := (true, "f162334dd48286d7735fc81a18d89f0e608178681e72d806cebf873503c62011"), looks := true }, kinds := [], alts := [], laidByText := true, laidKinds := [.data, .data, .data, .data, .sentinel, .sentinel, .pinned], laidTests := true, laidLooks := .later }
def AddressAllValidCardSaid : Prop := Claim7.holds Tryz.pinned (.plain (OpenSpec.ofChange addressAllValidSpec)) addressAllValidCard

/-- THE SECOND FORM's CARD OF 'copydesklaw12.AddressFormatMatchesReference'. -/
def addressFormatMatchesReferenceUptoCard : Claim7 := { stood := { row := addressFormatMatchesReferenceUptoRow, standIns := [], harness := (true, "f162334dd48286d7735fc81a18d89f0e608178681e72d806cebf873503c62011"), looks := true }, kinds := [], alts := [], laidByText := true, laidKinds := [.data, .data, .data, .data, .sentinel, .sentinel, .pinned], laidTests := true, laidLooks := .later }
def AddressFormatMatchesReferenceUptoCardSaid : Prop := Claim7.holds Tryz.pinned (.plain (OpenSpec.upto addressFormatMatchesReferenceSpec)) addressFormatMatchesReferenceUptoCard

/-- THE SECOND FORM's CARD OF 'copydesklaw12.AddressParseMatchesReference'. -/
def addressParseMatchesReferenceUptoCard : Claim7 := { stood := { row := addressParseMatchesReferenceUptoRow, standIns := [], harness := (true, "f162334dd48286d7735fc81a18d89f0e608178681e72d806cebf873503c62011"), looks := true }, kinds := [], alts := [], laidByText := true, laidKinds := [.data, .data, .data, .data, .sentinel, .sentinel, .pinned], laidTests := true, laidLooks := .later }
def AddressParseMatchesReferenceUptoCardSaid : Prop := Claim7.holds Tryz.pinned (.plain (OpenSpec.upto addressParseMatchesReferenceSpec)) addressParseMatchesReferenceUptoCard

/-- THE SECOND FORM's CARD OF 'copydesklaw12.AddressAllMatchesReference'. -/
def addressAllMatchesReferenceUptoCard : Claim7 := { stood := { row := addressAllMatchesReferenceUptoRow, standIns := [], harness := (true, "f162334dd48286d7735fc81a18d89f0e608178681e72d806cebf873503c62011"), looks := true }, kinds := [], alts := [], laidByText := true, laidKinds := [.data, .data, .data, .data, .sentinel, .sentinel, .pinned], laidTests := true, laidLooks := .later }
def AddressAllMatchesReferenceUptoCardSaid : Prop := Claim7.holds Tryz.pinned (.plain (OpenSpec.upto addressAllMatchesReferenceSpec)) addressAllMatchesReferenceUptoCard

/-- THE SECOND FORM's CARD OF 'copydesklaw12.AddressRoundTrip'. -/
def addressRoundTripUptoCard : Claim7 := { stood := { row := addressRoundTripUptoRow, standIns := [], harness := (true, "f162334dd48286d7735fc81a18d89f0e608178681e72d806cebf873503c62011"), looks := true }, kinds := [], alts := [], laidByText := true, laidKinds := [.data, .data, .data, .data, .sentinel, .sentinel, .pinned], laidTests := true, laidLooks := .later }
def AddressRoundTripUptoCardSaid : Prop := Claim7.holds Tryz.pinned (.plain (OpenSpec.upto addressRoundTripSpec)) addressRoundTripUptoCard

/-- THE SECOND FORM's CARD OF 'copydesklaw12.AddressParsedAgain'. -/
def addressParsedAgainUptoCard : Claim7 := { stood := { row := addressParsedAgainUptoRow, standIns := [], harness := (true, "f162334dd48286d7735fc81a18d89f0e608178681e72d806cebf873503c62011"), looks := true }, kinds := [], alts := [], laidByText := true, laidKinds := [.data, .data, .data, .data, .sentinel, .sentinel, .pinned], laidTests := true, laidLooks := .later }
def AddressParsedAgainUptoCardSaid : Prop := Claim7.holds Tryz.pinned (.plain (OpenSpec.upto addressParsedAgainSpec)) addressParsedAgainUptoCard

/-- THE SECOND FORM's CARD OF 'copydesklaw12.AddressAllEditions'. -/
def addressAllEditionsUptoCard : Claim7 := { stood := { row := addressAllEditionsUptoRow, standIns := [], harness := (true, "f162334dd48286d7735fc81a18d89f0e608178681e72d806cebf873503c62011"), looks := true }, kinds := [], alts := [], laidByText := true, laidKinds := [.data, .data, .data, .data, .sentinel, .sentinel, .pinned], laidTests := true, laidLooks := .later }
def AddressAllEditionsUptoCardSaid : Prop := Claim7.holds Tryz.pinned (.plain (OpenSpec.upto addressAllEditionsSpec)) addressAllEditionsUptoCard

/-- THE SECOND FORM's CARD OF 'copydesklaw12.AddressAllOrder'. -/
def addressAllOrderUptoCard : Claim7 := { stood := { row := addressAllOrderUptoRow, standIns := [], harness := (true, "f162334dd48286d7735fc81a18d89f0e608178681e72d806cebf873503c62011"), looks := true }, kinds := [], alts := [], laidByText := true, laidKinds := [.data, .data, .data, .data, .sentinel, .sentinel, .pinned], laidTests := true, laidLooks := .later }
def AddressAllOrderUptoCardSaid : Prop := Claim7.holds Tryz.pinned (.plain (OpenSpec.upto addressAllOrderSpec)) addressAllOrderUptoCard

/-- THE SECOND FORM's CARD OF 'copydesklaw12.AddressAllGrows'. -/
def addressAllGrowsUptoCard : Claim7 := { stood := { row := addressAllGrowsUptoRow, standIns := [], harness := (true, "f162334dd48286d7735fc81a18d89f0e608178681e72d806cebf873503c62011"), looks := true }, kinds := [], alts := [], laidByText := true, laidKinds := [.data, .data, .data, .data, .sentinel, .sentinel, .pinned], laidTests := true, laidLooks := .later }
def AddressAllGrowsUptoCardSaid : Prop := Claim7.holds Tryz.pinned (.plain (OpenSpec.upto addressAllGrowsSpec)) addressAllGrowsUptoCard

/-- THE SECOND FORM's CARD OF 'copydesklaw12.AddressAllValid'. -/
def addressAllValidUptoCard : Claim7 := { stood := { row := addressAllValidUptoRow, standIns := [], harness := (true, "f162334dd48286d7735fc81a18d89f0e608178681e72d806cebf873503c62011"), looks := true }, kinds := [], alts := [], laidByText := true, laidKinds := [.data, .data, .data, .data, .sentinel, .sentinel, .pinned], laidTests := true, laidLooks := .later }
def AddressAllValidUptoCardSaid : Prop := Claim7.holds Tryz.pinned (.plain (OpenSpec.upto addressAllValidSpec)) addressAllValidUptoCard
end Rows
end Go.Proofs.YtkafbgdokgfjmaaGreatDoor
