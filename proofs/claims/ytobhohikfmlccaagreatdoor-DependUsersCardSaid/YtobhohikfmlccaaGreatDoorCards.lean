/-
  DERIVED. GIVEN WITH THE SEED: THE CARDS: each row of YtobhohikfmlccaaGreatDoorRows.lean that lists a variable, with what it lists TIED to the program's text (the seventh form; the later family's looks); each row that meets fmt, with fmt's text TOLD by the authors' own Lean function (tested against real Go, not proved from fmt's source: count such statements apart). THE CARD IS WHAT COUNTS. Prove the row's statement (the work); the ties are given (YtobhohikfmlccaaGreatDoorTie.lean); close each card by the builder's one call (the guide's Derived/Test/ToyasCard.lean, 'card_holds'). Laid BY PROGRAM, IN A SANDBOX (cutbox-door.mjs). By AI agents, Wed Nov 11 2026. No macro, syntax, notation, axiom, sorry.
-/
import Derived.Test.YtobhohikfmlccaaGreatDoorRows
import GoSem.ClaimSeven
namespace Go.Proofs.YtobhohikfmlccaaGreatDoor
namespace Rows

/-- THE TIED CARD OF 'copydesklaw13.RenderValueMatchesReference'. -/
def renderValueMatchesReferenceCard : Claim7 := { stood := { row := renderValueMatchesReferenceRow, standIns := [], harness := (true, "2573b62519722a0912d151be8d9d85c2dc880556c9daf474a1b042218805417a"), looks := true }, kinds := [], alts := [], laidByText := true, laidKinds := [.data, .data, .data, .data, .data, .sentinel, .sentinel, .pinned], laidTests := true, laidLooks := .later }
def RenderValueMatchesReferenceCardSaid : Prop := Claim7.holds Tryz.pinned (.plain (OpenSpec.ofChange renderValueMatchesReferenceSpec)) renderValueMatchesReferenceCard

/-- THE TIED CARD OF 'copydesklaw14.DependFreshSame'. -/
def dependFreshSameCard : Claim7 := { stood := { row := dependFreshSameRow, standIns := [], harness := (true, "2573b62519722a0912d151be8d9d85c2dc880556c9daf474a1b042218805417a"), looks := true }, kinds := [], alts := [], laidByText := true, laidKinds := [.data, .data, .data, .data, .data, .sentinel, .sentinel, .pinned], laidTests := true, laidLooks := .later }
def DependFreshSameCardSaid : Prop := Claim7.holds Tryz.pinned (.plain (OpenSpec.ofChange dependFreshSameSpec)) dependFreshSameCard

/-- THE TIED CARD OF 'copydesklaw14.DependRebuilt'. -/
def dependRebuiltCard : Claim7 := { stood := { row := dependRebuiltRow, standIns := [], harness := (true, "2573b62519722a0912d151be8d9d85c2dc880556c9daf474a1b042218805417a"), looks := true }, kinds := [], alts := [], laidByText := true, laidKinds := [.data, .data, .data, .data, .data, .sentinel, .sentinel, .pinned], laidTests := true, laidLooks := .later }
def DependRebuiltCardSaid : Prop := Claim7.holds Tryz.pinned (.plain (OpenSpec.ofChange dependRebuiltSpec)) dependRebuiltCard

/-- THE TIED CARD OF 'copydesklaw14.DependMinimal'. -/
def dependMinimalCard : Claim7 := { stood := { row := dependMinimalRow, standIns := [], harness := (true, "2573b62519722a0912d151be8d9d85c2dc880556c9daf474a1b042218805417a"), looks := true }, kinds := [], alts := [], laidByText := true, laidKinds := [.data, .data, .data, .data, .data, .sentinel, .sentinel, .pinned], laidTests := true, laidLooks := .later }
def DependMinimalCardSaid : Prop := Claim7.holds Tryz.pinned (.plain (OpenSpec.ofChange dependMinimalSpec)) dependMinimalCard

/-- THE TIED CARD OF 'copydesklaw14.DependUsers'. -/
def dependUsersCard : Claim7 := { stood := { row := dependUsersRow, standIns := [], harness := (true, "2573b62519722a0912d151be8d9d85c2dc880556c9daf474a1b042218805417a"), looks := true }, kinds := [], alts := [], laidByText := true, laidKinds := [.data, .data, .data, .data, .data, .sentinel, .sentinel, .pinned], laidTests := true, laidLooks := .later }
def DependUsersCardSaid : Prop := Claim7.holds Tryz.pinned (.plain (OpenSpec.ofChange dependUsersSpec)) dependUsersCard

/-- THE SECOND FORM's CARD OF 'copydesklaw13.RenderValueMatchesReference'. -/
def renderValueMatchesReferenceUptoCard : Claim7 := { stood := { row := renderValueMatchesReferenceUptoRow, standIns := [], harness := (true, "2573b62519722a0912d151be8d9d85c2dc880556c9daf474a1b042218805417a"), looks := true }, kinds := [], alts := [], laidByText := true, laidKinds := [.data, .data, .data, .data, .data, .sentinel, .sentinel, .pinned], laidTests := true, laidLooks := .later }
def RenderValueMatchesReferenceUptoCardSaid : Prop := Claim7.holds Tryz.pinned (.plain (OpenSpec.upto renderValueMatchesReferenceSpec)) renderValueMatchesReferenceUptoCard

/-- THE SECOND FORM's CARD OF 'copydesklaw14.DependFreshSame'. -/
def dependFreshSameUptoCard : Claim7 := { stood := { row := dependFreshSameUptoRow, standIns := [], harness := (true, "2573b62519722a0912d151be8d9d85c2dc880556c9daf474a1b042218805417a"), looks := true }, kinds := [], alts := [], laidByText := true, laidKinds := [.data, .data, .data, .data, .data, .sentinel, .sentinel, .pinned], laidTests := true, laidLooks := .later }
def DependFreshSameUptoCardSaid : Prop := Claim7.holds Tryz.pinned (.plain (OpenSpec.upto dependFreshSameSpec)) dependFreshSameUptoCard

/-- THE SECOND FORM's CARD OF 'copydesklaw14.DependRebuilt'. -/
def dependRebuiltUptoCard : Claim7 := { stood := { row := dependRebuiltUptoRow, standIns := [], harness := (true, "2573b62519722a0912d151be8d9d85c2dc880556c9daf474a1b042218805417a"), looks := true }, kinds := [], alts := [], laidByText := true, laidKinds := [.data, .data, .data, .data, .data, .sentinel, .sentinel, .pinned], laidTests := true, laidLooks := .later }
def DependRebuiltUptoCardSaid : Prop := Claim7.holds Tryz.pinned (.plain (OpenSpec.upto dependRebuiltSpec)) dependRebuiltUptoCard

/-- THE SECOND FORM's CARD OF 'copydesklaw14.DependMinimal'. -/
def dependMinimalUptoCard : Claim7 := { stood := { row := dependMinimalUptoRow, standIns := [], harness := (true, "2573b62519722a0912d151be8d9d85c2dc880556c9daf474a1b042218805417a"), looks := true }, kinds := [], alts := [], laidByText := true, laidKinds := [.data, .data, .data, .data, .data, .sentinel, .sentinel, .pinned], laidTests := true, laidLooks := .later }
def DependMinimalUptoCardSaid : Prop := Claim7.holds Tryz.pinned (.plain (OpenSpec.upto dependMinimalSpec)) dependMinimalUptoCard

/-- THE SECOND FORM's CARD OF 'copydesklaw14.DependUsers'. -/
def dependUsersUptoCard : Claim7 := { stood := { row := dependUsersUptoRow, standIns := [], harness := (true, "2573b62519722a0912d151be8d9d85c2dc880556c9daf474a1b042218805417a"), looks := true }, kinds := [], alts := [], laidByText := true, laidKinds := [.data, .data, .data, .data, .data, .sentinel, .sentinel, .pinned], laidTests := true, laidLooks := .later }
def DependUsersUptoCardSaid : Prop := Claim7.holds Tryz.pinned (.plain (OpenSpec.upto dependUsersSpec)) dependUsersUptoCard
end Rows
end Go.Proofs.YtobhohikfmlccaaGreatDoor
