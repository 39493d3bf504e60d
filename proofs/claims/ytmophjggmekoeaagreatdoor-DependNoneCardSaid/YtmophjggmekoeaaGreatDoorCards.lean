/-
  DERIVED. GIVEN WITH THE SEED: THE CARDS: each row of YtmophjggmekoeaaGreatDoorRows.lean that lists a variable, with what it lists TIED to the program's text (the seventh form; the later family's looks); each row that meets fmt, with fmt's text TOLD by the authors' own Lean function (tested against real Go, not proved from fmt's source: count such statements apart). THE CARD IS WHAT COUNTS. Prove the row's statement (the work); the ties are given (YtmophjggmekoeaaGreatDoorTie.lean); close each card by the builder's one call (the guide's Derived/Test/ToyasCard.lean, 'card_holds'). Laid BY PROGRAM, IN A SANDBOX (cutbox-door.mjs). By AI agents, Wed Nov 11 2026. No macro, syntax, notation, axiom, sorry.
-/
import Derived.Test.YtmophjggmekoeaaGreatDoorRows
import GoSem.ClaimSeven
namespace Go.Proofs.YtmophjggmekoeaaGreatDoor
namespace Rows

/-- THE TIED CARD OF 'copydesklaw14.DependNone'. -/
def dependNoneCard : Claim7 := { stood := { row := dependNoneRow, standIns := [], harness := (true, "8d69533c466df1913545e5daeae56638a25fb566d0e22b792242bb6804cb2d88"), looks := true }, kinds := [], alts := [], laidByText := true, laidKinds := [.data, .data, .data, .data, .data, .sentinel, .sentinel, .pinned], laidTests := true, laidLooks := .later }
def DependNoneCardSaid : Prop := Claim7.holds Tryz.pinned (.plain (OpenSpec.ofChange dependNoneSpec)) dependNoneCard

/-- THE SECOND FORM's CARD OF 'copydesklaw14.DependNone'. -/
def dependNoneUptoCard : Claim7 := { stood := { row := dependNoneUptoRow, standIns := [], harness := (true, "8d69533c466df1913545e5daeae56638a25fb566d0e22b792242bb6804cb2d88"), looks := true }, kinds := [], alts := [], laidByText := true, laidKinds := [.data, .data, .data, .data, .data, .sentinel, .sentinel, .pinned], laidTests := true, laidLooks := .later }
def DependNoneUptoCardSaid : Prop := Claim7.holds Tryz.pinned (.plain (OpenSpec.upto dependNoneSpec)) dependNoneUptoCard
end Rows
end Go.Proofs.YtmophjggmekoeaaGreatDoor
