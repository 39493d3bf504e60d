/-
  No cell of these rows narrows 'for every input' (looked for: loops, veiled, ifaces, maps, wideKeys, modest, calm, conditions, laid).
  DERIVED. THE GIVEN ROWS OF THIS SEAT. 6 by the template 'for every input the law returns true; each argument reads behind the call as it read before'; 0 by the template 'total and deterministic' (their statements: YtibdijaacolhkaaTotals.lean).
  GIVEN WITH THE SEED: the statements are not yours to turn. If you find one false, say at which input.
  Laid BY PROGRAM, IN A SANDBOX (cutbox-rows.mjs): the forced cells as the released guide's own fill.sh prints them over the translation 81bd315743536c05… (all of the seat's roots in one cut). By AI agents, Wed Nov 11 2026. No macro, syntax, notation, axiom, sorry.
-/
import Derived.Test.YtibdijaacolhkaaChecked
import GoSem.Claim
import GoSem.ClaimJoined
import GoSem.ClaimMapViews
import Derived.JoinedTies
import Derived.KernelRfl
namespace Go.Proofs.Ytibdijaacolhkaa
/- THE CELL 'sum', in the pinned program and in every row, IS THE sha256 OF THE DUMP (.gsa) THAT YtibdijaacolhkaaProg.lean LOADS. Nothing in Lean hashes anything: it is a label: what it is worth is what the hold of that sum in a sandbox is worth. -/
noncomputable def Try.pinned : Pinned := { name := "ytibdijaacolhkaa", sum := "81bd315743536c057225c28e9d0f3d798e9d709818aaf4b8248eee4b5d11652f", checked := Try.checked }
namespace Rows
def none {H : Type} : Left H := { results := [], args := [] }

/-- 'copydesklaw09.LexerMatchesReference': WHATEVER THE INPUT: true; the input reads as it did. -/
def lexerMatchesReferenceSpec : ChangeSpec := { name := "lexerMatchesReference", fn := fun _ => fun
  | [d] => { results := [.lit (.bool true)], args := [d] }
  | _ => none }
def lexerMatchesReferenceRow : OpenClaim := { program := "ytibdijaacolhkaa", sum := "81bd315743536c057225c28e9d0f3d798e9d709818aaf4b8248eee4b5d11652f", func := "copydesk/copydesklaw09.LexerMatchesReference", spec := "lexerMatchesReference", unfollowed := true, recurses := true, apart := false }
def LexerMatchesReferenceSaid : Prop := lexerMatchesReferenceRow.holds Try.pinned (OpenSpec.ofChange lexerMatchesReferenceSpec)

/-- ITS FALSE NEIGHBOUR: 'it returns false'. Refute it at one input. -/
def lexerMatchesReferenceWrong : ChangeSpec := { name := "lexerMatchesReference", fn := fun _ => fun
  | [d] => { results := [.lit (.bool false)], args := [d] }
  | _ => none }
def LexerMatchesReferenceWrongFalsely : Prop := lexerMatchesReferenceRow.holds Try.pinned (OpenSpec.ofChange lexerMatchesReferenceWrong)

/-- 'copydesklaw09.LexerRoundTrip': WHATEVER THE INPUT: true; the input reads as it did. -/
def lexerRoundTripSpec : ChangeSpec := { name := "lexerRoundTrip", fn := fun _ => fun
  | [d1, d2, d3, d4] => { results := [.lit (.bool true)], args := [d1, d2, d3, d4] }
  | _ => none }
def lexerRoundTripRow : OpenClaim := { program := "ytibdijaacolhkaa", sum := "81bd315743536c057225c28e9d0f3d798e9d709818aaf4b8248eee4b5d11652f", func := "copydesk/copydesklaw09.LexerRoundTrip", spec := "lexerRoundTrip", unfollowed := true, recurses := true, apart := false }
def LexerRoundTripSaid : Prop := lexerRoundTripRow.holds Try.pinned (OpenSpec.ofChange lexerRoundTripSpec)

/-- ITS FALSE NEIGHBOUR: 'it returns false'. Refute it at one input. -/
def lexerRoundTripWrong : ChangeSpec := { name := "lexerRoundTrip", fn := fun _ => fun
  | [d1, d2, d3, d4] => { results := [.lit (.bool false)], args := [d1, d2, d3, d4] }
  | _ => none }
def LexerRoundTripWrongFalsely : Prop := lexerRoundTripRow.holds Try.pinned (OpenSpec.ofChange lexerRoundTripWrong)

/-- 'copydesklaw09.LexerJoins': WHATEVER THE INPUT: true; the input reads as it did. -/
def lexerJoinsSpec : ChangeSpec := { name := "lexerJoins", fn := fun _ => fun
  | [d1, d2] => { results := [.lit (.bool true)], args := [d1, d2] }
  | _ => none }
def lexerJoinsRow : OpenClaim := { program := "ytibdijaacolhkaa", sum := "81bd315743536c057225c28e9d0f3d798e9d709818aaf4b8248eee4b5d11652f", func := "copydesk/copydesklaw09.LexerJoins", spec := "lexerJoins", unfollowed := true, recurses := true, apart := false }
def LexerJoinsSaid : Prop := lexerJoinsRow.holds Try.pinned (OpenSpec.ofChange lexerJoinsSpec)

/-- ITS FALSE NEIGHBOUR: 'it returns false'. Refute it at one input. -/
def lexerJoinsWrong : ChangeSpec := { name := "lexerJoins", fn := fun _ => fun
  | [d1, d2] => { results := [.lit (.bool false)], args := [d1, d2] }
  | _ => none }
def LexerJoinsWrongFalsely : Prop := lexerJoinsRow.holds Try.pinned (OpenSpec.ofChange lexerJoinsWrong)

/-- 'copydesklaw09.LexerText': WHATEVER THE INPUT: true; the input reads as it did. -/
def lexerTextSpec : ChangeSpec := { name := "lexerText", fn := fun _ => fun
  | [d] => { results := [.lit (.bool true)], args := [d] }
  | _ => none }
def lexerTextRow : OpenClaim := { program := "ytibdijaacolhkaa", sum := "81bd315743536c057225c28e9d0f3d798e9d709818aaf4b8248eee4b5d11652f", func := "copydesk/copydesklaw09.LexerText", spec := "lexerText", unfollowed := true, recurses := true, apart := false }
def LexerTextSaid : Prop := lexerTextRow.holds Try.pinned (OpenSpec.ofChange lexerTextSpec)

/-- ITS FALSE NEIGHBOUR: 'it returns false'. Refute it at one input. -/
def lexerTextWrong : ChangeSpec := { name := "lexerText", fn := fun _ => fun
  | [d] => { results := [.lit (.bool false)], args := [d] }
  | _ => none }
def LexerTextWrongFalsely : Prop := lexerTextRow.holds Try.pinned (OpenSpec.ofChange lexerTextWrong)

/-- 'copydesklaw09.LexerOffsets': WHATEVER THE INPUT: true; the input reads as it did. -/
def lexerOffsetsSpec : ChangeSpec := { name := "lexerOffsets", fn := fun _ => fun
  | [d] => { results := [.lit (.bool true)], args := [d] }
  | _ => none }
def lexerOffsetsRow : OpenClaim := { program := "ytibdijaacolhkaa", sum := "81bd315743536c057225c28e9d0f3d798e9d709818aaf4b8248eee4b5d11652f", func := "copydesk/copydesklaw09.LexerOffsets", spec := "lexerOffsets", unfollowed := true, recurses := true, apart := false }
def LexerOffsetsSaid : Prop := lexerOffsetsRow.holds Try.pinned (OpenSpec.ofChange lexerOffsetsSpec)

/-- ITS FALSE NEIGHBOUR: 'it returns false'. Refute it at one input. -/
def lexerOffsetsWrong : ChangeSpec := { name := "lexerOffsets", fn := fun _ => fun
  | [d] => { results := [.lit (.bool false)], args := [d] }
  | _ => none }
def LexerOffsetsWrongFalsely : Prop := lexerOffsetsRow.holds Try.pinned (OpenSpec.ofChange lexerOffsetsWrong)

/-- 'copydesklaw09.LexerErrors': WHATEVER THE INPUT: true; the input reads as it did. -/
def lexerErrorsSpec : ChangeSpec := { name := "lexerErrors", fn := fun _ => fun
  | [d1, d2, d3] => { results := [.lit (.bool true)], args := [d1, d2, d3] }
  | _ => none }
def lexerErrorsRow : OpenClaim := { program := "ytibdijaacolhkaa", sum := "81bd315743536c057225c28e9d0f3d798e9d709818aaf4b8248eee4b5d11652f", func := "copydesk/copydesklaw09.LexerErrors", spec := "lexerErrors", unfollowed := true, recurses := true, apart := false }
def LexerErrorsSaid : Prop := lexerErrorsRow.holds Try.pinned (OpenSpec.ofChange lexerErrorsSpec)

/-- ITS FALSE NEIGHBOUR: 'it returns false'. Refute it at one input. -/
def lexerErrorsWrong : ChangeSpec := { name := "lexerErrors", fn := fun _ => fun
  | [d1, d2, d3] => { results := [.lit (.bool false)], args := [d1, d2, d3] }
  | _ => none }
def LexerErrorsWrongFalsely : Prop := lexerErrorsRow.holds Try.pinned (OpenSpec.ofChange lexerErrorsWrong)

/- THE SECOND FORM. 'bulk': how many values and letters a reading holds, each counted each time it is reached (what is shared counts as often as it is met; a slice's spare places count too). A statement '..UptoSaid' is the law's where the arguments, and the package variables that the reading takes, are together of bulk at most 1048576: NARROWER than '..Said'. Prove '..Said' where nothing that the law and all that it calls make is longer than what came in: it says more and counts as full. Else prove '..UptoSaid'. A law counts once. -/
mutual
def uptoBulk {H : Type} : DataW H → Nat
  | .lit (.string bytes) => bytes.length + 1
  | .lit _ => 1
  | .nil => 1
  | .ptr d => uptoBulk d + 1
  | .slice elems spare => uptoBulkAll elems + uptoBulkAll spare + 1
  | .agg parts => uptoBulkAll parts + 1
  | .iface _ d => uptoBulk d + 1
  | .map entries => uptoBulkEntries entries + 1
  | .held _ => 1
def uptoBulkAll {H : Type} : List (DataW H) → Nat
  | [] => 0
  | d :: r => uptoBulk d + uptoBulkAll r
def uptoBulkEntries {H : Type} : List (Lit × DataW H) → Nat
  | [] => 0
  | x :: r => uptoBulkEntry x + uptoBulkEntries r
def uptoBulkEntry {H : Type} : Lit × DataW H → Nat
  | (.string bytes, d) => bytes.length + uptoBulk d + 1
  | (_, d) => uptoBulk d + 1
 end
def uptoSmall : (H : Type) → List (DataW H) → Bool := fun _ ds => decide (uptoBulkAll ds ≤ 1048576)
def OpenSpec.upto (s : _root_.Go.ChangeSpec) : _root_.Go.OpenSpec := { _root_.Go.OpenSpec.ofChange s with cond := some uptoSmall }

/-- 'copydesklaw09.LexerMatchesReference', WHERE WHAT IT READS IS OF BULK AT MOST 1048576: true; the input reads as it did. -/
def lexerMatchesReferenceUptoRow : OpenClaim := { program := "ytibdijaacolhkaa", sum := "81bd315743536c057225c28e9d0f3d798e9d709818aaf4b8248eee4b5d11652f", func := "copydesk/copydesklaw09.LexerMatchesReference", spec := "lexerMatchesReference", unfollowed := true, recurses := true, apart := false, narrowed := true }
def LexerMatchesReferenceUptoSaid : Prop := lexerMatchesReferenceUptoRow.holds Try.pinned (OpenSpec.upto lexerMatchesReferenceSpec)

/-- 'copydesklaw09.LexerRoundTrip', WHERE WHAT IT READS IS OF BULK AT MOST 1048576: true; the input reads as it did. -/
def lexerRoundTripUptoRow : OpenClaim := { program := "ytibdijaacolhkaa", sum := "81bd315743536c057225c28e9d0f3d798e9d709818aaf4b8248eee4b5d11652f", func := "copydesk/copydesklaw09.LexerRoundTrip", spec := "lexerRoundTrip", unfollowed := true, recurses := true, apart := false, narrowed := true }
def LexerRoundTripUptoSaid : Prop := lexerRoundTripUptoRow.holds Try.pinned (OpenSpec.upto lexerRoundTripSpec)

/-- 'copydesklaw09.LexerJoins', WHERE WHAT IT READS IS OF BULK AT MOST 1048576: true; the input reads as it did. -/
def lexerJoinsUptoRow : OpenClaim := { program := "ytibdijaacolhkaa", sum := "81bd315743536c057225c28e9d0f3d798e9d709818aaf4b8248eee4b5d11652f", func := "copydesk/copydesklaw09.LexerJoins", spec := "lexerJoins", unfollowed := true, recurses := true, apart := false, narrowed := true }
def LexerJoinsUptoSaid : Prop := lexerJoinsUptoRow.holds Try.pinned (OpenSpec.upto lexerJoinsSpec)

/-- 'copydesklaw09.LexerText', WHERE WHAT IT READS IS OF BULK AT MOST 1048576: true; the input reads as it did. -/
def lexerTextUptoRow : OpenClaim := { program := "ytibdijaacolhkaa", sum := "81bd315743536c057225c28e9d0f3d798e9d709818aaf4b8248eee4b5d11652f", func := "copydesk/copydesklaw09.LexerText", spec := "lexerText", unfollowed := true, recurses := true, apart := false, narrowed := true }
def LexerTextUptoSaid : Prop := lexerTextUptoRow.holds Try.pinned (OpenSpec.upto lexerTextSpec)

/-- 'copydesklaw09.LexerOffsets', WHERE WHAT IT READS IS OF BULK AT MOST 1048576: true; the input reads as it did. -/
def lexerOffsetsUptoRow : OpenClaim := { program := "ytibdijaacolhkaa", sum := "81bd315743536c057225c28e9d0f3d798e9d709818aaf4b8248eee4b5d11652f", func := "copydesk/copydesklaw09.LexerOffsets", spec := "lexerOffsets", unfollowed := true, recurses := true, apart := false, narrowed := true }
def LexerOffsetsUptoSaid : Prop := lexerOffsetsUptoRow.holds Try.pinned (OpenSpec.upto lexerOffsetsSpec)

/-- 'copydesklaw09.LexerErrors', WHERE WHAT IT READS IS OF BULK AT MOST 1048576: true; the input reads as it did. -/
def lexerErrorsUptoRow : OpenClaim := { program := "ytibdijaacolhkaa", sum := "81bd315743536c057225c28e9d0f3d798e9d709818aaf4b8248eee4b5d11652f", func := "copydesk/copydesklaw09.LexerErrors", spec := "lexerErrors", unfollowed := true, recurses := true, apart := false, narrowed := true }
def LexerErrorsUptoSaid : Prop := lexerErrorsUptoRow.holds Try.pinned (OpenSpec.upto lexerErrorsSpec)

end Rows
end Go.Proofs.Ytibdijaacolhkaa
