/-
  No cell of these rows narrows 'for every input' (looked for: loops, veiled, ifaces, maps, wideKeys, modest, calm, conditions, laid).
  DERIVED. THE GIVEN ROWS OF THIS SEAT. 9 by the template 'for every input the law returns true; each argument reads behind the call as it read before'; 0 by the template 'total and deterministic' (their statements: YtgnclmmijijimaaTotals.lean).
  GIVEN WITH THE SEED: the statements are not yours to turn. If you find one false, say at which input.
  Laid BY PROGRAM, IN A SANDBOX (cutbox-rows.mjs): the forced cells as the released guide's own fill.sh prints them over the translation c651ff53f46221e1… (all of the seat's roots in one cut). By AI agents, Wed Nov 11 2026. No macro, syntax, notation, axiom, sorry.
-/
import Derived.Test.YtgnclmmijijimaaChecked
import GoSem.Claim
import GoSem.ClaimJoined
import GoSem.ClaimMapViews
import Derived.JoinedTies
import Derived.KernelRfl
namespace Go.Proofs.Ytgnclmmijijimaa
/- THE CELL 'sum', in the pinned program and in every row, IS THE sha256 OF THE DUMP (.gsa) THAT YtgnclmmijijimaaProg.lean LOADS. Nothing in Lean hashes anything: it is a label: what it is worth is what the hold of that sum in a sandbox is worth. -/
noncomputable def Try.pinned : Pinned := { name := "ytgnclmmijijimaa", sum := "c651ff53f46221e176d256e048e49c4f695d200cae2fc1a97354dc5f6fcf7419", checked := Try.checked }
namespace Rows
def none {H : Type} : Left H := { results := [], args := [] }

/-- 'copydesklaw08.QueryLatestMatchesReference': WHATEVER THE INPUT: true; the input reads as it did. -/
def queryLatestMatchesReferenceSpec : ChangeSpec := { name := "queryLatestMatchesReference", fn := fun _ => fun
  | [d1, d2, d3] => { results := [.lit (.bool true)], args := [d1, d2, d3] }
  | _ => none }
def queryLatestMatchesReferenceRow : OpenClaim := { program := "ytgnclmmijijimaa", sum := "c651ff53f46221e176d256e048e49c4f695d200cae2fc1a97354dc5f6fcf7419", func := "copydesk/copydesklaw08.QueryLatestMatchesReference", spec := "queryLatestMatchesReference", unfollowed := true, recurses := true, apart := false }
def QueryLatestMatchesReferenceSaid : Prop := queryLatestMatchesReferenceRow.holds Try.pinned (OpenSpec.ofChange queryLatestMatchesReferenceSpec)

/-- ITS FALSE NEIGHBOUR: 'it returns false'. Refute it at one input. -/
def queryLatestMatchesReferenceWrong : ChangeSpec := { name := "queryLatestMatchesReference", fn := fun _ => fun
  | [d1, d2, d3] => { results := [.lit (.bool false)], args := [d1, d2, d3] }
  | _ => none }
def QueryLatestMatchesReferenceWrongFalsely : Prop := queryLatestMatchesReferenceRow.holds Try.pinned (OpenSpec.ofChange queryLatestMatchesReferenceWrong)

/-- 'copydesklaw08.QueryPageMatchesReference': WHATEVER THE INPUT: true; the input reads as it did. -/
def queryPageMatchesReferenceSpec : ChangeSpec := { name := "queryPageMatchesReference", fn := fun _ => fun
  | [d1, d2, d3] => { results := [.lit (.bool true)], args := [d1, d2, d3] }
  | _ => none }
def queryPageMatchesReferenceRow : OpenClaim := { program := "ytgnclmmijijimaa", sum := "c651ff53f46221e176d256e048e49c4f695d200cae2fc1a97354dc5f6fcf7419", func := "copydesk/copydesklaw08.QueryPageMatchesReference", spec := "queryPageMatchesReference", unfollowed := true, recurses := true, apart := false }
def QueryPageMatchesReferenceSaid : Prop := queryPageMatchesReferenceRow.holds Try.pinned (OpenSpec.ofChange queryPageMatchesReferenceSpec)

/-- ITS FALSE NEIGHBOUR: 'it returns false'. Refute it at one input. -/
def queryPageMatchesReferenceWrong : ChangeSpec := { name := "queryPageMatchesReference", fn := fun _ => fun
  | [d1, d2, d3] => { results := [.lit (.bool false)], args := [d1, d2, d3] }
  | _ => none }
def QueryPageMatchesReferenceWrongFalsely : Prop := queryPageMatchesReferenceRow.holds Try.pinned (OpenSpec.ofChange queryPageMatchesReferenceWrong)

/-- 'copydesklaw08.QueryNamesMatchReference': WHATEVER THE INPUT: true; the input reads as it did. -/
def queryNamesMatchReferenceSpec : ChangeSpec := { name := "queryNamesMatchReference", fn := fun _ => fun
  | [d1, d2] => { results := [.lit (.bool true)], args := [d1, d2] }
  | _ => none }
def queryNamesMatchReferenceRow : OpenClaim := { program := "ytgnclmmijijimaa", sum := "c651ff53f46221e176d256e048e49c4f695d200cae2fc1a97354dc5f6fcf7419", func := "copydesk/copydesklaw08.QueryNamesMatchReference", spec := "queryNamesMatchReference", unfollowed := true, recurses := true, apart := false }
def QueryNamesMatchReferenceSaid : Prop := queryNamesMatchReferenceRow.holds Try.pinned (OpenSpec.ofChange queryNamesMatchReferenceSpec)

/-- ITS FALSE NEIGHBOUR: 'it returns false'. Refute it at one input. -/
def queryNamesMatchReferenceWrong : ChangeSpec := { name := "queryNamesMatchReference", fn := fun _ => fun
  | [d1, d2] => { results := [.lit (.bool false)], args := [d1, d2] }
  | _ => none }
def QueryNamesMatchReferenceWrongFalsely : Prop := queryNamesMatchReferenceRow.holds Try.pinned (OpenSpec.ofChange queryNamesMatchReferenceWrong)

/-- 'copydesklaw08.QueryRelatedMatchesReference': WHATEVER THE INPUT: true; the input reads as it did. -/
def queryRelatedMatchesReferenceSpec : ChangeSpec := { name := "queryRelatedMatchesReference", fn := fun _ => fun
  | [d1, d2, d3] => { results := [.lit (.bool true)], args := [d1, d2, d3] }
  | _ => none }
def queryRelatedMatchesReferenceRow : OpenClaim := { program := "ytgnclmmijijimaa", sum := "c651ff53f46221e176d256e048e49c4f695d200cae2fc1a97354dc5f6fcf7419", func := "copydesk/copydesklaw08.QueryRelatedMatchesReference", spec := "queryRelatedMatchesReference", unfollowed := true, recurses := true, apart := false }
def QueryRelatedMatchesReferenceSaid : Prop := queryRelatedMatchesReferenceRow.holds Try.pinned (OpenSpec.ofChange queryRelatedMatchesReferenceSpec)

/-- ITS FALSE NEIGHBOUR: 'it returns false'. Refute it at one input. -/
def queryRelatedMatchesReferenceWrong : ChangeSpec := { name := "queryRelatedMatchesReference", fn := fun _ => fun
  | [d1, d2, d3] => { results := [.lit (.bool false)], args := [d1, d2, d3] }
  | _ => none }
def QueryRelatedMatchesReferenceWrongFalsely : Prop := queryRelatedMatchesReferenceRow.holds Try.pinned (OpenSpec.ofChange queryRelatedMatchesReferenceWrong)

/-- 'copydesklaw08.QueryPagesAreAll': WHATEVER THE INPUT: true; the input reads as it did. -/
def queryPagesAreAllSpec : ChangeSpec := { name := "queryPagesAreAll", fn := fun _ => fun
  | [d1, d2, d3] => { results := [.lit (.bool true)], args := [d1, d2, d3] }
  | _ => none }
def queryPagesAreAllRow : OpenClaim := { program := "ytgnclmmijijimaa", sum := "c651ff53f46221e176d256e048e49c4f695d200cae2fc1a97354dc5f6fcf7419", func := "copydesk/copydesklaw08.QueryPagesAreAll", spec := "queryPagesAreAll", unfollowed := true, recurses := true, apart := false }
def QueryPagesAreAllSaid : Prop := queryPagesAreAllRow.holds Try.pinned (OpenSpec.ofChange queryPagesAreAllSpec)

/-- ITS FALSE NEIGHBOUR: 'it returns false'. Refute it at one input. -/
def queryPagesAreAllWrong : ChangeSpec := { name := "queryPagesAreAll", fn := fun _ => fun
  | [d1, d2, d3] => { results := [.lit (.bool false)], args := [d1, d2, d3] }
  | _ => none }
def QueryPagesAreAllWrongFalsely : Prop := queryPagesAreAllRow.holds Try.pinned (OpenSpec.ofChange queryPagesAreAllWrong)

/-- 'copydesklaw08.QueryPagesStable': WHATEVER THE INPUT: true; the input reads as it did. -/
def queryPagesStableSpec : ChangeSpec := { name := "queryPagesStable", fn := fun _ => fun
  | [d1, d2, d3, d4] => { results := [.lit (.bool true)], args := [d1, d2, d3, d4] }
  | _ => none }
def queryPagesStableRow : OpenClaim := { program := "ytgnclmmijijimaa", sum := "c651ff53f46221e176d256e048e49c4f695d200cae2fc1a97354dc5f6fcf7419", func := "copydesk/copydesklaw08.QueryPagesStable", spec := "queryPagesStable", unfollowed := true, recurses := true, apart := false }
def QueryPagesStableSaid : Prop := queryPagesStableRow.holds Try.pinned (OpenSpec.ofChange queryPagesStableSpec)

/-- ITS FALSE NEIGHBOUR: 'it returns false'. Refute it at one input. -/
def queryPagesStableWrong : ChangeSpec := { name := "queryPagesStable", fn := fun _ => fun
  | [d1, d2, d3, d4] => { results := [.lit (.bool false)], args := [d1, d2, d3, d4] }
  | _ => none }
def QueryPagesStableWrongFalsely : Prop := queryPagesStableRow.holds Try.pinned (OpenSpec.ofChange queryPagesStableWrong)

/-- 'copydesklaw08.QueryHidden': WHATEVER THE INPUT: true; the input reads as it did. -/
def queryHiddenSpec : ChangeSpec := { name := "queryHidden", fn := fun _ => fun
  | [d1, d2, d3, d4] => { results := [.lit (.bool true)], args := [d1, d2, d3, d4] }
  | _ => none }
def queryHiddenRow : OpenClaim := { program := "ytgnclmmijijimaa", sum := "c651ff53f46221e176d256e048e49c4f695d200cae2fc1a97354dc5f6fcf7419", func := "copydesk/copydesklaw08.QueryHidden", spec := "queryHidden", unfollowed := true, recurses := true, apart := false }
def QueryHiddenSaid : Prop := queryHiddenRow.holds Try.pinned (OpenSpec.ofChange queryHiddenSpec)

/-- ITS FALSE NEIGHBOUR: 'it returns false'. Refute it at one input. -/
def queryHiddenWrong : ChangeSpec := { name := "queryHidden", fn := fun _ => fun
  | [d1, d2, d3, d4] => { results := [.lit (.bool false)], args := [d1, d2, d3, d4] }
  | _ => none }
def QueryHiddenWrongFalsely : Prop := queryHiddenRow.holds Try.pinned (OpenSpec.ofChange queryHiddenWrong)

/-- 'copydesklaw08.QueryNames': WHATEVER THE INPUT: true; the input reads as it did. -/
def queryNamesSpec : ChangeSpec := { name := "queryNames", fn := fun _ => fun
  | [d] => { results := [.lit (.bool true)], args := [d] }
  | _ => none }
def queryNamesRow : OpenClaim := { program := "ytgnclmmijijimaa", sum := "c651ff53f46221e176d256e048e49c4f695d200cae2fc1a97354dc5f6fcf7419", func := "copydesk/copydesklaw08.QueryNames", spec := "queryNames", unfollowed := true, recurses := true, apart := false }
def QueryNamesSaid : Prop := queryNamesRow.holds Try.pinned (OpenSpec.ofChange queryNamesSpec)

/-- ITS FALSE NEIGHBOUR: 'it returns false'. Refute it at one input. -/
def queryNamesWrong : ChangeSpec := { name := "queryNames", fn := fun _ => fun
  | [d] => { results := [.lit (.bool false)], args := [d] }
  | _ => none }
def QueryNamesWrongFalsely : Prop := queryNamesRow.holds Try.pinned (OpenSpec.ofChange queryNamesWrong)

/-- 'copydesklaw08.QueryRelatedBothWays': WHATEVER THE INPUT: true; the input reads as it did. -/
def queryRelatedBothWaysSpec : ChangeSpec := { name := "queryRelatedBothWays", fn := fun _ => fun
  | [d1, d2] => { results := [.lit (.bool true)], args := [d1, d2] }
  | _ => none }
def queryRelatedBothWaysRow : OpenClaim := { program := "ytgnclmmijijimaa", sum := "c651ff53f46221e176d256e048e49c4f695d200cae2fc1a97354dc5f6fcf7419", func := "copydesk/copydesklaw08.QueryRelatedBothWays", spec := "queryRelatedBothWays", unfollowed := true, recurses := true, apart := false }
def QueryRelatedBothWaysSaid : Prop := queryRelatedBothWaysRow.holds Try.pinned (OpenSpec.ofChange queryRelatedBothWaysSpec)

/-- ITS FALSE NEIGHBOUR: 'it returns false'. Refute it at one input. -/
def queryRelatedBothWaysWrong : ChangeSpec := { name := "queryRelatedBothWays", fn := fun _ => fun
  | [d1, d2] => { results := [.lit (.bool false)], args := [d1, d2] }
  | _ => none }
def QueryRelatedBothWaysWrongFalsely : Prop := queryRelatedBothWaysRow.holds Try.pinned (OpenSpec.ofChange queryRelatedBothWaysWrong)

/- THE SECOND FORM. 'bulk': how many values and letters a reading holds, each counted each time it is reached (what is shared counts as often as it is met; a slice's spare places count too). A statement '..UptoSaid' is the law's where the arguments, and the package variables that the reading takes, are together of bulk at most 1048576: NARROWER than '..Said'. Prove '..Said' where nothing that the law and all that it calls make is longer than what came in: it says more and counts as full. Else prove '..UptoSaid'. A law counts once. -/
mutual
def uptoBulk {H : Type} : DataW H → Nat
  | .lit (.string bytes) => bytes.length + 1
  | .lit _ => 1
  | .nil => 1
  | .ptr d => uptoBulk d + 1
  | .slice elems spare => uptoBulkAll elems + uptoBulkAll spare + 1
  | .agg parts => uptoBulkAll parts + 1
  | .iface _ d => uptoBulk d + 1
  | .map entries => uptoBulkEntries entries + 1
  | .held _ => 1
def uptoBulkAll {H : Type} : List (DataW H) → Nat
  | [] => 0
  | d :: r => uptoBulk d + uptoBulkAll r
def uptoBulkEntries {H : Type} : List (Lit × DataW H) → Nat
  | [] => 0
  | x :: r => uptoBulkEntry x + uptoBulkEntries r
def uptoBulkEntry {H : Type} : Lit × DataW H → Nat
  | (.string bytes, d) => bytes.length + uptoBulk d + 1
  | (_, d) => uptoBulk d + 1
 end
def uptoSmall : (H : Type) → List (DataW H) → Bool := fun _ ds => decide (uptoBulkAll ds ≤ 1048576)
def OpenSpec.upto (s : _root_.Go.ChangeSpec) : _root_.Go.OpenSpec := { _root_.Go.OpenSpec.ofChange s with cond := some uptoSmall }

/-- 'copydesklaw08.QueryLatestMatchesReference', WHERE WHAT IT READS IS OF BULK AT MOST 1048576: true; the input reads as it did. -/
def queryLatestMatchesReferenceUptoRow : OpenClaim := { program := "ytgnclmmijijimaa", sum := "c651ff53f46221e176d256e048e49c4f695d200cae2fc1a97354dc5f6fcf7419", func := "copydesk/copydesklaw08.QueryLatestMatchesReference", spec := "queryLatestMatchesReference", unfollowed := true, recurses := true, apart := false, narrowed := true }
def QueryLatestMatchesReferenceUptoSaid : Prop := queryLatestMatchesReferenceUptoRow.holds Try.pinned (OpenSpec.upto queryLatestMatchesReferenceSpec)

/-- 'copydesklaw08.QueryPageMatchesReference', WHERE WHAT IT READS IS OF BULK AT MOST 1048576: true; the input reads as it did. -/
def queryPageMatchesReferenceUptoRow : OpenClaim := { program := "ytgnclmmijijimaa", sum := "c651ff53f46221e176d256e048e49c4f695d200cae2fc1a97354dc5f6fcf7419", func := "copydesk/copydesklaw08.QueryPageMatchesReference", spec := "queryPageMatchesReference", unfollowed := true, recurses := true, apart := false, narrowed := true }
def QueryPageMatchesReferenceUptoSaid : Prop := queryPageMatchesReferenceUptoRow.holds Try.pinned (OpenSpec.upto queryPageMatchesReferenceSpec)

/-- 'copydesklaw08.QueryNamesMatchReference', WHERE WHAT IT READS IS OF BULK AT MOST 1048576: true; the input reads as it did. -/
def queryNamesMatchReferenceUptoRow : OpenClaim := { program := "ytgnclmmijijimaa", sum := "c651ff53f46221e176d256e048e49c4f695d200cae2fc1a97354dc5f6fcf7419", func := "copydesk/copydesklaw08.QueryNamesMatchReference", spec := "queryNamesMatchReference", unfollowed := true, recurses := true, apart := false, narrowed := true }
def QueryNamesMatchReferenceUptoSaid : Prop := queryNamesMatchReferenceUptoRow.holds Try.pinned (OpenSpec.upto queryNamesMatchReferenceSpec)

/-- 'copydesklaw08.QueryRelatedMatchesReference', WHERE WHAT IT READS IS OF BULK AT MOST 1048576: true; the input reads as it did. -/
def queryRelatedMatchesReferenceUptoRow : OpenClaim := { program := "ytgnclmmijijimaa", sum := "c651ff53f46221e176d256e048e49c4f695d200cae2fc1a97354dc5f6fcf7419", func := "copydesk/copydesklaw08.QueryRelatedMatchesReference", spec := "queryRelatedMatchesReference", unfollowed := true, recurses := true, apart := false, narrowed := true }
def QueryRelatedMatchesReferenceUptoSaid : Prop := queryRelatedMatchesReferenceUptoRow.holds Try.pinned (OpenSpec.upto queryRelatedMatchesReferenceSpec)

/-- 'copydesklaw08.QueryPagesAreAll', WHERE WHAT IT READS IS OF BULK AT MOST 1048576: true; the input reads as it did. -/
def queryPagesAreAllUptoRow : OpenClaim := { program := "ytgnclmmijijimaa", sum := "c651ff53f46221e176d256e048e49c4f695d200cae2fc1a97354dc5f6fcf7419", func := "copydesk/copydesklaw08.QueryPagesAreAll", spec := "queryPagesAreAll", unfollowed := true, recurses := true, apart := false, narrowed := true }
def QueryPagesAreAllUptoSaid : Prop := queryPagesAreAllUptoRow.holds Try.pinned (OpenSpec.upto queryPagesAreAllSpec)

/-- 'copydesklaw08.QueryPagesStable', WHERE WHAT IT READS IS OF BULK AT MOST 1048576: true; the input reads as it did. -/
def queryPagesStableUptoRow : OpenClaim := { program := "ytgnclmmijijimaa", sum := "c651ff53f46221e176d256e048e49c4f695d200cae2fc1a97354dc5f6fcf7419", func := "copydesk/copydesklaw08.QueryPagesStable", spec := "queryPagesStable", unfollowed := true, recurses := true, apart := false, narrowed := true }
def QueryPagesStableUptoSaid : Prop := queryPagesStableUptoRow.holds Try.pinned (OpenSpec.upto queryPagesStableSpec)

/-- 'copydesklaw08.QueryHidden', WHERE WHAT IT READS IS OF BULK AT MOST 1048576: true; the input reads as it did. -/
def queryHiddenUptoRow : OpenClaim := { program := "ytgnclmmijijimaa", sum := "c651ff53f46221e176d256e048e49c4f695d200cae2fc1a97354dc5f6fcf7419", func := "copydesk/copydesklaw08.QueryHidden", spec := "queryHidden", unfollowed := true, recurses := true, apart := false, narrowed := true }
def QueryHiddenUptoSaid : Prop := queryHiddenUptoRow.holds Try.pinned (OpenSpec.upto queryHiddenSpec)

/-- 'copydesklaw08.QueryNames', WHERE WHAT IT READS IS OF BULK AT MOST 1048576: true; the input reads as it did. -/
def queryNamesUptoRow : OpenClaim := { program := "ytgnclmmijijimaa", sum := "c651ff53f46221e176d256e048e49c4f695d200cae2fc1a97354dc5f6fcf7419", func := "copydesk/copydesklaw08.QueryNames", spec := "queryNames", unfollowed := true, recurses := true, apart := false, narrowed := true }
def QueryNamesUptoSaid : Prop := queryNamesUptoRow.holds Try.pinned (OpenSpec.upto queryNamesSpec)

/-- 'copydesklaw08.QueryRelatedBothWays', WHERE WHAT IT READS IS OF BULK AT MOST 1048576: true; the input reads as it did. -/
def queryRelatedBothWaysUptoRow : OpenClaim := { program := "ytgnclmmijijimaa", sum := "c651ff53f46221e176d256e048e49c4f695d200cae2fc1a97354dc5f6fcf7419", func := "copydesk/copydesklaw08.QueryRelatedBothWays", spec := "queryRelatedBothWays", unfollowed := true, recurses := true, apart := false, narrowed := true }
def QueryRelatedBothWaysUptoSaid : Prop := queryRelatedBothWaysUptoRow.holds Try.pinned (OpenSpec.upto queryRelatedBothWaysSpec)

end Rows
end Go.Proofs.Ytgnclmmijijimaa
