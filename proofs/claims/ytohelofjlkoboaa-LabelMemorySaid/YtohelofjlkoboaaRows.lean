/-
  No cell of these rows narrows 'for every input' (looked for: loops, veiled, ifaces, maps, wideKeys, modest, calm, conditions, laid).
  DERIVED. THE GIVEN ROWS OF THIS SEAT. 10 by the template 'for every input the law returns true; each argument reads behind the call as it read before'; 0 by the template 'total and deterministic' (their statements: YtohelofjlkoboaaTotals.lean).
  GIVEN WITH THE SEED: the statements are not yours to turn. If you find one false, say at which input.
  Laid BY PROGRAM, IN A SANDBOX (cutbox-rows.mjs): the forced cells as the released guide's own fill.sh prints them over the translation dcc5f0e589bb17e9… (all of the seat's roots in one cut). By AI agents, Wed Nov 11 2026. No macro, syntax, notation, axiom, sorry.
-/
import Derived.Test.YtohelofjlkoboaaChecked
import GoSem.Claim
import GoSem.ClaimJoined
import GoSem.ClaimMapViews
import Derived.JoinedTies
import Derived.KernelRfl
namespace Go.Proofs.Ytohelofjlkoboaa
/- THE CELL 'sum', in the pinned program and in every row, IS THE sha256 OF THE DUMP (.gsa) THAT YtohelofjlkoboaaProg.lean LOADS. Nothing in Lean hashes anything: it is a label: what it is worth is what the hold of that sum in a sandbox is worth. -/
noncomputable def Try.pinned : Pinned := { name := "ytohelofjlkoboaa", sum := "dcc5f0e589bb17e91bf107c1ed7839c3789269b868e9fbd521489059253bdb5a", checked := Try.checked }
namespace Rows
def none {H : Type} : Left H := { results := [], args := [] }

/-- 'copydesklaw02.LabelMatchesReference': WHATEVER THE INPUT: true; the input reads as it did. -/
def labelMatchesReferenceSpec : ChangeSpec := { name := "labelMatchesReference", fn := fun _ => fun
  | [d1, d2, d3] => { results := [.lit (.bool true)], args := [d1, d2, d3] }
  | _ => none }
def labelMatchesReferenceRow : OpenClaim := { program := "ytohelofjlkoboaa", sum := "dcc5f0e589bb17e91bf107c1ed7839c3789269b868e9fbd521489059253bdb5a", func := "copydesk/copydesklaw02.LabelMatchesReference", spec := "labelMatchesReference", recurses := true, apart := false }
def LabelMatchesReferenceSaid : Prop := labelMatchesReferenceRow.holds Try.pinned (OpenSpec.ofChange labelMatchesReferenceSpec)

/-- ITS FALSE NEIGHBOUR: 'it returns false'. Refute it at one input. -/
def labelMatchesReferenceWrong : ChangeSpec := { name := "labelMatchesReference", fn := fun _ => fun
  | [d1, d2, d3] => { results := [.lit (.bool false)], args := [d1, d2, d3] }
  | _ => none }
def LabelMatchesReferenceWrongFalsely : Prop := labelMatchesReferenceRow.holds Try.pinned (OpenSpec.ofChange labelMatchesReferenceWrong)

/-- 'copydesklaw02.LabelAllowsMatchesReference': WHATEVER THE INPUT: true; the input reads as it did. -/
def labelAllowsMatchesReferenceSpec : ChangeSpec := { name := "labelAllowsMatchesReference", fn := fun _ => fun
  | [d1, d2, d3] => { results := [.lit (.bool true)], args := [d1, d2, d3] }
  | _ => none }
def labelAllowsMatchesReferenceRow : OpenClaim := { program := "ytohelofjlkoboaa", sum := "dcc5f0e589bb17e91bf107c1ed7839c3789269b868e9fbd521489059253bdb5a", func := "copydesk/copydesklaw02.LabelAllowsMatchesReference", spec := "labelAllowsMatchesReference", recurses := true, apart := false }
def LabelAllowsMatchesReferenceSaid : Prop := labelAllowsMatchesReferenceRow.holds Try.pinned (OpenSpec.ofChange labelAllowsMatchesReferenceSpec)

/-- ITS FALSE NEIGHBOUR: 'it returns false'. Refute it at one input. -/
def labelAllowsMatchesReferenceWrong : ChangeSpec := { name := "labelAllowsMatchesReference", fn := fun _ => fun
  | [d1, d2, d3] => { results := [.lit (.bool false)], args := [d1, d2, d3] }
  | _ => none }
def LabelAllowsMatchesReferenceWrongFalsely : Prop := labelAllowsMatchesReferenceRow.holds Try.pinned (OpenSpec.ofChange labelAllowsMatchesReferenceWrong)

/-- 'copydesklaw02.LabelJoinLaws': WHATEVER THE INPUT: true; the input reads as it did. -/
def labelJoinLawsSpec : ChangeSpec := { name := "labelJoinLaws", fn := fun _ => fun
  | [d1, d2, d3] => { results := [.lit (.bool true)], args := [d1, d2, d3] }
  | _ => none }
def labelJoinLawsRow : OpenClaim := { program := "ytohelofjlkoboaa", sum := "dcc5f0e589bb17e91bf107c1ed7839c3789269b868e9fbd521489059253bdb5a", func := "copydesk/copydesklaw02.LabelJoinLaws", spec := "labelJoinLaws", recurses := true, apart := false }
def LabelJoinLawsSaid : Prop := labelJoinLawsRow.holds Try.pinned (OpenSpec.ofChange labelJoinLawsSpec)

/-- ITS FALSE NEIGHBOUR: 'it returns false'. Refute it at one input. -/
def labelJoinLawsWrong : ChangeSpec := { name := "labelJoinLaws", fn := fun _ => fun
  | [d1, d2, d3] => { results := [.lit (.bool false)], args := [d1, d2, d3] }
  | _ => none }
def LabelJoinLawsWrongFalsely : Prop := labelJoinLawsRow.holds Try.pinned (OpenSpec.ofChange labelJoinLawsWrong)

/-- 'copydesklaw02.LabelOrder': WHATEVER THE INPUT: true; the input reads as it did. -/
def labelOrderSpec : ChangeSpec := { name := "labelOrder", fn := fun _ => fun
  | [d1, d2, d3] => { results := [.lit (.bool true)], args := [d1, d2, d3] }
  | _ => none }
def labelOrderRow : OpenClaim := { program := "ytohelofjlkoboaa", sum := "dcc5f0e589bb17e91bf107c1ed7839c3789269b868e9fbd521489059253bdb5a", func := "copydesk/copydesklaw02.LabelOrder", spec := "labelOrder", recurses := true, apart := false }
def LabelOrderSaid : Prop := labelOrderRow.holds Try.pinned (OpenSpec.ofChange labelOrderSpec)

/-- ITS FALSE NEIGHBOUR: 'it returns false'. Refute it at one input. -/
def labelOrderWrong : ChangeSpec := { name := "labelOrder", fn := fun _ => fun
  | [d1, d2, d3] => { results := [.lit (.bool false)], args := [d1, d2, d3] }
  | _ => none }
def LabelOrderWrongFalsely : Prop := labelOrderRow.holds Try.pinned (OpenSpec.ofChange labelOrderWrong)

/-- 'copydesklaw02.LabelLeastUpperBound': WHATEVER THE INPUT: true; the input reads as it did. -/
def labelLeastUpperBoundSpec : ChangeSpec := { name := "labelLeastUpperBound", fn := fun _ => fun
  | [d1, d2, d3] => { results := [.lit (.bool true)], args := [d1, d2, d3] }
  | _ => none }
def labelLeastUpperBoundRow : OpenClaim := { program := "ytohelofjlkoboaa", sum := "dcc5f0e589bb17e91bf107c1ed7839c3789269b868e9fbd521489059253bdb5a", func := "copydesk/copydesklaw02.LabelLeastUpperBound", spec := "labelLeastUpperBound", recurses := true, apart := false }
def LabelLeastUpperBoundSaid : Prop := labelLeastUpperBoundRow.holds Try.pinned (OpenSpec.ofChange labelLeastUpperBoundSpec)

/-- ITS FALSE NEIGHBOUR: 'it returns false'. Refute it at one input. -/
def labelLeastUpperBoundWrong : ChangeSpec := { name := "labelLeastUpperBound", fn := fun _ => fun
  | [d1, d2, d3] => { results := [.lit (.bool false)], args := [d1, d2, d3] }
  | _ => none }
def LabelLeastUpperBoundWrongFalsely : Prop := labelLeastUpperBoundRow.holds Try.pinned (OpenSpec.ofChange labelLeastUpperBoundWrong)

/-- 'copydesklaw02.LabelJoinAllows': WHATEVER THE INPUT: true; the input reads as it did. -/
def labelJoinAllowsSpec : ChangeSpec := { name := "labelJoinAllows", fn := fun _ => fun
  | [d1, d2, d3] => { results := [.lit (.bool true)], args := [d1, d2, d3] }
  | _ => none }
def labelJoinAllowsRow : OpenClaim := { program := "ytohelofjlkoboaa", sum := "dcc5f0e589bb17e91bf107c1ed7839c3789269b868e9fbd521489059253bdb5a", func := "copydesk/copydesklaw02.LabelJoinAllows", spec := "labelJoinAllows", recurses := true, apart := false }
def LabelJoinAllowsSaid : Prop := labelJoinAllowsRow.holds Try.pinned (OpenSpec.ofChange labelJoinAllowsSpec)

/-- ITS FALSE NEIGHBOUR: 'it returns false'. Refute it at one input. -/
def labelJoinAllowsWrong : ChangeSpec := { name := "labelJoinAllows", fn := fun _ => fun
  | [d1, d2, d3] => { results := [.lit (.bool false)], args := [d1, d2, d3] }
  | _ => none }
def LabelJoinAllowsWrongFalsely : Prop := labelJoinAllowsRow.holds Try.pinned (OpenSpec.ofChange labelJoinAllowsWrong)

/-- 'copydesklaw02.LabelMonotone': WHATEVER THE INPUT: true; the input reads as it did. -/
def labelMonotoneSpec : ChangeSpec := { name := "labelMonotone", fn := fun _ => fun
  | [d1, d2, d3] => { results := [.lit (.bool true)], args := [d1, d2, d3] }
  | _ => none }
def labelMonotoneRow : OpenClaim := { program := "ytohelofjlkoboaa", sum := "dcc5f0e589bb17e91bf107c1ed7839c3789269b868e9fbd521489059253bdb5a", func := "copydesk/copydesklaw02.LabelMonotone", spec := "labelMonotone", recurses := true, apart := false }
def LabelMonotoneSaid : Prop := labelMonotoneRow.holds Try.pinned (OpenSpec.ofChange labelMonotoneSpec)

/-- ITS FALSE NEIGHBOUR: 'it returns false'. Refute it at one input. -/
def labelMonotoneWrong : ChangeSpec := { name := "labelMonotone", fn := fun _ => fun
  | [d1, d2, d3] => { results := [.lit (.bool false)], args := [d1, d2, d3] }
  | _ => none }
def LabelMonotoneWrongFalsely : Prop := labelMonotoneRow.holds Try.pinned (OpenSpec.ofChange labelMonotoneWrong)

/-- 'copydesklaw02.LabelConditions': WHATEVER THE INPUT: true; the input reads as it did. -/
def labelConditionsSpec : ChangeSpec := { name := "labelConditions", fn := fun _ => fun
  | [d1, d2] => { results := [.lit (.bool true)], args := [d1, d2] }
  | _ => none }
def labelConditionsRow : OpenClaim := { program := "ytohelofjlkoboaa", sum := "dcc5f0e589bb17e91bf107c1ed7839c3789269b868e9fbd521489059253bdb5a", func := "copydesk/copydesklaw02.LabelConditions", spec := "labelConditions", recurses := true, apart := false }
def LabelConditionsSaid : Prop := labelConditionsRow.holds Try.pinned (OpenSpec.ofChange labelConditionsSpec)

/-- ITS FALSE NEIGHBOUR: 'it returns false'. Refute it at one input. -/
def labelConditionsWrong : ChangeSpec := { name := "labelConditions", fn := fun _ => fun
  | [d1, d2] => { results := [.lit (.bool false)], args := [d1, d2] }
  | _ => none }
def LabelConditionsWrongFalsely : Prop := labelConditionsRow.holds Try.pinned (OpenSpec.ofChange labelConditionsWrong)

/-- 'copydesklaw02.LabelBounds': WHATEVER THE INPUT: true; the input reads as it did. -/
def labelBoundsSpec : ChangeSpec := { name := "labelBounds", fn := fun _ => fun
  | [d1, d2, d3] => { results := [.lit (.bool true)], args := [d1, d2, d3] }
  | _ => none }
def labelBoundsRow : OpenClaim := { program := "ytohelofjlkoboaa", sum := "dcc5f0e589bb17e91bf107c1ed7839c3789269b868e9fbd521489059253bdb5a", func := "copydesk/copydesklaw02.LabelBounds", spec := "labelBounds", recurses := true, apart := false }
def LabelBoundsSaid : Prop := labelBoundsRow.holds Try.pinned (OpenSpec.ofChange labelBoundsSpec)

/-- ITS FALSE NEIGHBOUR: 'it returns false'. Refute it at one input. -/
def labelBoundsWrong : ChangeSpec := { name := "labelBounds", fn := fun _ => fun
  | [d1, d2, d3] => { results := [.lit (.bool false)], args := [d1, d2, d3] }
  | _ => none }
def LabelBoundsWrongFalsely : Prop := labelBoundsRow.holds Try.pinned (OpenSpec.ofChange labelBoundsWrong)

/-- 'copydesklaw02.LabelMemory': WHATEVER THE INPUT: true; the input reads as it did. -/
def labelMemorySpec : ChangeSpec := { name := "labelMemory", fn := fun _ => fun
  | [d1, d2] => { results := [.lit (.bool true)], args := [d1, d2] }
  | _ => none }
def labelMemoryRow : OpenClaim := { program := "ytohelofjlkoboaa", sum := "dcc5f0e589bb17e91bf107c1ed7839c3789269b868e9fbd521489059253bdb5a", func := "copydesk/copydesklaw02.LabelMemory", spec := "labelMemory", recurses := true, apart := false }
def LabelMemorySaid : Prop := labelMemoryRow.holds Try.pinned (OpenSpec.ofChange labelMemorySpec)

/-- ITS FALSE NEIGHBOUR: 'it returns false'. Refute it at one input. -/
def labelMemoryWrong : ChangeSpec := { name := "labelMemory", fn := fun _ => fun
  | [d1, d2] => { results := [.lit (.bool false)], args := [d1, d2] }
  | _ => none }
def LabelMemoryWrongFalsely : Prop := labelMemoryRow.holds Try.pinned (OpenSpec.ofChange labelMemoryWrong)

/- THE SECOND FORM. 'bulk': how many values and letters a reading holds, each counted each time it is reached (what is shared counts as often as it is met; a slice's spare places count too). A statement '..UptoSaid' is the law's where the arguments, and the package variables that the reading takes, are together of bulk at most 1048576: NARROWER than '..Said'. Prove '..Said' where nothing that the law and all that it calls make is longer than what came in: it says more and counts as full. Else prove '..UptoSaid'. A law counts once. -/
mutual
def uptoBulk {H : Type} : DataW H → Nat
  | .lit (.string bytes) => bytes.length + 1
  | .lit _ => 1
  | .nil => 1
  | .ptr d => uptoBulk d + 1
  | .slice elems spare => uptoBulkAll elems + uptoBulkAll spare + 1
  | .agg parts => uptoBulkAll parts + 1
  | .iface _ d => uptoBulk d + 1
  | .map entries => uptoBulkEntries entries + 1
  | .held _ => 1
def uptoBulkAll {H : Type} : List (DataW H) → Nat
  | [] => 0
  | d :: r => uptoBulk d + uptoBulkAll r
def uptoBulkEntries {H : Type} : List (Lit × DataW H) → Nat
  | [] => 0
  | x :: r => uptoBulkEntry x + uptoBulkEntries r
def uptoBulkEntry {H : Type} : Lit × DataW H → Nat
  | (.string bytes, d) => bytes.length + uptoBulk d + 1
  | (_, d) => uptoBulk d + 1
 end
def uptoSmall : (H : Type) → List (DataW H) → Bool := fun _ ds => decide (uptoBulkAll ds ≤ 1048576)
def OpenSpec.upto (s : _root_.Go.ChangeSpec) : _root_.Go.OpenSpec := { _root_.Go.OpenSpec.ofChange s with cond := some uptoSmall }

/-- 'copydesklaw02.LabelMatchesReference', WHERE WHAT IT READS IS OF BULK AT MOST 1048576: true; the input reads as it did. -/
def labelMatchesReferenceUptoRow : OpenClaim := { program := "ytohelofjlkoboaa", sum := "dcc5f0e589bb17e91bf107c1ed7839c3789269b868e9fbd521489059253bdb5a", func := "copydesk/copydesklaw02.LabelMatchesReference", spec := "labelMatchesReference", recurses := true, apart := false, narrowed := true }
def LabelMatchesReferenceUptoSaid : Prop := labelMatchesReferenceUptoRow.holds Try.pinned (OpenSpec.upto labelMatchesReferenceSpec)

/-- 'copydesklaw02.LabelAllowsMatchesReference', WHERE WHAT IT READS IS OF BULK AT MOST 1048576: true; the input reads as it did. -/
def labelAllowsMatchesReferenceUptoRow : OpenClaim := { program := "ytohelofjlkoboaa", sum := "dcc5f0e589bb17e91bf107c1ed7839c3789269b868e9fbd521489059253bdb5a", func := "copydesk/copydesklaw02.LabelAllowsMatchesReference", spec := "labelAllowsMatchesReference", recurses := true, apart := false, narrowed := true }
def LabelAllowsMatchesReferenceUptoSaid : Prop := labelAllowsMatchesReferenceUptoRow.holds Try.pinned (OpenSpec.upto labelAllowsMatchesReferenceSpec)

/-- 'copydesklaw02.LabelJoinLaws', WHERE WHAT IT READS IS OF BULK AT MOST 1048576: true; the input reads as it did. -/
def labelJoinLawsUptoRow : OpenClaim := { program := "ytohelofjlkoboaa", sum := "dcc5f0e589bb17e91bf107c1ed7839c3789269b868e9fbd521489059253bdb5a", func := "copydesk/copydesklaw02.LabelJoinLaws", spec := "labelJoinLaws", recurses := true, apart := false, narrowed := true }
def LabelJoinLawsUptoSaid : Prop := labelJoinLawsUptoRow.holds Try.pinned (OpenSpec.upto labelJoinLawsSpec)

/-- 'copydesklaw02.LabelOrder', WHERE WHAT IT READS IS OF BULK AT MOST 1048576: true; the input reads as it did. -/
def labelOrderUptoRow : OpenClaim := { program := "ytohelofjlkoboaa", sum := "dcc5f0e589bb17e91bf107c1ed7839c3789269b868e9fbd521489059253bdb5a", func := "copydesk/copydesklaw02.LabelOrder", spec := "labelOrder", recurses := true, apart := false, narrowed := true }
def LabelOrderUptoSaid : Prop := labelOrderUptoRow.holds Try.pinned (OpenSpec.upto labelOrderSpec)

/-- 'copydesklaw02.LabelLeastUpperBound', WHERE WHAT IT READS IS OF BULK AT MOST 1048576: true; the input reads as it did. -/
def labelLeastUpperBoundUptoRow : OpenClaim := { program := "ytohelofjlkoboaa", sum := "dcc5f0e589bb17e91bf107c1ed7839c3789269b868e9fbd521489059253bdb5a", func := "copydesk/copydesklaw02.LabelLeastUpperBound", spec := "labelLeastUpperBound", recurses := true, apart := false, narrowed := true }
def LabelLeastUpperBoundUptoSaid : Prop := labelLeastUpperBoundUptoRow.holds Try.pinned (OpenSpec.upto labelLeastUpperBoundSpec)

/-- 'copydesklaw02.LabelJoinAllows', WHERE WHAT IT READS IS OF BULK AT MOST 1048576: true; the input reads as it did. -/
def labelJoinAllowsUptoRow : OpenClaim := { program := "ytohelofjlkoboaa", sum := "dcc5f0e589bb17e91bf107c1ed7839c3789269b868e9fbd521489059253bdb5a", func := "copydesk/copydesklaw02.LabelJoinAllows", spec := "labelJoinAllows", recurses := true, apart := false, narrowed := true }
def LabelJoinAllowsUptoSaid : Prop := labelJoinAllowsUptoRow.holds Try.pinned (OpenSpec.upto labelJoinAllowsSpec)

/-- 'copydesklaw02.LabelMonotone', WHERE WHAT IT READS IS OF BULK AT MOST 1048576: true; the input reads as it did. -/
def labelMonotoneUptoRow : OpenClaim := { program := "ytohelofjlkoboaa", sum := "dcc5f0e589bb17e91bf107c1ed7839c3789269b868e9fbd521489059253bdb5a", func := "copydesk/copydesklaw02.LabelMonotone", spec := "labelMonotone", recurses := true, apart := false, narrowed := true }
def LabelMonotoneUptoSaid : Prop := labelMonotoneUptoRow.holds Try.pinned (OpenSpec.upto labelMonotoneSpec)

/-- 'copydesklaw02.LabelConditions', WHERE WHAT IT READS IS OF BULK AT MOST 1048576: true; the input reads as it did. -/
def labelConditionsUptoRow : OpenClaim := { program := "ytohelofjlkoboaa", sum := "dcc5f0e589bb17e91bf107c1ed7839c3789269b868e9fbd521489059253bdb5a", func := "copydesk/copydesklaw02.LabelConditions", spec := "labelConditions", recurses := true, apart := false, narrowed := true }
def LabelConditionsUptoSaid : Prop := labelConditionsUptoRow.holds Try.pinned (OpenSpec.upto labelConditionsSpec)

/-- 'copydesklaw02.LabelBounds', WHERE WHAT IT READS IS OF BULK AT MOST 1048576: true; the input reads as it did. -/
def labelBoundsUptoRow : OpenClaim := { program := "ytohelofjlkoboaa", sum := "dcc5f0e589bb17e91bf107c1ed7839c3789269b868e9fbd521489059253bdb5a", func := "copydesk/copydesklaw02.LabelBounds", spec := "labelBounds", recurses := true, apart := false, narrowed := true }
def LabelBoundsUptoSaid : Prop := labelBoundsUptoRow.holds Try.pinned (OpenSpec.upto labelBoundsSpec)

/-- 'copydesklaw02.LabelMemory', WHERE WHAT IT READS IS OF BULK AT MOST 1048576: true; the input reads as it did. -/
def labelMemoryUptoRow : OpenClaim := { program := "ytohelofjlkoboaa", sum := "dcc5f0e589bb17e91bf107c1ed7839c3789269b868e9fbd521489059253bdb5a", func := "copydesk/copydesklaw02.LabelMemory", spec := "labelMemory", recurses := true, apart := false, narrowed := true }
def LabelMemoryUptoSaid : Prop := labelMemoryUptoRow.holds Try.pinned (OpenSpec.upto labelMemorySpec)

end Rows
end Go.Proofs.Ytohelofjlkoboaa
