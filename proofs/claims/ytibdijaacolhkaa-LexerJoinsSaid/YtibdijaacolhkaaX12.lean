/- The fixed examples. -/
import Derived.Test.YtibdijaacolhkaaT
import Derived.Test.YtibdijaacolhkaaA10
import Derived.Test.YtibdijaacolhkaaX11
namespace Go.Proofs.Ytibdijaacolhkaa
open Go.RowKit Go.Proofs
set_option linter.unusedSimpArgs false
set_option linter.unusedVariables false
set_option maxRecDepth 100000
set_option maxHeartbeats 4000000
theorem toks1 : toks [72, 105, 32, 123, 110, 97, 109, 101, 124, 117, 112, 112, 101, 114, 125, 33] = [⟨1, [72, 105, 32], 0⟩, ⟨6, [123], 3⟩, ⟨2, [110, 97, 109, 101], 4⟩, ⟨5, [124], 8⟩, ⟨2, [117, 112, 112, 101, 114], 9⟩, ⟨7, [125], 14⟩, ⟨1, [33], 15⟩] := by decide +kernel
theorem toks2 : toks [123, 123, 123, 120, 32, 49, 50, 32, 34, 97, 32, 98, 34, 125] = [⟨1, [123], 0⟩, ⟨6, [123], 2⟩, ⟨2, [120], 3⟩, ⟨3, [49, 50], 5⟩, ⟨4, [97, 32, 98], 8⟩, ⟨7, [125], 13⟩] := by decide +kernel
theorem toks3 : (toks [123, 120, 46, 121, 125]).find? (fun t => decide (t.k = 0)) = some ⟨0, [], 2⟩ := by decide +kernel
theorem tokR1 : tokensR [72, 105, 32, 123, 110, 97, 109, 101, 124, 117, 112, 112, 101, 114, 125, 33] = .tup [.own 34 3 ([⟨1, [72, 105, 32], 0⟩, ⟨6, [123], 3⟩, ⟨2, [110, 97, 109, 101], 4⟩, ⟨5, [124], 8⟩, ⟨2, [117, 112, 112, 101, 114], 9⟩, ⟨7, [125], 14⟩, ⟨1, [33], 15⟩].map tk), num 0, num 0] := by
  simp only [tokensR, toks1]; rfl
theorem tokR2 : tokensR [123, 123, 123, 120, 32, 49, 50, 32, 34, 97, 32, 98, 34, 125] = .tup [.own 34 3 ([⟨1, [123], 0⟩, ⟨6, [123], 2⟩, ⟨2, [120], 3⟩, ⟨3, [49, 50], 5⟩, ⟨4, [97, 32, 98], 8⟩, ⟨7, [125], 13⟩].map tk), num 0, num 0] := by
  simp only [tokensR, toks2]; rfl
theorem tokR3 : tokensR [123, 120, 46, 121, 125] = .tup [.nil, num 2, num 90] := by
  simp only [tokensR, toks3]; rfl
theorem sane9 : ACalls Try.prog 9 [] (fun r => r = tru true) := by
  refine calls_short [] ttok hmix Try.func9 (by decide) (by decide +kernel) (by simp only [Try.f9, Option.bind_some, comp, isLend, lendOf, lendX, lendC, lendH, Nat.reduceLeDiff, Nat.reduceSub, ne_eq, not_false_eq_true, and_self, cops, cguard, gslot, List.getElem?_toArray, List.getElem?_cons_succ, List.getElem?_cons_zero, vlook, tlook, cutAt_nil, cutAt, firstReg, isCut, mkSeq, Nat.reduceAdd, Nat.reduceEqDiff, reduceIte]; rfl) Try.ntmps9 Try.results9 ⟨_, rfl⟩ rfl ?_
  simp only [List.length_cons, List.length_nil, Nat.reduceAdd, Nat.reduceSub, List.replicate_succ, List.replicate_zero, List.cons_append, List.nil_append, num, str, tru]
  repeat' first | with_reducible refine asq_dmk (fun _ => ?_) (fun _ => ?_) | with_reducible refine asq_ndmk (fun _ => ?_) (fun _ => ?_) | with_reducible refine asq_nmk (fun _ => ?_) (fun _ => ?_) | with_reducible refine asq_mk (fun _ => ?_) (fun _ => ?_) | with_reducible refine asp_dmk (fun _ => ?_) (fun _ => ?_) | with_reducible refine asp_ndmk (fun _ => ?_) (fun _ => ?_) | with_reducible refine asp_nmk (fun _ => ?_) (fun _ => ?_) | with_reducible refine asp_mk (fun _ => ?_) (fun _ => ?_) | with_reducible refine And.intro (by first | omega | rfl | decide | with_unfolding_all rfl) ?_ | simp only [go_sem, Nat.reduceLT, Nat.reduceAdd, Nat.reduceSub, Nat.reduceMul, Nat.reduceLeDiff, ne_eq, Nat.reduceEqDiff, not_false_eq_true, Bool.and_true, Bool.true_and, Nat.succ_ne_self, and_true, Bool.not_true, Bool.not_false, Int.toNat_zero, Int.reduceToNat, Nat.mul_one, Int.toNat_one]
  refine (tokens10 [72, 105, 32, 123, 110, 97, 109, 101, 124, 117, 112, 112, 101, 114, 125, 33] (by decide)).mono ?_
  rintro r rfl
  rw [tokR1]
  simp only [List.map_cons, List.map_nil, tk, tokA, str, num]
  repeat' first | with_reducible refine asq_dmk (fun _ => ?_) (fun _ => ?_) | with_reducible refine asq_ndmk (fun _ => ?_) (fun _ => ?_) | with_reducible refine asq_nmk (fun _ => ?_) (fun _ => ?_) | with_reducible refine asq_mk (fun _ => ?_) (fun _ => ?_) | with_reducible refine asp_dmk (fun _ => ?_) (fun _ => ?_) | with_reducible refine asp_ndmk (fun _ => ?_) (fun _ => ?_) | with_reducible refine asp_nmk (fun _ => ?_) (fun _ => ?_) | with_reducible refine asp_mk (fun _ => ?_) (fun _ => ?_) | with_reducible refine And.intro (by first | omega | rfl | decide | with_unfolding_all rfl) ?_ | simp only [go_sem, Nat.reduceLT, Nat.reduceAdd, Nat.reduceSub, Nat.reduceMul, Nat.reduceLeDiff, ne_eq, Nat.reduceEqDiff, not_false_eq_true, Bool.and_true, Bool.true_and, Nat.succ_ne_self, and_true, Bool.not_true, Bool.not_false, Int.toNat_zero, Int.reduceToNat, Nat.mul_one, Int.toNat_one]
  refine (tokens10 [123, 123, 123, 120, 32, 49, 50, 32, 34, 97, 32, 98, 34, 125] (by decide)).mono ?_
  rintro r rfl
  rw [tokR2]
  simp only [List.map_cons, List.map_nil, tk, tokA, str, num]
  repeat' first | with_reducible refine asq_dmk (fun _ => ?_) (fun _ => ?_) | with_reducible refine asq_ndmk (fun _ => ?_) (fun _ => ?_) | with_reducible refine asq_nmk (fun _ => ?_) (fun _ => ?_) | with_reducible refine asq_mk (fun _ => ?_) (fun _ => ?_) | with_reducible refine asp_dmk (fun _ => ?_) (fun _ => ?_) | with_reducible refine asp_ndmk (fun _ => ?_) (fun _ => ?_) | with_reducible refine asp_nmk (fun _ => ?_) (fun _ => ?_) | with_reducible refine asp_mk (fun _ => ?_) (fun _ => ?_) | with_reducible refine And.intro (by first | omega | rfl | decide | with_unfolding_all rfl) ?_ | simp only [go_sem, Nat.reduceLT, Nat.reduceAdd, Nat.reduceSub, Nat.reduceMul, Nat.reduceLeDiff, ne_eq, Nat.reduceEqDiff, not_false_eq_true, Bool.and_true, Bool.true_and, Nat.succ_ne_self, and_true, Bool.not_true, Bool.not_false, Int.toNat_zero, Int.reduceToNat, Nat.mul_one, Int.toNat_one]
  refine (tokens10 [123, 120, 46, 121, 125] (by decide)).mono ?_
  rintro r rfl
  rw [tokR3]
  simp only [num]
  repeat' first | with_reducible refine asq_dmk (fun _ => ?_) (fun _ => ?_) | with_reducible refine asq_ndmk (fun _ => ?_) (fun _ => ?_) | with_reducible refine asq_nmk (fun _ => ?_) (fun _ => ?_) | with_reducible refine asq_mk (fun _ => ?_) (fun _ => ?_) | with_reducible refine asp_dmk (fun _ => ?_) (fun _ => ?_) | with_reducible refine asp_ndmk (fun _ => ?_) (fun _ => ?_) | with_reducible refine asp_nmk (fun _ => ?_) (fun _ => ?_) | with_reducible refine asp_mk (fun _ => ?_) (fun _ => ?_) | with_reducible refine And.intro (by first | omega | rfl | decide | with_unfolding_all rfl) ?_ | simp only [go_sem, Nat.reduceLT, Nat.reduceAdd, Nat.reduceSub, Nat.reduceMul, Nat.reduceLeDiff, ne_eq, Nat.reduceEqDiff, not_false_eq_true, Bool.and_true, Bool.true_and, Nat.succ_ne_self, and_true, Bool.not_true, Bool.not_false, Int.toNat_zero, Int.reduceToNat, Nat.mul_one, Int.toNat_one, List.length_cons, List.length_nil]
  all_goals (exfalso; omega)
end Go.Proofs.Ytibdijaacolhkaa
