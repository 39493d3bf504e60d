/- The fixed calls; what came in; the laws about the reference. -/
import Derived.Test.YtgnclmmijijimaaT
import Derived.Test.YtgnclmmijijimaaA10
import Derived.Test.YtgnclmmijijimaaQ19
import Derived.Test.YtgnclmmijijimaaB4
namespace Go.Proofs.Ytgnclmmijijimaa
open Go.RowKit Go.Proofs
set_option linter.unusedSimpArgs false
set_option linter.unusedVariables false
set_option maxRecDepth 100000
set_option maxHeartbeats 4000000

theorem lss {p : Prop} [Decidable p] : tru (decide p) = .raw (.bool (decide p)) := rfl
def sanL : List It := [⟨1, 4, [1, 2], 0, 0⟩, ⟨2, 9, [1], 0, 0⟩, ⟨3, 6, [1, 2], 0, 0⟩, ⟨4, 7, [2], 0, 1⟩]
def sanS : List Sto := (sanL.take 25).map mkS
theorem It_st (x : It) : StOk (mkS x) ∧ (mkS x).tp.length ≤ 6 := by
  have h : (mkS x).tp.length ≤ 6 := by simp only [mkS, tpS, List.length_map, List.length_take]; omega
  refine ⟨⟨by omega, ?_⟩, h⟩
  simp only [mkS]
  split <;> simp
def stL (l : List It) : List Sto := (l.take 25).map mkS
theorem stL_len (l : List It) : (stL l).length ≤ 25 := by simp only [stL, List.length_map, List.length_take]; omega
theorem stL_ok (l : List It) : ∀ s ∈ stL l, StOk s := fun s hs => by
  obtain ⟨x, _, rfl⟩ := List.mem_map.1 hs; exact (It_st x).1
theorem stL_tp (l : List It) : ∀ s ∈ stL l, s.tp.length ≤ 1000 := fun s hs => by
  obtain ⟨x, _, rfl⟩ := List.mem_map.1 hs; have := (It_st x).2; omega
theorem sane12 : ACalls Try.prog 12 [] (fun r => r = tru true) := by
  refine calls_short [] ttok hmix Try.func12 (by decide) (by decide +kernel) (by simp only [Try.f12, Option.bind_some, comp, isLend, lendOf, lendX, lendC, lendH, Nat.reduceLeDiff, Nat.reduceSub, ne_eq, not_false_eq_true, and_self, cops, cguard, gslot, List.getElem?_toArray, List.getElem?_cons_succ, List.getElem?_cons_zero, vlook, tlook, cutAt_nil, cutAt, firstReg, isCut, mkSeq, Nat.reduceAdd, Nat.reduceEqDiff, reduceIte]; rfl) Try.ntmps12 Try.results12 ⟨_, rfl⟩ rfl ?_
  simp only [List.length_cons, List.length_nil, Nat.reduceAdd, Nat.reduceSub, List.replicate_succ, List.replicate_zero, List.cons_append, List.nil_append, num, str, tru]
  repeat' first | with_reducible refine asq_dmk (fun _ => ?_) (fun _ => ?_) | with_reducible refine asq_ndmk (fun _ => ?_) (fun _ => ?_) | with_reducible refine asq_nmk (fun _ => ?_) (fun _ => ?_) | with_reducible refine asq_mk (fun _ => ?_) (fun _ => ?_) | with_reducible refine asp_dmk (fun _ => ?_) (fun _ => ?_) | with_reducible refine asp_ndmk (fun _ => ?_) (fun _ => ?_) | with_reducible refine asp_nmk (fun _ => ?_) (fun _ => ?_) | with_reducible refine asp_mk (fun _ => ?_) (fun _ => ?_) | with_reducible refine And.intro (by first | omega | rfl | decide | with_unfolding_all rfl) ?_ | simp only [go_sem, Nat.reduceLT, Nat.reduceAdd, Nat.reduceSub, Nat.reduceMul, Nat.reduceLeDiff, ne_eq, Nat.reduceEqDiff, not_false_eq_true, Bool.and_true, Bool.true_and, Nat.succ_ne_self, and_true, Bool.not_true, Bool.not_false, Int.toNat_zero, Int.reduceToNat, Nat.mul_one, Int.toNat_one, decide_true, decide_false, Int.reduceEq, Int.cast_ofNat_Int, Bool.false_eq_true, Bool.not_true, Bool.not_false]
  have hok : ∀ x ∈ sanL, ItOk x := by
    intro x hx
    simp only [sanL, List.mem_cons, List.not_mem_nil, or_false] at hx
    rcases hx with rfl | rfl | rfl | rfl <;> simp [ItOk, I64]
  refine ((state13 sanL (by decide) hok).wk ?_).mono ?_
  · simp only [sanL, itA, nums, List.map_cons, List.map_nil, num, str, tru]
    repeat first | exact Wk.nil | exact Wk.refl _ | refine wk_agg ?_ ?_ | refine wk_ownsl ?_ | refine wk_nilsl ?_ | refine Wk.same ?_
  rintro r rfl
  have hL : (List.map sto (List.map mkS (List.take 25 sanL))) = (stL sanL).map sto := rfl
  rw [hL]
  have hl := stL_len sanL
  have hs := stL_ok sanL
  have ht := stL_tp sanL
  have f1 : ((newL [97] (stL sanL)).map (·.id)).take (2 : Int).toNat = [2, 3] := by decide +kernel
  have f2 : pgL ((newL [97] (stL sanL)).reverse.map (·.id)) 1 = [1, 3, 2] := by decide +kernel
  have f3 : ((((newL [97] (stL sanL)).length + 4) / 5 : Nat) : Int) = 1 := by decide +kernel
  have f4 : relR (stL sanL) 1 9 = [3, 2] := by decide +kernel
  have f5 : topR (stL sanL) = [[97], [98]] := by decide +kernel
  have f6 : autR (stL sanL) = [[]] := by decide +kernel
  have f7 : (((newL [98] (stL sanL)).length : Nat) : Int) = 2 := by decide +kernel
  have f8 : (((newL [] (stL sanL)).filter (fun s => decide (s.au = []))).map (·.id)) = [2, 3, 1] := by decide +kernel
  generalize stL sanL = L at *
  repeat' first | with_reducible refine asq_dmk (fun _ => ?_) (fun _ => ?_) | with_reducible refine asq_ndmk (fun _ => ?_) (fun _ => ?_) | with_reducible refine asq_nmk (fun _ => ?_) (fun _ => ?_) | with_reducible refine asq_mk (fun _ => ?_) (fun _ => ?_) | with_reducible refine asp_dmk (fun _ => ?_) (fun _ => ?_) | with_reducible refine asp_ndmk (fun _ => ?_) (fun _ => ?_) | with_reducible refine asp_nmk (fun _ => ?_) (fun _ => ?_) | with_reducible refine asp_mk (fun _ => ?_) (fun _ => ?_) | with_reducible refine And.intro (by first | omega | rfl | decide | with_unfolding_all rfl) ?_ | simp only [go_sem, Nat.reduceLT, Nat.reduceAdd, Nat.reduceSub, Nat.reduceMul, Nat.reduceLeDiff, ne_eq, Nat.reduceEqDiff, not_false_eq_true, Bool.and_true, Bool.true_and, Nat.succ_ne_self, and_true, Bool.not_true, Bool.not_false, Int.toNat_zero, Int.reduceToNat, Nat.mul_one, Int.toNat_one, decide_true, decide_false, Int.reduceEq, Int.cast_ofNat_Int, Bool.false_eq_true, Bool.not_true, Bool.not_false]
  refine ((latest16 L [] [97] 2 (by omega) hs).wk ?_).mono ?_
  · try simp only [stA, nums, List.map_cons, List.map_nil, num, str, tru]
    repeat first | exact Wk.nil | exact Wk.refl _ | refine wk_agg ?_ ?_ | refine wk_ownsl ?_ | refine wk_nilsl ?_ | refine Wk.same ?_
  rintro r rfl
  rw [f1]
  try simp only [tru, num, str]
  repeat' first | with_reducible refine asq_dmk (fun _ => ?_) (fun _ => ?_) | with_reducible refine asq_ndmk (fun _ => ?_) (fun _ => ?_) | with_reducible refine asq_nmk (fun _ => ?_) (fun _ => ?_) | with_reducible refine asq_mk (fun _ => ?_) (fun _ => ?_) | with_reducible refine asp_dmk (fun _ => ?_) (fun _ => ?_) | with_reducible refine asp_ndmk (fun _ => ?_) (fun _ => ?_) | with_reducible refine asp_nmk (fun _ => ?_) (fun _ => ?_) | with_reducible refine asp_mk (fun _ => ?_) (fun _ => ?_) | with_reducible refine And.intro (by first | omega | rfl | decide | with_unfolding_all rfl) ?_ | simp only [go_sem, Nat.reduceLT, Nat.reduceAdd, Nat.reduceSub, Nat.reduceMul, Nat.reduceLeDiff, ne_eq, Nat.reduceEqDiff, not_false_eq_true, Bool.and_true, Bool.true_and, Nat.succ_ne_self, and_true, Bool.not_true, Bool.not_false, Int.toNat_zero, Int.reduceToNat, Nat.mul_one, Int.toNat_one, decide_true, decide_false, Int.reduceEq, Int.cast_ofNat_Int, Bool.false_eq_true, Bool.not_true, Bool.not_false]
  refine ((page20 L [] [97] 1 ⟨by decide, by decide⟩ (by omega) hs).wk ?_).mono ?_
  · try simp only [stA, nums, List.map_cons, List.map_nil, num, str, tru]
    repeat first | exact Wk.nil | exact Wk.refl _ | refine wk_agg ?_ ?_ | refine wk_ownsl ?_ | refine wk_nilsl ?_ | refine Wk.same ?_
  rintro r rfl
  rw [f2, f3]
  try simp only [tru, num, str]
  repeat' first | with_reducible refine asq_dmk (fun _ => ?_) (fun _ => ?_) | with_reducible refine asq_ndmk (fun _ => ?_) (fun _ => ?_) | with_reducible refine asq_nmk (fun _ => ?_) (fun _ => ?_) | with_reducible refine asq_mk (fun _ => ?_) (fun _ => ?_) | with_reducible refine asp_dmk (fun _ => ?_) (fun _ => ?_) | with_reducible refine asp_ndmk (fun _ => ?_) (fun _ => ?_) | with_reducible refine asp_nmk (fun _ => ?_) (fun _ => ?_) | with_reducible refine asp_mk (fun _ => ?_) (fun _ => ?_) | with_reducible refine And.intro (by first | omega | rfl | decide | with_unfolding_all rfl) ?_ | simp only [go_sem, Nat.reduceLT, Nat.reduceAdd, Nat.reduceSub, Nat.reduceMul, Nat.reduceLeDiff, ne_eq, Nat.reduceEqDiff, not_false_eq_true, Bool.and_true, Bool.true_and, Nat.succ_ne_self, and_true, Bool.not_true, Bool.not_false, Int.toNat_zero, Int.reduceToNat, Nat.mul_one, Int.toNat_one, decide_true, decide_false, Int.reduceEq, Int.cast_ofNat_Int, Bool.false_eq_true, Bool.not_true, Bool.not_false]
  refine ((related29 L [] 1 9 (by omega) hs ht).wk ?_).mono ?_
  · try simp only [stA, nums, List.map_cons, List.map_nil, num, str, tru]
    repeat first | exact Wk.nil | exact Wk.refl _ | refine wk_agg ?_ ?_ | refine wk_ownsl ?_ | refine wk_nilsl ?_ | refine Wk.same ?_
  rintro r rfl
  rw [f4]
  try simp only [tru, num, str]
  repeat' first | with_reducible refine asq_dmk (fun _ => ?_) (fun _ => ?_) | with_reducible refine asq_ndmk (fun _ => ?_) (fun _ => ?_) | with_reducible refine asq_nmk (fun _ => ?_) (fun _ => ?_) | with_reducible refine asq_mk (fun _ => ?_) (fun _ => ?_) | with_reducible refine asp_dmk (fun _ => ?_) (fun _ => ?_) | with_reducible refine asp_ndmk (fun _ => ?_) (fun _ => ?_) | with_reducible refine asp_nmk (fun _ => ?_) (fun _ => ?_) | with_reducible refine asp_mk (fun _ => ?_) (fun _ => ?_) | with_reducible refine And.intro (by first | omega | rfl | decide | with_unfolding_all rfl) ?_ | simp only [go_sem, Nat.reduceLT, Nat.reduceAdd, Nat.reduceSub, Nat.reduceMul, Nat.reduceLeDiff, ne_eq, Nat.reduceEqDiff, not_false_eq_true, Bool.and_true, Bool.true_and, Nat.succ_ne_self, and_true, Bool.not_true, Bool.not_false, Int.toNat_zero, Int.reduceToNat, Nat.mul_one, Int.toNat_one, decide_true, decide_false, Int.reduceEq, Int.cast_ofNat_Int, Bool.false_eq_true, Bool.not_true, Bool.not_false]
  refine ((topics23 L [] (by omega) hs ht).wk ?_).mono ?_
  · try simp only [stA, nums, List.map_cons, List.map_nil, num, str, tru]
    repeat first | exact Wk.nil | exact Wk.refl _ | refine wk_agg ?_ ?_ | refine wk_ownsl ?_ | refine wk_nilsl ?_ | refine Wk.same ?_
  rintro r rfl
  rw [f5]
  try simp only [tru, num]
  repeat' first | with_reducible refine asq_dmk (fun _ => ?_) (fun _ => ?_) | with_reducible refine asq_ndmk (fun _ => ?_) (fun _ => ?_) | with_reducible refine asq_nmk (fun _ => ?_) (fun _ => ?_) | with_reducible refine asq_mk (fun _ => ?_) (fun _ => ?_) | with_reducible refine asp_dmk (fun _ => ?_) (fun _ => ?_) | with_reducible refine asp_ndmk (fun _ => ?_) (fun _ => ?_) | with_reducible refine asp_nmk (fun _ => ?_) (fun _ => ?_) | with_reducible refine asp_mk (fun _ => ?_) (fun _ => ?_) | with_reducible refine And.intro (by first | omega | rfl | decide | with_unfolding_all rfl) ?_ | simp only [go_sem, Nat.reduceLT, Nat.reduceAdd, Nat.reduceSub, Nat.reduceMul, Nat.reduceLeDiff, ne_eq, Nat.reduceEqDiff, not_false_eq_true, Bool.and_true, Bool.true_and, Nat.succ_ne_self, and_true, Bool.not_true, Bool.not_false, Int.toNat_zero, Int.reduceToNat, Nat.mul_one, Int.toNat_one, decide_true, decide_false, Int.reduceEq, Int.cast_ofNat_Int, Bool.false_eq_true, Bool.not_true, Bool.not_false]
  refine ((same15 [2, 3] [2, 3] (by decide) (by decide)).wk ?_).mono ?_
  · try simp only [stA, nums, List.map_cons, List.map_nil, num, str, tru]
    repeat first | exact Wk.nil | exact Wk.refl _ | refine wk_agg ?_ ?_ | refine wk_ownsl ?_ | refine wk_nilsl ?_ | refine Wk.same ?_
  rintro r rfl
  try simp only [tru]
  repeat' first | with_reducible refine asq_dmk (fun _ => ?_) (fun _ => ?_) | with_reducible refine asq_ndmk (fun _ => ?_) (fun _ => ?_) | with_reducible refine asq_nmk (fun _ => ?_) (fun _ => ?_) | with_reducible refine asq_mk (fun _ => ?_) (fun _ => ?_) | with_reducible refine asp_dmk (fun _ => ?_) (fun _ => ?_) | with_reducible refine asp_ndmk (fun _ => ?_) (fun _ => ?_) | with_reducible refine asp_nmk (fun _ => ?_) (fun _ => ?_) | with_reducible refine asp_mk (fun _ => ?_) (fun _ => ?_) | with_reducible refine And.intro (by first | omega | rfl | decide | with_unfolding_all rfl) ?_ | simp only [go_sem, Nat.reduceLT, Nat.reduceAdd, Nat.reduceSub, Nat.reduceMul, Nat.reduceLeDiff, ne_eq, Nat.reduceEqDiff, not_false_eq_true, Bool.and_true, Bool.true_and, Nat.succ_ne_self, and_true, Bool.not_true, Bool.not_false, Int.toNat_zero, Int.reduceToNat, Nat.mul_one, Int.toNat_one, decide_true, decide_false, Int.reduceEq, Int.cast_ofNat_Int, Bool.false_eq_true, Bool.not_true, Bool.not_false]
  refine ((same15 [1, 3, 2] [1, 3, 2] (by decide) (by decide)).wk ?_).mono ?_
  · try simp only [stA, nums, List.map_cons, List.map_nil, num, str, tru]
    repeat first | exact Wk.nil | exact Wk.refl _ | refine wk_agg ?_ ?_ | refine wk_ownsl ?_ | refine wk_nilsl ?_ | refine Wk.same ?_
  rintro r rfl
  try simp only [tru]
  repeat' first | with_reducible refine asq_dmk (fun _ => ?_) (fun _ => ?_) | with_reducible refine asq_ndmk (fun _ => ?_) (fun _ => ?_) | with_reducible refine asq_nmk (fun _ => ?_) (fun _ => ?_) | with_reducible refine asq_mk (fun _ => ?_) (fun _ => ?_) | with_reducible refine asp_dmk (fun _ => ?_) (fun _ => ?_) | with_reducible refine asp_ndmk (fun _ => ?_) (fun _ => ?_) | with_reducible refine asp_nmk (fun _ => ?_) (fun _ => ?_) | with_reducible refine asp_mk (fun _ => ?_) (fun _ => ?_) | with_reducible refine And.intro (by first | omega | rfl | decide | with_unfolding_all rfl) ?_ | simp only [go_sem, Nat.reduceLT, Nat.reduceAdd, Nat.reduceSub, Nat.reduceMul, Nat.reduceLeDiff, ne_eq, Nat.reduceEqDiff, not_false_eq_true, Bool.and_true, Bool.true_and, Nat.succ_ne_self, and_true, Bool.not_true, Bool.not_false, Int.toNat_zero, Int.reduceToNat, Nat.mul_one, Int.toNat_one, decide_true, decide_false, Int.reduceEq, Int.cast_ofNat_Int, Bool.false_eq_true, Bool.not_true, Bool.not_false]
  refine ((same15 [3, 2] [3, 2] (by decide) (by decide)).wk ?_).mono ?_
  · try simp only [stA, nums, List.map_cons, List.map_nil, num, str, tru]
    repeat first | exact Wk.nil | exact Wk.refl _ | refine wk_agg ?_ ?_ | refine wk_ownsl ?_ | refine wk_nilsl ?_ | refine Wk.same ?_
  rintro r rfl
  try simp only [tru]
  repeat' first | with_reducible refine asq_dmk (fun _ => ?_) (fun _ => ?_) | with_reducible refine asq_ndmk (fun _ => ?_) (fun _ => ?_) | with_reducible refine asq_nmk (fun _ => ?_) (fun _ => ?_) | with_reducible refine asq_mk (fun _ => ?_) (fun _ => ?_) | with_reducible refine asp_dmk (fun _ => ?_) (fun _ => ?_) | with_reducible refine asp_ndmk (fun _ => ?_) (fun _ => ?_) | with_reducible refine asp_nmk (fun _ => ?_) (fun _ => ?_) | with_reducible refine asp_mk (fun _ => ?_) (fun _ => ?_) | with_reducible refine And.intro (by first | omega | rfl | decide | with_unfolding_all rfl) ?_ | simp only [go_sem, Nat.reduceLT, Nat.reduceAdd, Nat.reduceSub, Nat.reduceMul, Nat.reduceLeDiff, ne_eq, Nat.reduceEqDiff, not_false_eq_true, Bool.and_true, Bool.true_and, Nat.succ_ne_self, and_true, Bool.not_true, Bool.not_false, Int.toNat_zero, Int.reduceToNat, Nat.mul_one, Int.toNat_one, decide_true, decide_false, Int.reduceEq, Int.cast_ofNat_Int, Bool.false_eq_true, Bool.not_true, Bool.not_false]
  refine ((same22 [[97], [98]] [[97], [98]] (by decide) (by decide)).wk ?_).mono ?_
  · try simp only [stA, nums, List.map_cons, List.map_nil, num, str, tru]
    repeat first | exact Wk.nil | exact Wk.refl _ | refine wk_agg ?_ ?_ | refine wk_ownsl ?_ | refine wk_nilsl ?_ | refine Wk.same ?_
  rintro r rfl
  try simp only [tru]
  repeat' first | with_reducible refine asq_dmk (fun _ => ?_) (fun _ => ?_) | with_reducible refine asq_ndmk (fun _ => ?_) (fun _ => ?_) | with_reducible refine asq_nmk (fun _ => ?_) (fun _ => ?_) | with_reducible refine asq_mk (fun _ => ?_) (fun _ => ?_) | with_reducible refine asp_dmk (fun _ => ?_) (fun _ => ?_) | with_reducible refine asp_ndmk (fun _ => ?_) (fun _ => ?_) | with_reducible refine asp_nmk (fun _ => ?_) (fun _ => ?_) | with_reducible refine asp_mk (fun _ => ?_) (fun _ => ?_) | with_reducible refine And.intro (by first | omega | rfl | decide | with_unfolding_all rfl) ?_ | simp only [go_sem, Nat.reduceLT, Nat.reduceAdd, Nat.reduceSub, Nat.reduceMul, Nat.reduceLeDiff, ne_eq, Nat.reduceEqDiff, not_false_eq_true, Bool.and_true, Bool.true_and, Nat.succ_ne_self, and_true, Bool.not_true, Bool.not_false, Int.toNat_zero, Int.reduceToNat, Nat.mul_one, Int.toNat_one, decide_true, decide_false, Int.reduceEq, Int.cast_ofNat_Int, Bool.false_eq_true, Bool.not_true, Bool.not_false]
  refine ((authors25 L [] (by omega) hs).wk ?_).mono ?_
  · try simp only [stA, nums, List.map_cons, List.map_nil, num, str, tru]
    repeat first | exact Wk.nil | exact Wk.refl _ | refine wk_agg ?_ ?_ | refine wk_ownsl ?_ | refine wk_nilsl ?_ | refine Wk.same ?_
  rintro r rfl
  rw [f6]
  try simp only [tru, num]
  repeat' first | with_reducible refine asq_dmk (fun _ => ?_) (fun _ => ?_) | with_reducible refine asq_ndmk (fun _ => ?_) (fun _ => ?_) | with_reducible refine asq_nmk (fun _ => ?_) (fun _ => ?_) | with_reducible refine asq_mk (fun _ => ?_) (fun _ => ?_) | with_reducible refine asp_dmk (fun _ => ?_) (fun _ => ?_) | with_reducible refine asp_ndmk (fun _ => ?_) (fun _ => ?_) | with_reducible refine asp_nmk (fun _ => ?_) (fun _ => ?_) | with_reducible refine asp_mk (fun _ => ?_) (fun _ => ?_) | with_reducible refine And.intro (by first | omega | rfl | decide | with_unfolding_all rfl) ?_ | simp only [go_sem, Nat.reduceLT, Nat.reduceAdd, Nat.reduceSub, Nat.reduceMul, Nat.reduceLeDiff, ne_eq, Nat.reduceEqDiff, not_false_eq_true, Bool.and_true, Bool.true_and, Nat.succ_ne_self, and_true, Bool.not_true, Bool.not_false, Int.toNat_zero, Int.reduceToNat, Nat.mul_one, Int.toNat_one, decide_true, decide_false, Int.reduceEq, Int.cast_ofNat_Int, Bool.false_eq_true, Bool.not_true, Bool.not_false, List.length_map, List.length_cons, List.length_nil]
  refine ((count27 L [] [98] (by omega) hs).wk ?_).mono ?_
  · try simp only [stA, nums, List.map_cons, List.map_nil, num, str, tru]
    repeat first | exact Wk.nil | exact Wk.refl _ | refine wk_agg ?_ ?_ | refine wk_ownsl ?_ | refine wk_nilsl ?_ | refine Wk.same ?_
  rintro r rfl
  rw [f7]
  try simp only [tru, num, str]
  repeat' first | with_reducible refine asq_dmk (fun _ => ?_) (fun _ => ?_) | with_reducible refine asq_ndmk (fun _ => ?_) (fun _ => ?_) | with_reducible refine asq_nmk (fun _ => ?_) (fun _ => ?_) | with_reducible refine asq_mk (fun _ => ?_) (fun _ => ?_) | with_reducible refine asp_dmk (fun _ => ?_) (fun _ => ?_) | with_reducible refine asp_ndmk (fun _ => ?_) (fun _ => ?_) | with_reducible refine asp_nmk (fun _ => ?_) (fun _ => ?_) | with_reducible refine asp_mk (fun _ => ?_) (fun _ => ?_) | with_reducible refine And.intro (by first | omega | rfl | decide | with_unfolding_all rfl) ?_ | simp only [go_sem, Nat.reduceLT, Nat.reduceAdd, Nat.reduceSub, Nat.reduceMul, Nat.reduceLeDiff, ne_eq, Nat.reduceEqDiff, not_false_eq_true, Bool.and_true, Bool.true_and, Nat.succ_ne_self, and_true, Bool.not_true, Bool.not_false, Int.toNat_zero, Int.reduceToNat, Nat.mul_one, Int.toNat_one, decide_true, decide_false, Int.reduceEq, Int.cast_ofNat_Int, Bool.false_eq_true, Bool.not_true, Bool.not_false]
  refine ((by18 L [] [] (by omega) hs).wk ?_).mono ?_
  · try simp only [stA, nums, List.map_cons, List.map_nil, num, str, tru]
    repeat first | exact Wk.nil | exact Wk.refl _ | refine wk_agg ?_ ?_ | refine wk_ownsl ?_ | refine wk_nilsl ?_ | refine Wk.same ?_
  rintro r rfl
  rw [f8]
  try simp only [tru, num, str]
  repeat' first | with_reducible refine asq_dmk (fun _ => ?_) (fun _ => ?_) | with_reducible refine asq_ndmk (fun _ => ?_) (fun _ => ?_) | with_reducible refine asq_nmk (fun _ => ?_) (fun _ => ?_) | with_reducible refine asq_mk (fun _ => ?_) (fun _ => ?_) | with_reducible refine asp_dmk (fun _ => ?_) (fun _ => ?_) | with_reducible refine asp_ndmk (fun _ => ?_) (fun _ => ?_) | with_reducible refine asp_nmk (fun _ => ?_) (fun _ => ?_) | with_reducible refine asp_mk (fun _ => ?_) (fun _ => ?_) | with_reducible refine And.intro (by first | omega | rfl | decide | with_unfolding_all rfl) ?_ | simp only [go_sem, Nat.reduceLT, Nat.reduceAdd, Nat.reduceSub, Nat.reduceMul, Nat.reduceLeDiff, ne_eq, Nat.reduceEqDiff, not_false_eq_true, Bool.and_true, Bool.true_and, Nat.succ_ne_self, and_true, Bool.not_true, Bool.not_false, Int.toNat_zero, Int.reduceToNat, Nat.mul_one, Int.toNat_one, decide_true, decide_false, Int.reduceEq, Int.cast_ofNat_Int, Bool.false_eq_true, Bool.not_true, Bool.not_false, nums_length, List.length_cons, List.length_nil]
theorem page20S (L : List Sto) (tm : List AV) (v : List UInt8) (p : Int) (hp : I64 p) (hl : L.length ≤ 100000) (hs : ∀ s ∈ L, StOk s) : ACalls Try.prog 20 [stA L tm, str v, num p] (fun r => r = .tup [.sl 1 (nums (pgL ((newL v L).reverse.map (·.id)) p)), num (((newL v L).length + 4) / 5 : Nat)]) := by
  refine (page20 L tm v p hp hl hs).wkr ?_
  rintro r rfl
  exact ⟨_, W1.tup (wk_ownsl (.same .nil)), rfl, rfl⟩
theorem refPage21S (L : List Sto) (tm : List AV) (v : List UInt8) (p : Int) (hl : L.length ≤ 100000) (hs : ∀ s ∈ L, StOk s) : ACalls Try.prog 21 [stA L tm, str v, num p] (fun r => r = .tup [.sl 1 (nums (pgL ((newL v L).reverse.map (·.id)) p)), num (((newL v L).length + 4) / 5 : Nat)]) := by
  refine (refPage21 L tm v p hl hs).wkr ?_
  rintro r rfl
  exact ⟨_, W1.tup (wk_ownsl (.same .nil)), rfl, rfl⟩
theorem item_of {n : Nat} {x : AV} (h : OfE Try.prog (OfT Try.prog n) 44 x) : ∃ it, x = itA it ∧ ItOk it ∧ I64 it.id ∧ I64 it.pu := by
  have c3 : Try.prog.cellsOf 3 = 1 := by decide +kernel
  obtain ⟨_, ys, rfl, hy⟩ := OfE_struct Try.underlying44 h
  obtain ⟨z1, _, rfl, hz1, hy⟩ := OfR_one (by decide +kernel) hy
  obtain ⟨z2, _, rfl, hz2, hy⟩ := OfR_one (by decide +kernel) hy
  obtain ⟨z3, _, rfl, hz3, hy⟩ := OfR_one (by decide +kernel) hy
  obtain ⟨z4, _, rfl, hz4, hy⟩ := OfR_one (by decide +kernel) hy
  obtain ⟨z5, _, rfl, hz5, hy⟩ := OfR_one (by decide +kernel) hy
  obtain rfl := OfR_nil hy
  obtain ⟨a, rfl, ha⟩ := OfE_i64 Try.underlying3 hz1
  obtain ⟨b, rfl, hb⟩ := OfE_i64 Try.underlying3 hz2
  obtain ⟨_, es, rfl, hel, he⟩ := OfE_slice Try.underlying31 c3 (by decide) hz3
  obtain ⟨ts, rfl, hts⟩ := map_of (f := num) (Q := I64) fun y hy => OfE_i64 Try.underlying3 (he y hy)
  obtain ⟨c, rfl, hc⟩ := OfE_i64 Try.underlying3 hz4
  obtain ⟨d, rfl, hd⟩ := OfE_i64 Try.underlying3 hz5
  rw [List.length_map] at hel
  exact ⟨⟨a, b, ts, c, d⟩, rfl, ⟨hc, hd, hts, hel⟩, ha, hb⟩
theorem items_of {n : Nat} {x : AV} (h : OfE Try.prog (OfT Try.prog n) 22 x) : ∃ l : List It, x = .sl 5 (l.map itA) ∧ l.length ≤ 9223372036854775807 ∧ (∀ y ∈ l, ItOk y) ∧ ∀ y ∈ l, I64 y.id ∧ I64 y.pu := by
  have c : Try.prog.cellsOf 44 = 5 := by decide +kernel
  obtain ⟨_, es, rfl, hel, he⟩ := OfE_slice Try.underlying22 c (by decide) h
  obtain ⟨l, rfl, hl⟩ := map_of (f := itA) (Q := fun it => ItOk it ∧ I64 it.id ∧ I64 it.pu) fun y hy => item_of (he y hy)
  rw [List.length_map] at hel
  exact ⟨l, rfl, hel, fun y hy => (hl y hy).1, fun y hy => (hl y hy).2⟩
theorem relR_len {L : List Sto} (hl : L.length ≤ 25) (ht : ∀ s ∈ L, s.tp.length ≤ 1000) (id n : Int) : (relR L id n).length ≤ 1000000 := by
  unfold relR
  cases h : L.find? (fun s => decide (s.id = id)) with
  | none => simp
  | some s0 =>
    simp only
    split
    · have h0 := ht s0 (List.mem_of_find?_eq_some h)
      have h1 := relG_len (newL [] L) s0 id s0.tp.length
      have h2 := newL_len [] L
      have h3 := Nat.mul_le_mul h0 (Nat.le_trans h2 hl)
      rw [List.length_take]
      omega
    · simp
end Go.Proofs.Ytgnclmmijijimaa
