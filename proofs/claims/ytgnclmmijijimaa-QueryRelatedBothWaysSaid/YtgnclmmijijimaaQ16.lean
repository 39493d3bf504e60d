/- The library over strings; distinct; Page, Topics, Authors. -/
import Derived.Test.YtgnclmmijijimaaT
import Derived.Test.YtgnclmmijijimaaA10
import Derived.Test.YtgnclmmijijimaaR6
import Derived.Test.YtgnclmmijijimaaS2
import Derived.Test.YtgnclmmijijimaaQ15
import Derived.Test.YtgnclmmijijimaaQ12
namespace Go.Proofs.Ytgnclmmijijimaa
open Go.RowKit Go.Proofs
set_option linter.unusedSimpArgs false
set_option linter.unusedVariables false
set_option maxRecDepth 100000
set_option maxHeartbeats 4000000

theorem encS_one : ∀ a : Str, (encStr a).oneCell' = true := fun _ => rfl
theorem raws_str (zs : List Str) : rawsA encStr zs = zs.map str := rfl
theorem sort66 (zs : List Str) (h : zs.length ≤ 10000000) : RCalls Try.prog 66 (.row 9 1 (zs.map str)) [] (fun r y => r = .tup [] ∧ y = .row 9 1 ((zs.mergeSort fun x y => decide (x ≤ y)).map str)) :=
  sort_raw ⟨_, _, Try.func66, rfl, by decide⟩ encS_one (fun l => l.mergeSort fun x y => decide (x ≤ y)) (fun l => List.length_mergeSort l) zs Try.slices_Sort_string_none
    (fun b cap w hH hb => Try.slices_Sort_string b 0 cap zs w hH hb (by omega))
theorem compact67 (zs : List Str) (h : zs.length ≤ 10000000) : ACalls Try.prog 67 [.mine 9 1 (zs.map str)] (fun r => r = .own 9 1 ((Lib.compact zs).map str)) :=
  compact_raw ⟨_, _, Try.func67, rfl, by decide⟩ encS_one Lib.compact (fun l => Lib.compact_length_le l) [] zs Try.slices_Compact_string_empty
    (fun b cap w hH hc => Try.slices_Compact_string b 0 cap zs w hH (by omega) hc)
theorem clone65' (zs : List Str) (h : zs.length ≤ 1000000000) : ACalls Try.prog 65 [.sl 1 (zs.map str)] (fun r => r = .nil ∧ zs = [] ∨ r = .mine 9 1 (zs.map str)) := by
  refine calls_short [] ttok hmix Try.func65 (by decide) (by decide +kernel) (by simp only [Try.f65, Option.bind_some, comp, isLend, lendOf, lendX, lendC, lendH, Nat.reduceLeDiff, Nat.reduceSub, ne_eq, not_false_eq_true, and_self, cops, cguard, gslot, List.getElem?_toArray, List.getElem?_cons_succ, List.getElem?_cons_zero, vlook, tlook, cutAt_nil, cutAt, firstReg, isCut, mkSeq, Nat.reduceAdd, Nat.reduceEqDiff, reduceIte]; rfl) Try.ntmps65 Try.results65 ⟨_, .inr rfl⟩ rfl ?_
  simp only [List.length_cons, List.length_nil, Nat.reduceAdd, Nat.reduceSub, List.replicate_succ, List.replicate_zero, List.cons_append, List.nil_append, num, str, tru]
  repeat' first | with_reducible refine asq_dmk (fun _ => ?_) (fun _ => ?_) | with_reducible refine asq_ndmk (fun _ => ?_) (fun _ => ?_) | with_reducible refine asq_nmk (fun _ => ?_) (fun _ => ?_) | with_reducible refine asq_mk (fun _ => ?_) (fun _ => ?_) | with_reducible refine asp_dmk (fun _ => ?_) (fun _ => ?_) | with_reducible refine asp_ndmk (fun _ => ?_) (fun _ => ?_) | with_reducible refine asp_nmk (fun _ => ?_) (fun _ => ?_) | with_reducible refine asp_mk (fun _ => ?_) (fun _ => ?_) | with_reducible refine And.intro (by first | omega | rfl | decide | with_unfolding_all rfl) ?_ | simp only [go_sem, Nat.reduceLT, Nat.reduceAdd, Nat.reduceSub, Nat.reduceMul, Nat.reduceLeDiff, ne_eq, Nat.reduceEqDiff, not_false_eq_true, Bool.and_true, Bool.true_and, Nat.succ_ne_self, and_true, Bool.not_true, Bool.not_false, Int.toNat_zero, Int.reduceToNat, Nat.mul_one, Int.toNat_one, decide_true, decide_false, Int.reduceEq, Int.cast_ofNat_Int, Bool.false_eq_true, Bool.not_true, Bool.not_false, List.length_map]
  refine ⟨fun h0 => ?_, ?_⟩
  · have hz : zs = [] := List.eq_nil_of_length_eq_zero h0
    repeat' first | with_reducible refine asq_dmk (fun _ => ?_) (fun _ => ?_) | with_reducible refine asq_ndmk (fun _ => ?_) (fun _ => ?_) | with_reducible refine asq_nmk (fun _ => ?_) (fun _ => ?_) | with_reducible refine asq_mk (fun _ => ?_) (fun _ => ?_) | with_reducible refine asp_dmk (fun _ => ?_) (fun _ => ?_) | with_reducible refine asp_ndmk (fun _ => ?_) (fun _ => ?_) | with_reducible refine asp_nmk (fun _ => ?_) (fun _ => ?_) | with_reducible refine asp_mk (fun _ => ?_) (fun _ => ?_) | with_reducible refine And.intro (by first | omega | rfl | decide | with_unfolding_all rfl) ?_ | simp only [go_sem, Nat.reduceLT, Nat.reduceAdd, Nat.reduceSub, Nat.reduceMul, Nat.reduceLeDiff, ne_eq, Nat.reduceEqDiff, not_false_eq_true, Bool.and_true, Bool.true_and, Nat.succ_ne_self, and_true, Bool.not_true, Bool.not_false, Int.toNat_zero, Int.reduceToNat, Nat.mul_one, Int.toNat_one, decide_true, decide_false, Int.reduceEq, Int.cast_ofNat_Int, Bool.false_eq_true, Bool.not_true, Bool.not_false, List.length_map]
    exact .inl hz
  · repeat' first | with_reducible refine asq_dmk (fun _ => ?_) (fun _ => ?_) | with_reducible refine asq_ndmk (fun _ => ?_) (fun _ => ?_) | with_reducible refine asq_nmk (fun _ => ?_) (fun _ => ?_) | with_reducible refine asq_mk (fun _ => ?_) (fun _ => ?_) | with_reducible refine asp_dmk (fun _ => ?_) (fun _ => ?_) | with_reducible refine asp_ndmk (fun _ => ?_) (fun _ => ?_) | with_reducible refine asp_nmk (fun _ => ?_) (fun _ => ?_) | with_reducible refine asp_mk (fun _ => ?_) (fun _ => ?_) | with_reducible refine And.intro (by first | omega | rfl | decide | with_unfolding_all rfl) ?_ | simp only [go_sem, Nat.reduceLT, Nat.reduceAdd, Nat.reduceSub, Nat.reduceMul, Nat.reduceLeDiff, ne_eq, Nat.reduceEqDiff, not_false_eq_true, Bool.and_true, Bool.true_and, Nat.succ_ne_self, and_true, Bool.not_true, Bool.not_false, Int.toNat_zero, Int.reduceToNat, Nat.mul_one, Int.toNat_one, decide_true, decide_false, Int.reduceEq, Int.cast_ofNat_Int, Bool.false_eq_true, Bool.not_true, Bool.not_false, List.length_map, List.nil_append]
    first | exact .inr rfl | exact .inr trivial
theorem clone65 (zs : List Str) (h : zs.length ≤ 1000000000) : ACalls Try.prog 65 [.sl 1 (zs.map str)] (fun r => r = .mine 9 1 (zs.map str)) := by
  refine (clone65' zs h).wkr ?_
  rintro r (⟨rfl, rfl⟩ | rfl)
  · exact ⟨_, W1.nilmine 9 1, rfl, rfl⟩
  · exact ⟨_, W1.refl _, rfl, rfl⟩
theorem distinct42 (zs : List Str) (h : zs.length ≤ 10000000) : ACalls Try.prog 42 [.sl 1 (zs.map str)] (fun r => r = .own 9 1 ((dst zs).map str)) := by
  refine calls_short [(2,[100003],[]),(3,[100003],[])] ttok hmix Try.func42 (by decide) (by decide +kernel) (by simp only [Try.f42, Option.bind_some, comp, isLend, lendOf, lendX, lendC, lendH, Nat.reduceLeDiff, Nat.reduceSub, ne_eq, not_false_eq_true, and_self, cops, cguard, gslot, List.getElem?_toArray, List.getElem?_cons_succ, List.getElem?_cons_zero, vlook, tlook, cutAt_nil, cutAt, firstReg, isCut, mkSeq, Nat.reduceAdd, Nat.reduceEqDiff, reduceIte]; rfl) Try.ntmps42 Try.results42 ⟨_, rfl⟩ rfl ?_
  simp only [List.length_cons, List.length_nil, Nat.reduceAdd, Nat.reduceSub, List.replicate_succ, List.replicate_zero, List.cons_append, List.nil_append, num, str, tru]
  repeat' first | with_reducible refine asq_dmk (fun _ => ?_) (fun _ => ?_) | with_reducible refine asq_ndmk (fun _ => ?_) (fun _ => ?_) | with_reducible refine asq_nmk (fun _ => ?_) (fun _ => ?_) | with_reducible refine asq_mk (fun _ => ?_) (fun _ => ?_) | with_reducible refine asp_dmk (fun _ => ?_) (fun _ => ?_) | with_reducible refine asp_ndmk (fun _ => ?_) (fun _ => ?_) | with_reducible refine asp_nmk (fun _ => ?_) (fun _ => ?_) | with_reducible refine asp_mk (fun _ => ?_) (fun _ => ?_) | with_reducible refine And.intro (by first | omega | rfl | decide | with_unfolding_all rfl) ?_ | simp only [go_sem, Nat.reduceLT, Nat.reduceAdd, Nat.reduceSub, Nat.reduceMul, Nat.reduceLeDiff, ne_eq, Nat.reduceEqDiff, not_false_eq_true, Bool.and_true, Bool.true_and, Nat.succ_ne_self, and_true, Bool.not_true, Bool.not_false, Int.toNat_zero, Int.reduceToNat, Nat.mul_one, Int.toNat_one, decide_true, decide_false, Int.reduceEq, Int.cast_ofNat_Int, Bool.false_eq_true, Bool.not_true, Bool.not_false]
  refine (clone65 zs (by omega)).mono ?_
  rintro r rfl
  repeat' first | with_reducible refine asq_dmk (fun _ => ?_) (fun _ => ?_) | with_reducible refine asq_ndmk (fun _ => ?_) (fun _ => ?_) | with_reducible refine asq_nmk (fun _ => ?_) (fun _ => ?_) | with_reducible refine asq_mk (fun _ => ?_) (fun _ => ?_) | with_reducible refine asp_dmk (fun _ => ?_) (fun _ => ?_) | with_reducible refine asp_ndmk (fun _ => ?_) (fun _ => ?_) | with_reducible refine asp_nmk (fun _ => ?_) (fun _ => ?_) | with_reducible refine asp_mk (fun _ => ?_) (fun _ => ?_) | with_reducible refine And.intro (by first | omega | rfl | decide | with_unfolding_all rfl) ?_ | simp only [go_sem, Nat.reduceLT, Nat.reduceAdd, Nat.reduceSub, Nat.reduceMul, Nat.reduceLeDiff, ne_eq, Nat.reduceEqDiff, not_false_eq_true, Bool.and_true, Bool.true_and, Nat.succ_ne_self, and_true, Bool.not_true, Bool.not_false, Int.toNat_zero, Int.reduceToNat, Nat.mul_one, Int.toNat_one, decide_true, decide_false, Int.reduceEq, Int.cast_ofNat_Int, Bool.false_eq_true, Bool.not_true, Bool.not_false]
  refine RCalls.mono (sort66 zs h) ?_
  rintro r y ⟨rfl, rfl⟩
  repeat' first | with_reducible refine asq_dmk (fun _ => ?_) (fun _ => ?_) | with_reducible refine asq_ndmk (fun _ => ?_) (fun _ => ?_) | with_reducible refine asq_nmk (fun _ => ?_) (fun _ => ?_) | with_reducible refine asq_mk (fun _ => ?_) (fun _ => ?_) | with_reducible refine asp_dmk (fun _ => ?_) (fun _ => ?_) | with_reducible refine asp_ndmk (fun _ => ?_) (fun _ => ?_) | with_reducible refine asp_nmk (fun _ => ?_) (fun _ => ?_) | with_reducible refine asp_mk (fun _ => ?_) (fun _ => ?_) | with_reducible refine And.intro (by first | omega | rfl | decide | with_unfolding_all rfl) ?_ | simp only [go_sem, Nat.reduceLT, Nat.reduceAdd, Nat.reduceSub, Nat.reduceMul, Nat.reduceLeDiff, ne_eq, Nat.reduceEqDiff, not_false_eq_true, Bool.and_true, Bool.true_and, Nat.succ_ne_self, and_true, Bool.not_true, Bool.not_false, Int.toNat_zero, Int.reduceToNat, Nat.mul_one, Int.toNat_one, decide_true, decide_false, Int.reduceEq, Int.cast_ofNat_Int, Bool.false_eq_true, Bool.not_true, Bool.not_false]
  refine (compact67 _ (by rw [List.length_mergeSort]; exact h)).mono ?_
  rintro r rfl
  repeat' first | with_reducible refine asq_dmk (fun _ => ?_) (fun _ => ?_) | with_reducible refine asq_ndmk (fun _ => ?_) (fun _ => ?_) | with_reducible refine asq_nmk (fun _ => ?_) (fun _ => ?_) | with_reducible refine asq_mk (fun _ => ?_) (fun _ => ?_) | with_reducible refine asp_dmk (fun _ => ?_) (fun _ => ?_) | with_reducible refine asp_ndmk (fun _ => ?_) (fun _ => ?_) | with_reducible refine asp_nmk (fun _ => ?_) (fun _ => ?_) | with_reducible refine asp_mk (fun _ => ?_) (fun _ => ?_) | with_reducible refine And.intro (by first | omega | rfl | decide | with_unfolding_all rfl) ?_ | simp only [go_sem, Nat.reduceLT, Nat.reduceAdd, Nat.reduceSub, Nat.reduceMul, Nat.reduceLeDiff, ne_eq, Nat.reduceEqDiff, not_false_eq_true, Bool.and_true, Bool.true_and, Nat.succ_ne_self, and_true, Bool.not_true, Bool.not_false, Int.toNat_zero, Int.reduceToNat, Nat.mul_one, Int.toNat_one, decide_true, decide_false, Int.reduceEq, Int.cast_ofNat_Int, Bool.false_eq_true, Bool.not_true, Bool.not_false]
  rfl
theorem reverse40 (XS : List (Sto × Nat)) (hl : XS.length ≤ 1000000) : RCalls Try.prog 40 (.row 61 9 (XS.map qY)) [] (fun r y => r = .tup [] ∧ y = .row 61 9 (XS.reverse.map qY)) := by
  rw [List.map_reverse]
  refine reverse_row Try.laysSlE035_f40 9 (by decide) Try.isAgg61 Try.sizeOf61 ⟨_, _, Try.func40, rfl, by decide⟩ (XS.map qY) (fun x hx => ?_) (by simpa using hl)
  obtain ⟨y, _, rfl⟩ := List.mem_map.1 hx
  exact ⟨_, rfl, rfl⟩
theorem newest32M (L : List Sto) (tm : List AV) (cs : List Cnd) (hl : L.length ≤ 1000000) (hs : ∀ s ∈ L, StOk s) (hcl : cs.length ≤ 1000000) (hc : ∀ c ∈ cs, CndOk c) : ACalls Try.prog 32 [stA L tm, .sl 1 (cs.map cloA)] (fun r => r = .mine 61 9 ((newP (selF (holdsB cs) 0 L)).map qY)) := by
  simp only [stA]
  refine calls_short [(2,[100005],[]),(3,[100005],[])] ttok hmix Try.func32 (by decide) (by decide +kernel) (by simp only [Try.f32, Option.bind_some, comp, isLend, lendOf, lendX, lendC, lendH, Nat.reduceLeDiff, Nat.reduceSub, ne_eq, not_false_eq_true, and_self, cops, cguard, gslot, List.getElem?_toArray, List.getElem?_cons_succ, List.getElem?_cons_zero, vlook, tlook, cutAt_nil, cutAt, firstReg, isCut, mkSeq, Nat.reduceAdd, Nat.reduceEqDiff, reduceIte]; rfl) Try.ntmps32 Try.results32 ⟨_, rfl⟩ rfl ?_
  simp only [List.length_cons, List.length_nil, Nat.reduceAdd, Nat.reduceSub, List.replicate_succ, List.replicate_zero, List.cons_append, List.nil_append, num, str, tru]
  repeat' first | with_reducible refine asq_dmk (fun _ => ?_) (fun _ => ?_) | with_reducible refine asq_ndmk (fun _ => ?_) (fun _ => ?_) | with_reducible refine asq_nmk (fun _ => ?_) (fun _ => ?_) | with_reducible refine asq_mk (fun _ => ?_) (fun _ => ?_) | with_reducible refine asp_dmk (fun _ => ?_) (fun _ => ?_) | with_reducible refine asp_ndmk (fun _ => ?_) (fun _ => ?_) | with_reducible refine asp_nmk (fun _ => ?_) (fun _ => ?_) | with_reducible refine asp_mk (fun _ => ?_) (fun _ => ?_) | with_reducible refine And.intro (by first | omega | rfl | decide | with_unfolding_all rfl) ?_ | simp only [go_sem, Nat.reduceLT, Nat.reduceAdd, Nat.reduceSub, Nat.reduceMul, Nat.reduceLeDiff, ne_eq, Nat.reduceEqDiff, not_false_eq_true, Bool.and_true, Bool.true_and, Nat.succ_ne_self, and_true, Bool.not_true, Bool.not_false, Int.toNat_zero, Int.reduceToNat, Nat.mul_one, Int.toNat_one, decide_true, decide_false, Int.reduceEq, Int.cast_ofNat_Int, Bool.false_eq_true, Bool.not_true, Bool.not_false]
  refine ((each41 L tm cs).wk ?_).mono ?_
  · simp only [stA]
    repeat first | exact Wk.nil | exact Wk.refl _ | refine wk_agg ?_ ?_ | refine wk_ownsl ?_ | refine wk_nilsl ?_ | refine Wk.same ?_
  rintro r rfl
  simp only [stA]
  repeat' first | with_reducible refine asq_dmk (fun _ => ?_) (fun _ => ?_) | with_reducible refine asq_ndmk (fun _ => ?_) (fun _ => ?_) | with_reducible refine asq_nmk (fun _ => ?_) (fun _ => ?_) | with_reducible refine asq_mk (fun _ => ?_) (fun _ => ?_) | with_reducible refine asp_dmk (fun _ => ?_) (fun _ => ?_) | with_reducible refine asp_ndmk (fun _ => ?_) (fun _ => ?_) | with_reducible refine asp_nmk (fun _ => ?_) (fun _ => ?_) | with_reducible refine asp_mk (fun _ => ?_) (fun _ => ?_) | with_reducible refine And.intro (by first | omega | rfl | decide | with_unfolding_all rfl) ?_ | simp only [go_sem, Nat.reduceLT, Nat.reduceAdd, Nat.reduceSub, Nat.reduceMul, Nat.reduceLeDiff, ne_eq, Nat.reduceEqDiff, not_false_eq_true, Bool.and_true, Bool.true_and, Nat.succ_ne_self, and_true, Bool.not_true, Bool.not_false, Int.toNat_zero, Int.reduceToNat, Nat.mul_one, Int.toNat_one, decide_true, decide_false, Int.reduceEq, Int.cast_ofNat_Int, Bool.false_eq_true, Bool.not_true, Bool.not_false]
  refine (collect59 (selF (holdsB cs) 0 L) (by have := selF_len (p := holdsB cs) L 0; omega) (each64 L tm cs hl hs hcl hc)).mono ?_
  rintro r rfl
  repeat' first | with_reducible refine asq_dmk (fun _ => ?_) (fun _ => ?_) | with_reducible refine asq_ndmk (fun _ => ?_) (fun _ => ?_) | with_reducible refine asq_nmk (fun _ => ?_) (fun _ => ?_) | with_reducible refine asq_mk (fun _ => ?_) (fun _ => ?_) | with_reducible refine asp_dmk (fun _ => ?_) (fun _ => ?_) | with_reducible refine asp_ndmk (fun _ => ?_) (fun _ => ?_) | with_reducible refine asp_nmk (fun _ => ?_) (fun _ => ?_) | with_reducible refine asp_mk (fun _ => ?_) (fun _ => ?_) | with_reducible refine And.intro (by first | omega | rfl | decide | with_unfolding_all rfl) ?_ | simp only [go_sem, Nat.reduceLT, Nat.reduceAdd, Nat.reduceSub, Nat.reduceMul, Nat.reduceLeDiff, ne_eq, Nat.reduceEqDiff, not_false_eq_true, Bool.and_true, Bool.true_and, Nat.succ_ne_self, and_true, Bool.not_true, Bool.not_false, Int.toNat_zero, Int.reduceToNat, Nat.mul_one, Int.toNat_one, decide_true, decide_false, Int.reduceEq, Int.cast_ofNat_Int, Bool.false_eq_true, Bool.not_true, Bool.not_false]
  refine RCalls.mono (sort60 (selF (holdsB cs) 0 L) (by have := selF_len (p := holdsB cs) L 0; omega) (selF_asc L 0)) ?_
  rintro r y ⟨rfl, rfl⟩
  repeat' first | with_reducible refine asq_dmk (fun _ => ?_) (fun _ => ?_) | with_reducible refine asq_ndmk (fun _ => ?_) (fun _ => ?_) | with_reducible refine asq_nmk (fun _ => ?_) (fun _ => ?_) | with_reducible refine asq_mk (fun _ => ?_) (fun _ => ?_) | with_reducible refine asp_dmk (fun _ => ?_) (fun _ => ?_) | with_reducible refine asp_ndmk (fun _ => ?_) (fun _ => ?_) | with_reducible refine asp_nmk (fun _ => ?_) (fun _ => ?_) | with_reducible refine asp_mk (fun _ => ?_) (fun _ => ?_) | with_reducible refine And.intro (by first | omega | rfl | decide | with_unfolding_all rfl) ?_ | simp only [go_sem, Nat.reduceLT, Nat.reduceAdd, Nat.reduceSub, Nat.reduceMul, Nat.reduceLeDiff, ne_eq, Nat.reduceEqDiff, not_false_eq_true, Bool.and_true, Bool.true_and, Nat.succ_ne_self, and_true, Bool.not_true, Bool.not_false, Int.toNat_zero, Int.reduceToNat, Nat.mul_one, Int.toNat_one, decide_true, decide_false, Int.reduceEq, Int.cast_ofNat_Int, Bool.false_eq_true, Bool.not_true, Bool.not_false]
theorem W1.tup {xs ys : List AV} (h : Wk xs ys) : W1 (.tup xs) (.tup ys) := fun w S v c hr => by
  cases hr with
  | tup h1 h' hc =>
    cases h' with
    | nil hz =>
      obtain ⟨c', h2, hle⟩ := h.rep h1
      exact ⟨c', .tup h2 (.nil zc0) (fun b => by simp), fun b => by rw [hc]; have := hle b; omega⟩
theorem page20' (L : List Sto) (tm : List AV) (v : List UInt8) (p : Int) (hp : I64 p) (hl : L.length ≤ 100000) (hs : ∀ s ∈ L, StOk s) : ACalls Try.prog 20 [stA L tm, str v, num p] (fun r => r = .tup [.nil, num (((newL v L).length + 4) / 5 : Nat)] ∧ pgL ((newL v L).reverse.map (·.id)) p = [] ∨ r = .tup [.own 3 1 (nums (pgL ((newL v L).reverse.map (·.id)) p)), num (((newL v L).length + 4) / 5 : Nat)]) := by
  simp only [stA]
  refine calls_short [(1,[4],[]),(2,[100008],[]),(3,[8],[])] ttok hmix Try.func20 (by decide) (by decide +kernel) (by simp only [Try.f20, Option.bind_some, comp, isLend, lendOf, lendX, lendC, lendH, Nat.reduceLeDiff, Nat.reduceSub, ne_eq, not_false_eq_true, and_self, cops, cguard, gslot, List.getElem?_toArray, List.getElem?_cons_succ, List.getElem?_cons_zero, vlook, tlook, cutAt_nil, cutAt, firstReg, isCut, mkSeq, Nat.reduceAdd, Nat.reduceEqDiff, reduceIte]; rfl) Try.ntmps20 Try.results20 ⟨_, .inr rfl⟩ rfl ?_
  simp only [List.length_cons, List.length_nil, Nat.reduceAdd, Nat.reduceSub, List.replicate_succ, List.replicate_zero, List.cons_append, List.nil_append, num, str, tru]
  repeat' first | with_reducible refine asq_dmk (fun _ => ?_) (fun _ => ?_) | with_reducible refine asq_ndmk (fun _ => ?_) (fun _ => ?_) | with_reducible refine asq_nmk (fun _ => ?_) (fun _ => ?_) | with_reducible refine asq_mk (fun _ => ?_) (fun _ => ?_) | with_reducible refine asp_dmk (fun _ => ?_) (fun _ => ?_) | with_reducible refine asp_ndmk (fun _ => ?_) (fun _ => ?_) | with_reducible refine asp_nmk (fun _ => ?_) (fun _ => ?_) | with_reducible refine asp_mk (fun _ => ?_) (fun _ => ?_) | with_reducible refine And.intro (by first | omega | rfl | decide | with_unfolding_all rfl) ?_ | simp only [go_sem, Nat.reduceLT, Nat.reduceAdd, Nat.reduceSub, Nat.reduceMul, Nat.reduceLeDiff, ne_eq, Nat.reduceEqDiff, not_false_eq_true, Bool.and_true, Bool.true_and, Nat.succ_ne_self, and_true, Bool.not_true, Bool.not_false, Int.toNat_zero, Int.reduceToNat, Nat.mul_one, Int.toNat_one, decide_true, decide_false, Int.reduceEq, Int.cast_ofNat_Int, Bool.false_eq_true, Bool.not_true, Bool.not_false]
  refine ((newest32M L tm [cLat v 39] (by omega) hs (by simp) (fun c hc s a ho => ?_)).wk ?_).mono ?_
  · rw [List.mem_singleton] at hc
    subst hc
    exact page39 s a v ho.1
  · simp only [stA, List.map_cons, List.map_nil, cloA, cLat, cBy, num, str, tru]
    repeat first | exact Wk.nil | exact Wk.refl _ | refine wk_agg ?_ ?_ | refine wk_ownsl ?_ | refine wk_nilsl ?_ | refine Wk.same ?_
  rintro r rfl
  rw [holds_lat]
  have hXl : (newP (selF (fun s _ => hasB s v) 0 L)).length ≤ L.length := by rw [newP_len]; exact selF_len L 0
  have hM := newP_map v L
  obtain ⟨XS, hX⟩ : ∃ XS, newP (selF (fun s _ => hasB s v) 0 L) = XS := ⟨_, rfl⟩
  rw [hX] at hXl hM ⊢
  obtain ⟨M, hMM⟩ : ∃ M, newL v L = M := ⟨_, rfl⟩
  rw [hMM] at hM ⊢
  have hMl : M.length = XS.length := by rw [← hM, List.length_map]
  repeat' first | with_reducible refine asq_dmk (fun _ => ?_) (fun _ => ?_) | with_reducible refine asq_ndmk (fun _ => ?_) (fun _ => ?_) | with_reducible refine asq_nmk (fun _ => ?_) (fun _ => ?_) | with_reducible refine asq_mk (fun _ => ?_) (fun _ => ?_) | with_reducible refine asp_dmk (fun _ => ?_) (fun _ => ?_) | with_reducible refine asp_ndmk (fun _ => ?_) (fun _ => ?_) | with_reducible refine asp_nmk (fun _ => ?_) (fun _ => ?_) | with_reducible refine asp_mk (fun _ => ?_) (fun _ => ?_) | with_reducible refine And.intro (by first | omega | rfl | decide | with_unfolding_all rfl) ?_ | simp only [go_sem, Nat.reduceLT, Nat.reduceAdd, Nat.reduceSub, Nat.reduceMul, Nat.reduceLeDiff, ne_eq, Nat.reduceEqDiff, not_false_eq_true, Bool.and_true, Bool.true_and, Nat.succ_ne_self, and_true, Bool.not_true, Bool.not_false, Int.toNat_zero, Int.reduceToNat, Nat.mul_one, Int.toNat_one, decide_true, decide_false, Int.reduceEq, Int.cast_ofNat_Int, Bool.false_eq_true, Bool.not_true, Bool.not_false]
  refine RCalls.mono (reverse40 XS (by omega)) ?_
  rintro r y ⟨rfl, rfl⟩
  have hids : M.reverse.map (·.id) = XS.reverse.map (·.1.id) := by rw [← hM, List.map_reverse, List.map_reverse, List.map_map]; rfl
  rw [hids]
  obtain ⟨O, hO⟩ : ∃ O, XS.reverse = O := ⟨_, rfl⟩
  have hOl : O.length = M.length := by rw [← hO, List.length_reverse, hMl]
  rw [hO, ← hOl]
  obtain ⟨p1, p2⟩ := hp
  have hq : (O.length : Int).tdiv 5 = ((O.length / 5 : Nat) : Int) := (Int.ofNat_tdiv O.length 5).symm
  have hm : (O.length : Int).tmod 5 = ((O.length % 5 : Nat) : Int) := tmod_nat (n := 5) (by omega)
  have hwq : IntKind.i64.wrap ((O.length / 5 : Nat) : Int) = ((O.length / 5 : Nat) : Int) := wrap_in (by omega) (by omega)
  have hwm : IntKind.i64.wrap ((O.length % 5 : Nat) : Int) = ((O.length % 5 : Nat) : Int) := wrap_in (by omega) (by omega)
  obtain ⟨np, hnp⟩ : ∃ np, (O.length + 4) / 5 = np := ⟨_, rfl⟩
  rw [hnp]
  by_cases h5 : 0 < O.length % 5
  · have e5 := eq_true (show (0 : Int) < ((O.length % 5 : Nat) : Int) by omega)
    have hwp : IntKind.i64.wrap (((O.length / 5 : Nat) : Int) + 1) = (np : Int) := by rw [wrap_in (by omega) (by omega)]; omega
    have hwn : IntKind.i64.wrap (np : Int) = (np : Int) := wrap_in (by omega) (by omega)
    by_cases h1 : p < 1
    · have e1 := eq_true h1
      repeat' first | with_reducible refine asq_dmk (fun _ => ?_) (fun _ => ?_) | with_reducible refine asq_ndmk (fun _ => ?_) (fun _ => ?_) | with_reducible refine asq_nmk (fun _ => ?_) (fun _ => ?_) | with_reducible refine asq_mk (fun _ => ?_) (fun _ => ?_) | with_reducible refine asp_dmk (fun _ => ?_) (fun _ => ?_) | with_reducible refine asp_ndmk (fun _ => ?_) (fun _ => ?_) | with_reducible refine asp_nmk (fun _ => ?_) (fun _ => ?_) | with_reducible refine asp_mk (fun _ => ?_) (fun _ => ?_) | with_reducible refine And.intro (by first | omega | rfl | decide | with_unfolding_all rfl) ?_ | simp only [go_sem, Nat.reduceLT, Nat.reduceAdd, Nat.reduceSub, Nat.reduceMul, Nat.reduceLeDiff, ne_eq, Nat.reduceEqDiff, not_false_eq_true, Bool.and_true, Bool.true_and, Nat.succ_ne_self, and_true, Bool.not_true, Bool.not_false, Int.toNat_zero, Int.reduceToNat, Nat.mul_one, Int.toNat_one, decide_true, decide_false, Int.reduceEq, Int.cast_ofNat_Int, Bool.false_eq_true, Bool.not_true, Bool.not_false, hq, hm, hwq, hwm, e5, hwp, hwn, List.length_map, e1]
      have hp0 : pgL (O.map (·.1.id)) p = [] := by rw [pgL, if_neg (by omega)]
      first | exact .inl ⟨rfl, hp0⟩ | exact .inl hp0
    have e1 := eq_false h1
    by_cases h2 : (np : Int) < p
    · have e2 := eq_true h2
      repeat' first | with_reducible refine asq_dmk (fun _ => ?_) (fun _ => ?_) | with_reducible refine asq_ndmk (fun _ => ?_) (fun _ => ?_) | with_reducible refine asq_nmk (fun _ => ?_) (fun _ => ?_) | with_reducible refine asq_mk (fun _ => ?_) (fun _ => ?_) | with_reducible refine asp_dmk (fun _ => ?_) (fun _ => ?_) | with_reducible refine asp_ndmk (fun _ => ?_) (fun _ => ?_) | with_reducible refine asp_nmk (fun _ => ?_) (fun _ => ?_) | with_reducible refine asp_mk (fun _ => ?_) (fun _ => ?_) | with_reducible refine And.intro (by first | omega | rfl | decide | with_unfolding_all rfl) ?_ | simp only [go_sem, Nat.reduceLT, Nat.reduceAdd, Nat.reduceSub, Nat.reduceMul, Nat.reduceLeDiff, ne_eq, Nat.reduceEqDiff, not_false_eq_true, Bool.and_true, Bool.true_and, Nat.succ_ne_self, and_true, Bool.not_true, Bool.not_false, Int.toNat_zero, Int.reduceToNat, Nat.mul_one, Int.toNat_one, decide_true, decide_false, Int.reduceEq, Int.cast_ofNat_Int, Bool.false_eq_true, Bool.not_true, Bool.not_false, hq, hm, hwq, hwm, e5, hwp, hwn, List.length_map, e1, e2]
      have hp0 : pgL (O.map (·.1.id)) p = [] := by rw [pgL, if_pos (by omega), List.drop_of_length_le (by rw [List.length_map]; omega), List.take_nil]
      first | exact .inl ⟨rfl, hp0⟩ | exact .inl hp0
    have e2 := eq_false h2
    have hw1 : IntKind.i64.wrap (p - 1) = p - 1 := wrap_in (by omega) (by omega)
    have hw2 : IntKind.i64.wrap ((p - 1) * 5) = (p - 1) * 5 := wrap_in (by omega) (by omega)
    have hdr : List.take (O.length - ((p - 1) * 5).toNat) (List.drop ((p - 1) * 5).toNat (O.map qY)) = (O.drop ((p - 1) * 5).toNat).map qY := by
      rw [← List.map_drop, List.take_of_length_le (by simp)]
    repeat' first | with_reducible refine asq_dmk (fun _ => ?_) (fun _ => ?_) | with_reducible refine asq_ndmk (fun _ => ?_) (fun _ => ?_) | with_reducible refine asq_nmk (fun _ => ?_) (fun _ => ?_) | with_reducible refine asq_mk (fun _ => ?_) (fun _ => ?_) | with_reducible refine asp_dmk (fun _ => ?_) (fun _ => ?_) | with_reducible refine asp_ndmk (fun _ => ?_) (fun _ => ?_) | with_reducible refine asp_nmk (fun _ => ?_) (fun _ => ?_) | with_reducible refine asp_mk (fun _ => ?_) (fun _ => ?_) | with_reducible refine And.intro (by first | omega | rfl | decide | with_unfolding_all rfl) ?_ | simp only [go_sem, Nat.reduceLT, Nat.reduceAdd, Nat.reduceSub, Nat.reduceMul, Nat.reduceLeDiff, ne_eq, Nat.reduceEqDiff, not_false_eq_true, Bool.and_true, Bool.true_and, Nat.succ_ne_self, and_true, Bool.not_true, Bool.not_false, Int.toNat_zero, Int.reduceToNat, Nat.mul_one, Int.toNat_one, decide_true, decide_false, Int.reduceEq, Int.cast_ofNat_Int, Bool.false_eq_true, Bool.not_true, Bool.not_false, hq, hm, hwq, hwm, e5, hwp, hwn, List.length_map, e1, e2, hw1, hw2, hdr, Int.toNat_natCast]
    refine ((convert35 (O.drop ((p - 1) * 5).toNat) 5 (by rw [List.length_drop]; omega)).wk ?_).mono ?_
    · simp only [num, str, tru]
      repeat first | exact Wk.nil | exact Wk.refl _ | refine wk_agg ?_ ?_ | refine wk_ownsl ?_ | refine wk_nilsl ?_ | refine Wk.same ?_
    rintro r rfl
    repeat' first | with_reducible refine asq_dmk (fun _ => ?_) (fun _ => ?_) | with_reducible refine asq_ndmk (fun _ => ?_) (fun _ => ?_) | with_reducible refine asq_nmk (fun _ => ?_) (fun _ => ?_) | with_reducible refine asq_mk (fun _ => ?_) (fun _ => ?_) | with_reducible refine asp_dmk (fun _ => ?_) (fun _ => ?_) | with_reducible refine asp_ndmk (fun _ => ?_) (fun _ => ?_) | with_reducible refine asp_nmk (fun _ => ?_) (fun _ => ?_) | with_reducible refine asp_mk (fun _ => ?_) (fun _ => ?_) | with_reducible refine And.intro (by first | omega | rfl | decide | with_unfolding_all rfl) ?_ | simp only [go_sem, Nat.reduceLT, Nat.reduceAdd, Nat.reduceSub, Nat.reduceMul, Nat.reduceLeDiff, ne_eq, Nat.reduceEqDiff, not_false_eq_true, Bool.and_true, Bool.true_and, Nat.succ_ne_self, and_true, Bool.not_true, Bool.not_false, Int.toNat_zero, Int.reduceToNat, Nat.mul_one, Int.toNat_one, decide_true, decide_false, Int.reduceEq, Int.cast_ofNat_Int, Bool.false_eq_true, Bool.not_true, Bool.not_false, hq, hm, hwq, hwm, e5, hwp, hwn, List.length_map, e1, e2]
    have hpg : pgL (O.map (·.1.id)) p = ((O.drop ((p - 1) * 5).toNat).map (·.1.id)).take 5 := by
      rw [pgL, if_pos (by omega), List.map_drop, show 5 * (p - 1).toNat = ((p - 1) * 5).toNat by omega]
    all_goals rw [hpg]
    all_goals first | exact .inr rfl | rfl
  · have e5 := eq_false (show ¬ (0 : Int) < ((O.length % 5 : Nat) : Int) by omega)
    have hwp : ((O.length / 5 : Nat) : Int) = (np : Int) := by omega
    have hwn : IntKind.i64.wrap (np : Int) = (np : Int) := wrap_in (by omega) (by omega)
    by_cases h1 : p < 1
    · have e1 := eq_true h1
      repeat' first | with_reducible refine asq_dmk (fun _ => ?_) (fun _ => ?_) | with_reducible refine asq_ndmk (fun _ => ?_) (fun _ => ?_) | with_reducible refine asq_nmk (fun _ => ?_) (fun _ => ?_) | with_reducible refine asq_mk (fun _ => ?_) (fun _ => ?_) | with_reducible refine asp_dmk (fun _ => ?_) (fun _ => ?_) | with_reducible refine asp_ndmk (fun _ => ?_) (fun _ => ?_) | with_reducible refine asp_nmk (fun _ => ?_) (fun _ => ?_) | with_reducible refine asp_mk (fun _ => ?_) (fun _ => ?_) | with_reducible refine And.intro (by first | omega | rfl | decide | with_unfolding_all rfl) ?_ | simp only [go_sem, Nat.reduceLT, Nat.reduceAdd, Nat.reduceSub, Nat.reduceMul, Nat.reduceLeDiff, ne_eq, Nat.reduceEqDiff, not_false_eq_true, Bool.and_true, Bool.true_and, Nat.succ_ne_self, and_true, Bool.not_true, Bool.not_false, Int.toNat_zero, Int.reduceToNat, Nat.mul_one, Int.toNat_one, decide_true, decide_false, Int.reduceEq, Int.cast_ofNat_Int, Bool.false_eq_true, Bool.not_true, Bool.not_false, hq, hm, hwq, hwm, e5, hwp, hwn, List.length_map, e1]
      have hp0 : pgL (O.map (·.1.id)) p = [] := by rw [pgL, if_neg (by omega)]
      first | exact .inl ⟨rfl, hp0⟩ | exact .inl hp0
    have e1 := eq_false h1
    by_cases h2 : (np : Int) < p
    · have e2 := eq_true h2
      repeat' first | with_reducible refine asq_dmk (fun _ => ?_) (fun _ => ?_) | with_reducible refine asq_ndmk (fun _ => ?_) (fun _ => ?_) | with_reducible refine asq_nmk (fun _ => ?_) (fun _ => ?_) | with_reducible refine asq_mk (fun _ => ?_) (fun _ => ?_) | with_reducible refine asp_dmk (fun _ => ?_) (fun _ => ?_) | with_reducible refine asp_ndmk (fun _ => ?_) (fun _ => ?_) | with_reducible refine asp_nmk (fun _ => ?_) (fun _ => ?_) | with_reducible refine asp_mk (fun _ => ?_) (fun _ => ?_) | with_reducible refine And.intro (by first | omega | rfl | decide | with_unfolding_all rfl) ?_ | simp only [go_sem, Nat.reduceLT, Nat.reduceAdd, Nat.reduceSub, Nat.reduceMul, Nat.reduceLeDiff, ne_eq, Nat.reduceEqDiff, not_false_eq_true, Bool.and_true, Bool.true_and, Nat.succ_ne_self, and_true, Bool.not_true, Bool.not_false, Int.toNat_zero, Int.reduceToNat, Nat.mul_one, Int.toNat_one, decide_true, decide_false, Int.reduceEq, Int.cast_ofNat_Int, Bool.false_eq_true, Bool.not_true, Bool.not_false, hq, hm, hwq, hwm, e5, hwp, hwn, List.length_map, e1, e2]
      have hp0 : pgL (O.map (·.1.id)) p = [] := by rw [pgL, if_pos (by omega), List.drop_of_length_le (by rw [List.length_map]; omega), List.take_nil]
      first | exact .inl ⟨rfl, hp0⟩ | exact .inl hp0
    have e2 := eq_false h2
    have hw1 : IntKind.i64.wrap (p - 1) = p - 1 := wrap_in (by omega) (by omega)
    have hw2 : IntKind.i64.wrap ((p - 1) * 5) = (p - 1) * 5 := wrap_in (by omega) (by omega)
    have hdr : List.take (O.length - ((p - 1) * 5).toNat) (List.drop ((p - 1) * 5).toNat (O.map qY)) = (O.drop ((p - 1) * 5).toNat).map qY := by
      rw [← List.map_drop, List.take_of_length_le (by simp)]
    repeat' first | with_reducible refine asq_dmk (fun _ => ?_) (fun _ => ?_) | with_reducible refine asq_ndmk (fun _ => ?_) (fun _ => ?_) | with_reducible refine asq_nmk (fun _ => ?_) (fun _ => ?_) | with_reducible refine asq_mk (fun _ => ?_) (fun _ => ?_) | with_reducible refine asp_dmk (fun _ => ?_) (fun _ => ?_) | with_reducible refine asp_ndmk (fun _ => ?_) (fun _ => ?_) | with_reducible refine asp_nmk (fun _ => ?_) (fun _ => ?_) | with_reducible refine asp_mk (fun _ => ?_) (fun _ => ?_) | with_reducible refine And.intro (by first | omega | rfl | decide | with_unfolding_all rfl) ?_ | simp only [go_sem, Nat.reduceLT, Nat.reduceAdd, Nat.reduceSub, Nat.reduceMul, Nat.reduceLeDiff, ne_eq, Nat.reduceEqDiff, not_false_eq_true, Bool.and_true, Bool.true_and, Nat.succ_ne_self, and_true, Bool.not_true, Bool.not_false, Int.toNat_zero, Int.reduceToNat, Nat.mul_one, Int.toNat_one, decide_true, decide_false, Int.reduceEq, Int.cast_ofNat_Int, Bool.false_eq_true, Bool.not_true, Bool.not_false, hq, hm, hwq, hwm, e5, hwp, hwn, List.length_map, e1, e2, hw1, hw2, hdr, Int.toNat_natCast]
    refine ((convert35 (O.drop ((p - 1) * 5).toNat) 5 (by rw [List.length_drop]; omega)).wk ?_).mono ?_
    · simp only [num, str, tru]
      repeat first | exact Wk.nil | exact Wk.refl _ | refine wk_agg ?_ ?_ | refine wk_ownsl ?_ | refine wk_nilsl ?_ | refine Wk.same ?_
    rintro r rfl
    repeat' first | with_reducible refine asq_dmk (fun _ => ?_) (fun _ => ?_) | with_reducible refine asq_ndmk (fun _ => ?_) (fun _ => ?_) | with_reducible refine asq_nmk (fun _ => ?_) (fun _ => ?_) | with_reducible refine asq_mk (fun _ => ?_) (fun _ => ?_) | with_reducible refine asp_dmk (fun _ => ?_) (fun _ => ?_) | with_reducible refine asp_ndmk (fun _ => ?_) (fun _ => ?_) | with_reducible refine asp_nmk (fun _ => ?_) (fun _ => ?_) | with_reducible refine asp_mk (fun _ => ?_) (fun _ => ?_) | with_reducible refine And.intro (by first | omega | rfl | decide | with_unfolding_all rfl) ?_ | simp only [go_sem, Nat.reduceLT, Nat.reduceAdd, Nat.reduceSub, Nat.reduceMul, Nat.reduceLeDiff, ne_eq, Nat.reduceEqDiff, not_false_eq_true, Bool.and_true, Bool.true_and, Nat.succ_ne_self, and_true, Bool.not_true, Bool.not_false, Int.toNat_zero, Int.reduceToNat, Nat.mul_one, Int.toNat_one, decide_true, decide_false, Int.reduceEq, Int.cast_ofNat_Int, Bool.false_eq_true, Bool.not_true, Bool.not_false, hq, hm, hwq, hwm, e5, hwp, hwn, List.length_map, e1, e2]
    have hpg : pgL (O.map (·.1.id)) p = ((O.drop ((p - 1) * 5).toNat).map (·.1.id)).take 5 := by
      rw [pgL, if_pos (by omega), List.map_drop, show 5 * (p - 1).toNat = ((p - 1) * 5).toNat by omega]
    all_goals rw [hpg]
    all_goals first | exact .inr rfl | rfl
theorem page20 (L : List Sto) (tm : List AV) (v : List UInt8) (p : Int) (hp : I64 p) (hl : L.length ≤ 100000) (hs : ∀ s ∈ L, StOk s) : ACalls Try.prog 20 [stA L tm, str v, num p] (fun r => r = .tup [.own 3 1 (nums (pgL ((newL v L).reverse.map (·.id)) p)), num (((newL v L).length + 4) / 5 : Nat)]) := by
  refine (page20' L tm v p hp hl hs).wkr ?_
  rintro r (⟨rfl, h⟩ | rfl)
  · refine ⟨_, W1.tup (wk_nilown (e := 3) (k := 1) (.same .nil)), rfl, by rw [h]; rfl⟩
  · exact ⟨_, W1.refl _, rfl, rfl⟩
end Go.Proofs.Ytgnclmmijijimaa
