/- The walk of LabelConditions. -/
import Derived.Test.YtohelofjlkoboaaT
import Derived.Test.YtohelofjlkoboaaA10
import Derived.Test.YtohelofjlkoboaaE14
namespace Go.Proofs.Ytohelofjlkoboaa
open Go.RowKit Go.Proofs
set_option linter.unusedSimpArgs false
set_option linter.unusedVariables false
set_option maxRecDepth 100000
set_option maxHeartbeats 4000000
theorem shr_val : ∀ (x : Fin 16) (y : Fin 4), iand .i64 (ishr .i64 x.val y.val) 1 = if bitL x.val y.val then 1 else 0 := by decide +kernel
theorem shr_eq {x : Int} {i : Nat} (hx : 0 ≤ x ∧ x ≤ 15) (hi : i < 4) : iand .i64 (ishr .i64 x i) 1 = if bitL x i then 1 else 0 := by
  obtain ⟨k, rfl⟩ := fin_of (n := 16) hx.1 (by omega)
  exact shr_val k ⟨i, hi⟩
theorem all_self (l : List Int) : (l.all fun x => decide (x ∈ l)) = true := by simp
theorem allows_self {L : Lb} (ok : okL L = true) {i : Nat} (hi : i < 4) : allowsL L i L.u L.a L.n = !bitL L.d i := by
  have e2 : (i : Int) ≤ 3 := by omega
  simp only [allowsL, ok, all_self, Int.le_refl, e2, show (0 : Int) ≤ i by omega, decide_true, Bool.true_and, Bool.and_true, Int.toNat_natCast]
theorem allows_early (L : Lb) (k : Int) (out : List Int) (n : Int) : allowsL L k (L.u - 1) out n = false := by
  have : ¬ (L.u ≤ L.u - 1) := by omega
  simp only [allowsL, this, decide_false, Bool.and_false, Bool.false_and]
theorem allows_few (L : Lb) (k now : Int) (out : List Int) : allowsL L k now out (L.n - 1) = false := by
  have : ¬ (L.n ≤ L.n - 1) := by omega
  simp only [allowsL, this, decide_false, Bool.and_false, Bool.false_and]
theorem allows_neg (L : Lb) (now : Int) (out : List Int) (n : Int) : allowsL L (-1) now out n = false := by
  simp only [allowsL, show ¬ ((0 : Int) ≤ -1) by omega, decide_false, Bool.and_false, Bool.false_and]
theorem allows_big (L : Lb) (now : Int) (out : List Int) (n : Int) : allowsL L 4 now out n = false := by
  simp only [allowsL, show ¬ ((4 : Int) ≤ 3) by omega, decide_false, Bool.and_false, Bool.false_and]
theorem allows_miss {L : Lb} (ok : okL L = true) (k now n : Int) {j : Nat} (hj : j < L.a.length) : allowsL L k now (L.a.take j ++ L.a.drop (j + 1)) n = false := by
  have hp := (asc_pw (okL_a ok)).1
  have : (L.a.all fun x => decide (x ∈ L.a.take j ++ L.a.drop (j + 1))) = false := by
    rw [List.all_eq_false]
    refine ⟨L.a[j], List.getElem_mem hj, ?_⟩
    simp only [decide_eq_true_eq, List.mem_append, not_or]
    constructor
    · intro h
      obtain ⟨i, hi, he⟩ := List.getElem_of_mem h
      simp only [List.length_take] at hi
      rw [List.getElem_take] at he
      have := List.pairwise_iff_getElem.1 hp i j (by omega) hj (by omega)
      omega
    · intro h
      obtain ⟨i, hi, he⟩ := List.getElem_of_mem h
      simp only [List.length_drop] at hi
      rw [List.getElem_drop] at he
      have := List.pairwise_iff_getElem.1 hp j (j + 1 + i) hj (by omega) (by omega)
      omega
  simp only [allowsL, this, Bool.and_false]
set_option maxHeartbeats 4000000 in
theorem law10 (x0_0 x0_1 x0_2 x0_3 : Int) (x1 : Int) (h0_0 : I64 x0_0) (h0_1 : I64 x0_1) (h0_2 : I64 x0_2) (h0_3 : I64 x0_3) (h1 : I64 x1) : ACalls Try.prog 10 [.agg [num x0_0, num x0_1, num x0_2, num x0_3], num x1] (fun r => r = tru true) := by
  refine calls_short [] ttok hmix Try.func10 (by decide) (by decide +kernel) (by simp only [Try.f10, Option.bind_some, comp, cops, cguard, gslot, List.getElem?_toArray, List.getElem?_cons_succ, List.getElem?_cons_zero, vlook, tlook]; rfl) Try.ntmps10 Try.results10 ⟨_, rfl⟩ rfl ?_
  simp only [List.length_cons, List.length_nil, Nat.reduceAdd, Nat.reduceSub, List.replicate_succ, List.replicate_zero, List.cons_append, List.nil_append, num, str, tru]
  simp (decide := true) only [mkd_eq [9, 6] [6, 6] [] [[], [6], [6], [9], [], [], [6], [6], [9], [], [], [], []], List.zip_cons_cons, List.zip_nil_left, List.zip_nil_right]
  simp only [go_sem, Nat.reduceAdd, Nat.reduceSub, Nat.reduceMul, Nat.reduceLeDiff, ne_eq, Nat.reduceEqDiff, not_false_eq_true, Bool.and_true, Bool.true_and, Nat.succ_ne_self, and_true, Bool.not_true, Bool.not_false, Int.toNat_zero, Int.reduceToNat, Nat.mul_one, Int.toNat_one, num, tru]
  repeat' first | with_reducible refine asq_dmk (fun _ => ?_) (fun _ => ?_) | with_reducible refine asq_ndmk (fun _ => ?_) (fun _ => ?_) | with_reducible refine asq_nmk (fun _ => ?_) (fun _ => ?_) | with_reducible refine asq_mk (fun _ => ?_) (fun _ => ?_) | with_reducible refine asp_dmk (fun _ => ?_) (fun _ => ?_) | with_reducible refine asp_ndmk (fun _ => ?_) (fun _ => ?_) | with_reducible refine asp_nmk (fun _ => ?_) (fun _ => ?_) | with_reducible refine asp_mk (fun _ => ?_) (fun _ => ?_) | with_reducible refine And.intro (by first | omega | rfl | decide) ?_ | simp only [go_sem, Nat.reduceAdd, Nat.reduceSub, Nat.reduceMul, Nat.reduceLeDiff, ne_eq, Nat.reduceEqDiff, not_false_eq_true, Bool.and_true, Bool.true_and, Nat.succ_ne_self, and_true, Bool.not_true, Bool.not_false, Int.toNat_zero, Int.reduceToNat, Nat.mul_one, Int.toNat_one]
  refine sane13.mono ?_
  rintro r rfl
  simp only [tru]
  repeat' first | with_reducible refine asq_dmk (fun _ => ?_) (fun _ => ?_) | with_reducible refine asq_ndmk (fun _ => ?_) (fun _ => ?_) | with_reducible refine asq_nmk (fun _ => ?_) (fun _ => ?_) | with_reducible refine asq_mk (fun _ => ?_) (fun _ => ?_) | with_reducible refine asp_dmk (fun _ => ?_) (fun _ => ?_) | with_reducible refine asp_ndmk (fun _ => ?_) (fun _ => ?_) | with_reducible refine asp_nmk (fun _ => ?_) (fun _ => ?_) | with_reducible refine asp_mk (fun _ => ?_) (fun _ => ?_) | with_reducible refine And.intro (by first | omega | rfl | decide) ?_ | simp only [go_sem, Nat.reduceAdd, Nat.reduceSub, Nat.reduceMul, Nat.reduceLeDiff, ne_eq, Nat.reduceEqDiff, not_false_eq_true, Bool.and_true, Bool.true_and, Nat.succ_ne_self, and_true, Bool.not_true, Bool.not_false, Int.toNat_zero, Int.reduceToNat, Nat.mul_one, Int.toNat_one]
  refine (make14 x0_0 x0_1 x0_2 x0_3 h0_0 h0_2 h0_3).mono ?_
  rintro r rfl
  obtain ⟨L, hL, okk⟩ : ∃ L, makeL x0_0 x0_1 x0_2 x0_3 = L ∧ okL L = true := ⟨_, rfl, ok_make ..⟩
  rw [hL]
  simp only [labO, num]
  repeat' first | with_reducible refine asq_dmk (fun _ => ?_) (fun _ => ?_) | with_reducible refine asq_ndmk (fun _ => ?_) (fun _ => ?_) | with_reducible refine asq_nmk (fun _ => ?_) (fun _ => ?_) | with_reducible refine asq_mk (fun _ => ?_) (fun _ => ?_) | with_reducible refine asp_dmk (fun _ => ?_) (fun _ => ?_) | with_reducible refine asp_ndmk (fun _ => ?_) (fun _ => ?_) | with_reducible refine asp_nmk (fun _ => ?_) (fun _ => ?_) | with_reducible refine asp_mk (fun _ => ?_) (fun _ => ?_) | with_reducible refine And.intro (by first | omega | rfl | decide) ?_ | simp only [go_sem, Nat.reduceAdd, Nat.reduceSub, Nat.reduceMul, Nat.reduceLeDiff, ne_eq, Nat.reduceEqDiff, not_false_eq_true, Bool.and_true, Bool.true_and, Nat.succ_ne_self, and_true, Bool.not_true, Bool.not_false, Int.toNat_zero, Int.reduceToNat, Nat.mul_one, Int.toNat_one]
  have hu := okL_u okk
  have hn := okL_n okk
  have hd := okL_d okk
  have hlen := len_ok okk
  refine cwp_loop [false, false, false, false, false, true, true, true, true, true, true, false, true, true, true, true, true, true, true, true, true, true, true, true, true, true, true, true, true, true, true, true, true, true, true, true, true, true, true, true, true, true, true, true, true, true, true, true, true, true, true, true, true, true, true, true, true, true, true, true, true, true, true, true, true, true, true, true, true, true, true, true, true, true, true, true, true, true, true, true, true, true, true, true, true, true, true, true, true, true, true, true, true, true, true, true, true, false, false, false, false, false, false, false, false, false, false, false, false, false, false, false, false, false, false, false, false, false, false, false] [5, 6, 7] (fun n xs => ∃ i : Nat, i + n = 4 ∧ xs = [.raw (.bool true), .box 26 [num L.u, .sl 1 (nums L.a), num L.n, num L.d], num i]) ⟨4, _, ⟨0, rfl, rfl⟩, ?_⟩ ?_
  · simp only [hvm_t, hvm_f, hvm_nil, puts_cons, puts_nil, List.set_cons_zero, List.set_cons_succ, num]
    repeat first | exact Wk.refl _ | exact Wk.nil | refine Wk.same ?_ | refine wk_any ?_ | refine wk_boxe (Wk.same (wk_ownsl (Wk.refl _))) ?_
  · rintro n xs ⟨i, hi, rfl⟩
    simp only [hvm_t, hvm_f, hvm_nil, puts_cons, puts_nil, List.set_cons_zero, List.set_cons_succ, num]
    simp only [go_sem, Nat.reduceAdd, Nat.reduceSub, Nat.reduceMul, Nat.reduceLeDiff, ne_eq, Nat.reduceEqDiff, not_false_eq_true, Bool.and_true, Bool.true_and, Nat.succ_ne_self, and_true, Bool.not_true, Bool.not_false, Int.toNat_zero, Int.reduceToNat, Nat.mul_one, Int.toNat_one]
    refine asq_dmk (fun g1 => ?_) (fun g1 => ?_)
    · have hi4 : i < 4 := by omega
      have hw : IntKind.i64.wrap ((i : Int) + 1) = ((i + 1 : Nat) : Int) := wrap_succ (by omega)
      have hw1 : IntKind.i64.wrap (L.u - 1) = L.u - 1 := wrap_in (by omega) (by omega)
      have hw2 : IntKind.i64.wrap (L.n - 1) = L.n - 1 := wrap_in (by omega) (by omega)
      have hsh := shr_eq hd hi4
      have hal : decide ((if bitL L.d i then (1 : Int) else 0) = 0) = !bitL L.d i := by cases bitL L.d i <;> rfl
      repeat' first | with_reducible refine asq_dmk (fun _ => ?_) (fun _ => ?_) | with_reducible refine asq_ndmk (fun _ => ?_) (fun _ => ?_) | with_reducible refine asq_nmk (fun _ => ?_) (fun _ => ?_) | with_reducible refine asq_mk (fun _ => ?_) (fun _ => ?_) | with_reducible refine asp_dmk (fun _ => ?_) (fun _ => ?_) | with_reducible refine asp_ndmk (fun _ => ?_) (fun _ => ?_) | with_reducible refine asp_nmk (fun _ => ?_) (fun _ => ?_) | with_reducible refine asp_mk (fun _ => ?_) (fun _ => ?_) | with_reducible refine And.intro (by first | omega | rfl | decide) ?_ | simp only [go_sem, Nat.reduceAdd, Nat.reduceSub, Nat.reduceMul, Nat.reduceLeDiff, ne_eq, Nat.reduceEqDiff, not_false_eq_true, Bool.and_true, Bool.true_and, Nat.succ_ne_self, and_true, Bool.not_true, Bool.not_false, Int.toNat_zero, Int.reduceToNat, Nat.mul_one, Int.toNat_one, hsh, hal, hw1, hw2]
      refine ((allows24 L i L.u L.a L.n hlen hlen).wk ?_).mono ?_
      · simp only [lab, num, nums_nil]
        repeat first | exact Wk.nil | exact Wk.refl _ | refine wk_agg ?_ ?_ | refine wk_ownsl ?_ | refine wk_nilsl ?_ | refine Wk.same ?_
      rintro r rfl
      rw [allows_self okk hi4]
      simp only [tru, labO, num]
      repeat' first | with_reducible refine asq_dmk (fun _ => ?_) (fun _ => ?_) | with_reducible refine asq_ndmk (fun _ => ?_) (fun _ => ?_) | with_reducible refine asq_nmk (fun _ => ?_) (fun _ => ?_) | with_reducible refine asq_mk (fun _ => ?_) (fun _ => ?_) | with_reducible refine asp_dmk (fun _ => ?_) (fun _ => ?_) | with_reducible refine asp_ndmk (fun _ => ?_) (fun _ => ?_) | with_reducible refine asp_nmk (fun _ => ?_) (fun _ => ?_) | with_reducible refine asp_mk (fun _ => ?_) (fun _ => ?_) | with_reducible refine And.intro (by first | omega | rfl | decide) ?_ | simp only [go_sem, Nat.reduceAdd, Nat.reduceSub, Nat.reduceMul, Nat.reduceLeDiff, ne_eq, Nat.reduceEqDiff, not_false_eq_true, Bool.and_true, Bool.true_and, Nat.succ_ne_self, and_true, Bool.not_true, Bool.not_false, Int.toNat_zero, Int.reduceToNat, Nat.mul_one, Int.toNat_one, hw, Bool.and_false, Bool.false_and, Bool.not_true, Bool.not_false, beq_self_eq_true, hsh, hal, hw1, hw2, Bool.and_self]
      refine ((allows24 L i (L.u - 1) L.a L.n hlen hlen).wk ?_).mono ?_
      · simp only [lab, num, nums_nil]
        repeat first | exact Wk.nil | exact Wk.refl _ | refine wk_agg ?_ ?_ | refine wk_ownsl ?_ | refine wk_nilsl ?_ | refine Wk.same ?_
      rintro r rfl
      rw [allows_early]
      simp only [tru, labO, num]
      repeat' first | with_reducible refine asq_dmk (fun _ => ?_) (fun _ => ?_) | with_reducible refine asq_ndmk (fun _ => ?_) (fun _ => ?_) | with_reducible refine asq_nmk (fun _ => ?_) (fun _ => ?_) | with_reducible refine asq_mk (fun _ => ?_) (fun _ => ?_) | with_reducible refine asp_dmk (fun _ => ?_) (fun _ => ?_) | with_reducible refine asp_ndmk (fun _ => ?_) (fun _ => ?_) | with_reducible refine asp_nmk (fun _ => ?_) (fun _ => ?_) | with_reducible refine asp_mk (fun _ => ?_) (fun _ => ?_) | with_reducible refine And.intro (by first | omega | rfl | decide) ?_ | simp only [go_sem, Nat.reduceAdd, Nat.reduceSub, Nat.reduceMul, Nat.reduceLeDiff, ne_eq, Nat.reduceEqDiff, not_false_eq_true, Bool.and_true, Bool.true_and, Nat.succ_ne_self, and_true, Bool.not_true, Bool.not_false, Int.toNat_zero, Int.reduceToNat, Nat.mul_one, Int.toNat_one, hw, Bool.and_false, Bool.false_and, Bool.not_true, Bool.not_false, beq_self_eq_true, hsh, hal, hw1, hw2, Bool.and_self]
      refine ((allows24 L i L.u L.a (L.n - 1) hlen hlen).wk ?_).mono ?_
      · simp only [lab, num, nums_nil]
        repeat first | exact Wk.nil | exact Wk.refl _ | refine wk_agg ?_ ?_ | refine wk_ownsl ?_ | refine wk_nilsl ?_ | refine Wk.same ?_
      rintro r rfl
      rw [allows_few]
      simp only [tru, labO, num]
      repeat' first | with_reducible refine asq_dmk (fun _ => ?_) (fun _ => ?_) | with_reducible refine asq_ndmk (fun _ => ?_) (fun _ => ?_) | with_reducible refine asq_nmk (fun _ => ?_) (fun _ => ?_) | with_reducible refine asq_mk (fun _ => ?_) (fun _ => ?_) | with_reducible refine asp_dmk (fun _ => ?_) (fun _ => ?_) | with_reducible refine asp_ndmk (fun _ => ?_) (fun _ => ?_) | with_reducible refine asp_nmk (fun _ => ?_) (fun _ => ?_) | with_reducible refine asp_mk (fun _ => ?_) (fun _ => ?_) | with_reducible refine And.intro (by first | omega | rfl | decide) ?_ | simp only [go_sem, Nat.reduceAdd, Nat.reduceSub, Nat.reduceMul, Nat.reduceLeDiff, ne_eq, Nat.reduceEqDiff, not_false_eq_true, Bool.and_true, Bool.true_and, Nat.succ_ne_self, and_true, Bool.not_true, Bool.not_false, Int.toNat_zero, Int.reduceToNat, Nat.mul_one, Int.toNat_one, hw, Bool.and_false, Bool.false_and, Bool.not_true, Bool.not_false, beq_self_eq_true, hsh, hal, hw1, hw2, Bool.and_self]
      · have hpos : (0 : Int) < (L.a.length : Int) := by assumption
        refine (pick27 x1 L.a.length h1 hpos).mono ?_
        rintro r rfl
        obtain ⟨j, hj, hjl⟩ : ∃ j : Nat, pickF x1 L.a.length = j ∧ j < L.a.length := ⟨(pickF x1 L.a.length).toNat, by have := pickF_lt (c := x1) hpos; omega, by have := pickF_lt (c := x1) hpos; omega⟩
        rw [hj]
        have hw3 : IntKind.i64.wrap ((j : Int) + 1) = ((j + 1 : Nat) : Int) := wrap_succ (by omega)
        have l1 : (nums L.a).length = L.a.length := by simp [nums]
        have hle := asc_len (okL_a okk)
        have e1 : (nums L.a).take j = nums (L.a.take j) := nums_take _ _
        have e2 : ((nums L.a).drop (j + 1)).take (L.a.length - (j + 1)) = nums (L.a.drop (j + 1)) := by rw [nums_drop, nums_take, List.take_of_length_le (by simp)]
        have l2 : (L.a.take j).length ≤ 64 := by simp; omega
        have l3 : (L.a.drop (j + 1)).length ≤ 64 := by simp; omega
        have hless : (L.a.take j ++ L.a.drop (j + 1)).length ≤ 1000000 := by simp; omega
        simp only [num]
        repeat' first | with_reducible refine asq_dmk (fun _ => ?_) (fun _ => ?_) | with_reducible refine asq_ndmk (fun _ => ?_) (fun _ => ?_) | with_reducible refine asq_nmk (fun _ => ?_) (fun _ => ?_) | with_reducible refine asq_mk (fun _ => ?_) (fun _ => ?_) | with_reducible refine asp_dmk (fun _ => ?_) (fun _ => ?_) | with_reducible refine asp_ndmk (fun _ => ?_) (fun _ => ?_) | with_reducible refine asp_nmk (fun _ => ?_) (fun _ => ?_) | with_reducible refine asp_mk (fun _ => ?_) (fun _ => ?_) | with_reducible refine And.intro (by first | omega | rfl | decide) ?_ | simp only [go_sem, Nat.reduceAdd, Nat.reduceSub, Nat.reduceMul, Nat.reduceLeDiff, ne_eq, Nat.reduceEqDiff, not_false_eq_true, Bool.and_true, Bool.true_and, Nat.succ_ne_self, and_true, Bool.not_true, Bool.not_false, Int.toNat_zero, Int.reduceToNat, Nat.mul_one, Int.toNat_one, hw3, e1, e2, nums_app]
        refine ((allows24 L i L.u (L.a.take j ++ L.a.drop (j + 1)) L.n hlen hless).wk ?_).mono ?_
        · simp only [lab, num, nums_nil]
          repeat first | exact Wk.nil | exact Wk.refl _ | refine wk_agg ?_ ?_ | refine wk_ownsl ?_ | refine wk_nilsl ?_ | refine Wk.same ?_
        rintro r rfl
        rw [allows_miss okk _ _ _ hjl]
        simp only [tru, labO, num]
        repeat' first | with_reducible refine asq_dmk (fun _ => ?_) (fun _ => ?_) | with_reducible refine asq_ndmk (fun _ => ?_) (fun _ => ?_) | with_reducible refine asq_nmk (fun _ => ?_) (fun _ => ?_) | with_reducible refine asq_mk (fun _ => ?_) (fun _ => ?_) | with_reducible refine asp_dmk (fun _ => ?_) (fun _ => ?_) | with_reducible refine asp_ndmk (fun _ => ?_) (fun _ => ?_) | with_reducible refine asp_nmk (fun _ => ?_) (fun _ => ?_) | with_reducible refine asp_mk (fun _ => ?_) (fun _ => ?_) | with_reducible refine And.intro (by first | omega | rfl | decide) ?_ | simp only [go_sem, Nat.reduceAdd, Nat.reduceSub, Nat.reduceMul, Nat.reduceLeDiff, ne_eq, Nat.reduceEqDiff, not_false_eq_true, Bool.and_true, Bool.true_and, Nat.succ_ne_self, and_true, Bool.not_true, Bool.not_false, Int.toNat_zero, Int.reduceToNat, Nat.mul_one, Int.toNat_one, hw, Bool.and_false, Bool.false_and, Bool.not_true, Bool.not_false, beq_self_eq_true, hsh, hal, hw1, hw2, Bool.and_self]
        refine lend_mk (n - 1) [.raw (.bool true), .box 26 [num L.u, .sl 1 (nums L.a), num L.n, num L.d], num ((i + 1 : Nat) : Int)] (by omega) ⟨i + 1, by omega, rfl⟩ ?_
        simp only [hvm_t, hvm_f, hvm_nil, puts_cons, puts_nil, List.set_cons_zero, List.set_cons_succ, num]
        repeat first | exact Wk.nil | refine Wk.same ?_ | refine wk_any ?_
      · skip
        refine lend_mk (n - 1) [.raw (.bool true), .box 26 [num L.u, .sl 1 (nums L.a), num L.n, num L.d], num ((i + 1 : Nat) : Int)] (by omega) ⟨i + 1, by omega, rfl⟩ ?_
        simp only [hvm_t, hvm_f, hvm_nil, puts_cons, puts_nil, List.set_cons_zero, List.set_cons_succ, num]
        repeat first | exact Wk.nil | refine Wk.same ?_ | refine wk_any ?_
    · simp only [cwp_exit2, xseq_exit2, xblk_exit2, xseq_normal2, xblk_normal2]
      repeat' first | with_reducible refine asq_dmk (fun _ => ?_) (fun _ => ?_) | with_reducible refine asq_ndmk (fun _ => ?_) (fun _ => ?_) | with_reducible refine asq_nmk (fun _ => ?_) (fun _ => ?_) | with_reducible refine asq_mk (fun _ => ?_) (fun _ => ?_) | with_reducible refine asp_dmk (fun _ => ?_) (fun _ => ?_) | with_reducible refine asp_ndmk (fun _ => ?_) (fun _ => ?_) | with_reducible refine asp_nmk (fun _ => ?_) (fun _ => ?_) | with_reducible refine asp_mk (fun _ => ?_) (fun _ => ?_) | with_reducible refine And.intro (by first | omega | rfl | decide) ?_ | simp only [go_sem, Nat.reduceAdd, Nat.reduceSub, Nat.reduceMul, Nat.reduceLeDiff, ne_eq, Nat.reduceEqDiff, not_false_eq_true, Bool.and_true, Bool.true_and, Nat.succ_ne_self, and_true, Bool.not_true, Bool.not_false, Int.toNat_zero, Int.reduceToNat, Nat.mul_one, Int.toNat_one]
      refine ((allows24 L (-1) L.u L.a L.n hlen hlen).wk ?_).mono ?_
      · simp only [lab, num, nums_nil]
        repeat first | exact Wk.nil | exact Wk.refl _ | refine wk_agg ?_ ?_ | refine wk_ownsl ?_ | refine wk_nilsl ?_ | refine Wk.same ?_
      rintro r rfl
      rw [allows_neg]
      simp only [tru, labO, num]
      repeat' first | with_reducible refine asq_dmk (fun _ => ?_) (fun _ => ?_) | with_reducible refine asq_ndmk (fun _ => ?_) (fun _ => ?_) | with_reducible refine asq_nmk (fun _ => ?_) (fun _ => ?_) | with_reducible refine asq_mk (fun _ => ?_) (fun _ => ?_) | with_reducible refine asp_dmk (fun _ => ?_) (fun _ => ?_) | with_reducible refine asp_ndmk (fun _ => ?_) (fun _ => ?_) | with_reducible refine asp_nmk (fun _ => ?_) (fun _ => ?_) | with_reducible refine asp_mk (fun _ => ?_) (fun _ => ?_) | with_reducible refine And.intro (by first | omega | rfl | decide) ?_ | simp only [go_sem, Nat.reduceAdd, Nat.reduceSub, Nat.reduceMul, Nat.reduceLeDiff, ne_eq, Nat.reduceEqDiff, not_false_eq_true, Bool.and_true, Bool.true_and, Nat.succ_ne_self, and_true, Bool.not_true, Bool.not_false, Int.toNat_zero, Int.reduceToNat, Nat.mul_one, Int.toNat_one, Bool.not_false, Bool.and_false]
      refine ((allows24 L 4 L.u L.a L.n hlen hlen).wk ?_).mono ?_
      · simp only [lab, num, nums_nil]
        repeat first | exact Wk.nil | exact Wk.refl _ | refine wk_agg ?_ ?_ | refine wk_ownsl ?_ | refine wk_nilsl ?_ | refine Wk.same ?_
      rintro r rfl
      rw [allows_big]
      simp only [tru, labO, num]
      repeat' first | with_reducible refine asq_dmk (fun _ => ?_) (fun _ => ?_) | with_reducible refine asq_ndmk (fun _ => ?_) (fun _ => ?_) | with_reducible refine asq_nmk (fun _ => ?_) (fun _ => ?_) | with_reducible refine asq_mk (fun _ => ?_) (fun _ => ?_) | with_reducible refine asp_dmk (fun _ => ?_) (fun _ => ?_) | with_reducible refine asp_ndmk (fun _ => ?_) (fun _ => ?_) | with_reducible refine asp_nmk (fun _ => ?_) (fun _ => ?_) | with_reducible refine asp_mk (fun _ => ?_) (fun _ => ?_) | with_reducible refine And.intro (by first | omega | rfl | decide) ?_ | simp only [go_sem, Nat.reduceAdd, Nat.reduceSub, Nat.reduceMul, Nat.reduceLeDiff, ne_eq, Nat.reduceEqDiff, not_false_eq_true, Bool.and_true, Bool.true_and, Nat.succ_ne_self, and_true, Bool.not_true, Bool.not_false, Int.toNat_zero, Int.reduceToNat, Nat.mul_one, Int.toNat_one, Bool.not_false, Bool.and_false]
end Go.Proofs.Ytohelofjlkoboaa
