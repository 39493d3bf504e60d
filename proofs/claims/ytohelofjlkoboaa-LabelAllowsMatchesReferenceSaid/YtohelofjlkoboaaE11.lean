/- The walk of LabelLeastUpperBound. -/
import Derived.Test.YtohelofjlkoboaaT
import Derived.Test.YtohelofjlkoboaaA10
import Derived.Test.YtohelofjlkoboaaE9
namespace Go.Proofs.Ytohelofjlkoboaa
open Go.RowKit Go.Proofs
set_option linter.unusedSimpArgs false
set_option linter.unusedVariables false
set_option maxRecDepth 100000
section
variable {P : Program} {T : Tab} {Q : Exit → List AV → Prop} {K : List AV → Prop} {σ : List AV}
theorem cwp_exit2 (id : Nat) : cwp P T (.exit id) Q σ = Q (.exit id) σ := (rfl)
theorem xseq_normal2 : xseq K Q .normal σ = K σ := (rfl)
theorem xseq_exit2 (id : Nat) : xseq K Q (.exit id) σ = Q (.exit id) σ := (rfl)
theorem xblk_exit2 (id : Nat) : xblk id Q (.exit id) σ = Q .normal σ := by simp [xblk]
theorem xblk_exit3 {id id' : Nat} (h : id' ≠ id) : xblk id Q (.exit id') σ = Q (.exit id') σ := by simp [xblk, h]
theorem xblk_normal2 (id : Nat) : xblk id Q .normal σ = Q .normal σ := (rfl)
theorem cwp_block2 (id : Nat) (c : CC) : cwp P T (.block id c) Q σ = cwp P T c (xblk id Q) σ := (rfl)
end
theorem leq_iff {a b : Lb} (ha : okL a = true) (hb : okL b = true) : leqL a b = true ↔ a.u ≤ b.u ∧ (∀ x ∈ a.a, x ∈ b.a) ∧ a.n ≤ b.n ∧ ∀ c < 4, bitL a.d c = true → bitL b.d c = true := by
  simp only [leqL, ha, hb, Bool.true_and, Bool.and_eq_true, decide_eq_true_eq, List.all_eq_true, sub4_iff, and_assoc]
theorem lub {a b l : Lb} (ha : okL a = true) (hb : okL b = true) (hl : okL l = true) : leqL (joinL a b) l = (leqL a l && leqL b l) := by
  rw [Bool.eq_iff_iff, Bool.and_eq_true, leq_iff (ok_join ha hb) hl, leq_iff ha hl, leq_iff hb hl, join_eq ha hb]
  simp only []
  constructor
  · rintro ⟨h1, h2, h3, h4⟩
    refine ⟨⟨by omega, fun x hx => h2 x ((mem_joinA (okL_a ha) (okL_a hb)).2 (.inl hx)), by omega, fun c hc h => h4 c hc ?_⟩, by omega, fun x hx => h2 x ((mem_joinA (okL_a ha) (okL_a hb)).2 (.inr hx)), by omega, fun c hc h => h4 c hc ?_⟩
    · rw [bit_or (okL_d ha) (okL_d hb) hc, h]; rfl
    · rw [bit_or (okL_d ha) (okL_d hb) hc, h, Bool.or_true]
  · rintro ⟨⟨h1, h2, h3, h4⟩, g1, g2, g3, g4⟩
    refine ⟨by omega, fun x hx => ?_, by omega, fun c hc h => ?_⟩
    · rcases (mem_joinA (okL_a ha) (okL_a hb)).1 hx with h | h
      · exact h2 x h
      · exact g2 x h
    · rw [bit_or (okL_d ha) (okL_d hb) hc, Bool.or_eq_true] at h
      rcases h with h | h
      · exact h4 c hc h
      · exact g4 c hc h
theorem leq_refl {a : Lb} (ha : okL a = true) : leqL a a = true := (leq_iff ha ha).2 ⟨Int.le_refl _, fun x h => h, Int.le_refl _, fun c hc h => h⟩
theorem leq_left {a b : Lb} (ha : okL a = true) (hb : okL b = true) : leqL a (joinL a b) = true := by
  have h := lub ha hb (ok_join ha hb)
  rw [leq_refl (ok_join ha hb)] at h
  exact (Bool.and_eq_true _ _ ▸ h.symm).1
theorem leq_right {a b : Lb} (ha : okL a = true) (hb : okL b = true) : leqL b (joinL a b) = true := by
  have h := lub ha hb (ok_join ha hb)
  rw [leq_refl (ok_join ha hb)] at h
  exact (Bool.and_eq_true _ _ ▸ h.symm).2
set_option maxHeartbeats 4000000 in
theorem law7 (x0_0 x0_1 x0_2 x0_3 x1_0 x1_1 x1_2 x1_3 x2_0 x2_1 x2_2 x2_3 : Int)  (h0_0 : I64 x0_0) (h0_1 : I64 x0_1) (h0_2 : I64 x0_2) (h0_3 : I64 x0_3) (h1_0 : I64 x1_0) (h1_1 : I64 x1_1) (h1_2 : I64 x1_2) (h1_3 : I64 x1_3) (h2_0 : I64 x2_0) (h2_1 : I64 x2_1) (h2_2 : I64 x2_2) (h2_3 : I64 x2_3)  : ACalls Try.prog 7 [.agg [num x0_0, num x0_1, num x0_2, num x0_3], .agg [num x1_0, num x1_1, num x1_2, num x1_3], .agg [num x2_0, num x2_1, num x2_2, num x2_3]] (fun r => r = tru true) := by
  refine calls_short [] ttok hmix Try.func7 (by decide) (by decide +kernel) (by simp only [Try.f7, Option.bind_some, comp, cops, cguard, gslot, List.getElem?_toArray, List.getElem?_cons_succ, List.getElem?_cons_zero, vlook, tlook]; rfl) Try.ntmps7 Try.results7 ⟨_, rfl⟩ rfl ?_
  simp only [List.length_cons, List.length_nil, Nat.reduceAdd, Nat.reduceSub, List.replicate_succ, List.replicate_zero, List.cons_append, List.nil_append, num, str, tru]
  simp (decide := true) only [mkd_eq [9, 8, 11, 10] [] [] [[10], [8], [10], [], [9], [10], [], [11], [10], [], [11], [8], [9], [], [], []], List.zip_cons_cons, List.zip_nil_left, List.zip_nil_right]
  simp (decide := true) only [mkd_eq [13] [] [] [[], [44], [44], [13, 44], [44], [44], [13, 44], [44], [51, 44], [51], [51, 13], [51], [51, 44], [44], [44], []], List.zip_cons_cons, List.zip_nil_left, List.zip_nil_right]
  simp only [go_sem, Nat.reduceAdd, Nat.reduceSub, Nat.reduceMul, Nat.reduceLeDiff, ne_eq, Nat.reduceEqDiff, not_false_eq_true, Bool.and_true, Bool.true_and, Nat.succ_ne_self, and_true, Bool.not_true, Bool.not_false, Int.toNat_zero, Int.reduceToNat, Nat.mul_one, Int.toNat_one, num, tru]
  repeat' first | with_reducible refine asq_dmk (fun _ => ?_) (fun _ => ?_) | with_reducible refine asq_ndmk (fun _ => ?_) (fun _ => ?_) | with_reducible refine asq_nmk (fun _ => ?_) (fun _ => ?_) | with_reducible refine asq_mk (fun _ => ?_) (fun _ => ?_) | with_reducible refine asp_dmk (fun _ => ?_) (fun _ => ?_) | with_reducible refine asp_ndmk (fun _ => ?_) (fun _ => ?_) | with_reducible refine asp_nmk (fun _ => ?_) (fun _ => ?_) | with_reducible refine asp_mk (fun _ => ?_) (fun _ => ?_) | with_reducible refine And.intro (by first | omega | rfl | decide) ?_ | simp only [go_sem, Nat.reduceAdd, Nat.reduceSub, Nat.reduceMul, Nat.reduceLeDiff, ne_eq, Nat.reduceEqDiff, not_false_eq_true, Bool.and_true, Bool.true_and, Nat.succ_ne_self, and_true, Bool.not_true, Bool.not_false, Int.toNat_zero, Int.reduceToNat, Nat.mul_one, Int.toNat_one]
  refine sane13.mono ?_
  rintro r rfl
  simp only [tru]
  repeat' first | with_reducible refine asq_dmk (fun _ => ?_) (fun _ => ?_) | with_reducible refine asq_ndmk (fun _ => ?_) (fun _ => ?_) | with_reducible refine asq_nmk (fun _ => ?_) (fun _ => ?_) | with_reducible refine asq_mk (fun _ => ?_) (fun _ => ?_) | with_reducible refine asp_dmk (fun _ => ?_) (fun _ => ?_) | with_reducible refine asp_ndmk (fun _ => ?_) (fun _ => ?_) | with_reducible refine asp_nmk (fun _ => ?_) (fun _ => ?_) | with_reducible refine asp_mk (fun _ => ?_) (fun _ => ?_) | with_reducible refine And.intro (by first | omega | rfl | decide) ?_ | simp only [go_sem, Nat.reduceAdd, Nat.reduceSub, Nat.reduceMul, Nat.reduceLeDiff, ne_eq, Nat.reduceEqDiff, not_false_eq_true, Bool.and_true, Bool.true_and, Nat.succ_ne_self, and_true, Bool.not_true, Bool.not_false, Int.toNat_zero, Int.reduceToNat, Nat.mul_one, Int.toNat_one]
  refine (make14 x0_0 x0_1 x0_2 x0_3 h0_0 h0_2 h0_3).mono ?_
  rintro r rfl
  obtain ⟨A, hA, okA⟩ : ∃ L, makeL x0_0 x0_1 x0_2 x0_3 = L ∧ okL L = true := ⟨_, rfl, ok_make ..⟩
  rw [hA]
  simp only [labO, num]
  repeat' first | with_reducible refine asq_dmk (fun _ => ?_) (fun _ => ?_) | with_reducible refine asq_ndmk (fun _ => ?_) (fun _ => ?_) | with_reducible refine asq_nmk (fun _ => ?_) (fun _ => ?_) | with_reducible refine asq_mk (fun _ => ?_) (fun _ => ?_) | with_reducible refine asp_dmk (fun _ => ?_) (fun _ => ?_) | with_reducible refine asp_ndmk (fun _ => ?_) (fun _ => ?_) | with_reducible refine asp_nmk (fun _ => ?_) (fun _ => ?_) | with_reducible refine asp_mk (fun _ => ?_) (fun _ => ?_) | with_reducible refine And.intro (by first | omega | rfl | decide) ?_ | simp only [go_sem, Nat.reduceAdd, Nat.reduceSub, Nat.reduceMul, Nat.reduceLeDiff, ne_eq, Nat.reduceEqDiff, not_false_eq_true, Bool.and_true, Bool.true_and, Nat.succ_ne_self, and_true, Bool.not_true, Bool.not_false, Int.toNat_zero, Int.reduceToNat, Nat.mul_one, Int.toNat_one]
  refine (make14 x1_0 x1_1 x1_2 x1_3 h1_0 h1_2 h1_3).mono ?_
  rintro r rfl
  obtain ⟨B, hB, okB⟩ : ∃ L, makeL x1_0 x1_1 x1_2 x1_3 = L ∧ okL L = true := ⟨_, rfl, ok_make ..⟩
  rw [hB]
  simp only [labO, num]
  repeat' first | with_reducible refine asq_dmk (fun _ => ?_) (fun _ => ?_) | with_reducible refine asq_ndmk (fun _ => ?_) (fun _ => ?_) | with_reducible refine asq_nmk (fun _ => ?_) (fun _ => ?_) | with_reducible refine asq_mk (fun _ => ?_) (fun _ => ?_) | with_reducible refine asp_dmk (fun _ => ?_) (fun _ => ?_) | with_reducible refine asp_ndmk (fun _ => ?_) (fun _ => ?_) | with_reducible refine asp_nmk (fun _ => ?_) (fun _ => ?_) | with_reducible refine asp_mk (fun _ => ?_) (fun _ => ?_) | with_reducible refine And.intro (by first | omega | rfl | decide) ?_ | simp only [go_sem, Nat.reduceAdd, Nat.reduceSub, Nat.reduceMul, Nat.reduceLeDiff, ne_eq, Nat.reduceEqDiff, not_false_eq_true, Bool.and_true, Bool.true_and, Nat.succ_ne_self, and_true, Bool.not_true, Bool.not_false, Int.toNat_zero, Int.reduceToNat, Nat.mul_one, Int.toNat_one]
  refine (make14 x2_0 x2_1 x2_2 x2_3 h2_0 h2_2 h2_3).mono ?_
  rintro r rfl
  obtain ⟨C, hC, okC⟩ : ∃ L, makeL x2_0 x2_1 x2_2 x2_3 = L ∧ okL L = true := ⟨_, rfl, ok_make ..⟩
  rw [hC]
  simp only [labO, num]
  repeat' first | with_reducible refine asq_dmk (fun _ => ?_) (fun _ => ?_) | with_reducible refine asq_ndmk (fun _ => ?_) (fun _ => ?_) | with_reducible refine asq_nmk (fun _ => ?_) (fun _ => ?_) | with_reducible refine asq_mk (fun _ => ?_) (fun _ => ?_) | with_reducible refine asp_dmk (fun _ => ?_) (fun _ => ?_) | with_reducible refine asp_ndmk (fun _ => ?_) (fun _ => ?_) | with_reducible refine asp_nmk (fun _ => ?_) (fun _ => ?_) | with_reducible refine asp_mk (fun _ => ?_) (fun _ => ?_) | with_reducible refine And.intro (by first | omega | rfl | decide) ?_ | simp only [go_sem, Nat.reduceAdd, Nat.reduceSub, Nat.reduceMul, Nat.reduceLeDiff, ne_eq, Nat.reduceEqDiff, not_false_eq_true, Bool.and_true, Bool.true_and, Nat.succ_ne_self, and_true, Bool.not_true, Bool.not_false, Int.toNat_zero, Int.reduceToNat, Nat.mul_one, Int.toNat_one]
  refine ((join22' A B (len_ok okA) (len_ok okB)).wk ?_).mono ?_
  · simp only [lab, num, nums_nil]
    repeat first | exact Wk.nil | exact Wk.refl _ | refine wk_agg ?_ ?_ | refine wk_ownsl ?_ | refine wk_nilsl ?_ | refine Wk.same ?_
  rintro r rfl
  obtain ⟨J, hJ, okJ⟩ : ∃ J, joinL A B = J ∧ okL J = true := ⟨_, rfl, ok_join okA okB⟩
  rw [hJ]
  simp only [tru, labO, num]
  repeat' first | with_reducible refine asq_dmk (fun _ => ?_) (fun _ => ?_) | with_reducible refine asq_ndmk (fun _ => ?_) (fun _ => ?_) | with_reducible refine asq_nmk (fun _ => ?_) (fun _ => ?_) | with_reducible refine asq_mk (fun _ => ?_) (fun _ => ?_) | with_reducible refine asp_dmk (fun _ => ?_) (fun _ => ?_) | with_reducible refine asp_ndmk (fun _ => ?_) (fun _ => ?_) | with_reducible refine asp_nmk (fun _ => ?_) (fun _ => ?_) | with_reducible refine asp_mk (fun _ => ?_) (fun _ => ?_) | with_reducible refine And.intro (by first | omega | rfl | decide) ?_ | simp only [go_sem, Nat.reduceAdd, Nat.reduceSub, Nat.reduceMul, Nat.reduceLeDiff, ne_eq, Nat.reduceEqDiff, not_false_eq_true, Bool.and_true, Bool.true_and, Nat.succ_ne_self, and_true, Bool.not_true, Bool.not_false, Int.toNat_zero, Int.reduceToNat, Nat.mul_one, Int.toNat_one]
  have okAC := ok_join okA okC
  have okBC := ok_join okB okC
  have okJC := ok_join okJ okC
  refine ((join22' A C (len_ok okA) (len_ok okC)).wk ?_).mono ?_
  · simp only [lab, num, nums_nil]
    repeat first | exact Wk.nil | exact Wk.refl _ | refine wk_agg ?_ ?_ | refine wk_ownsl ?_ | refine wk_nilsl ?_ | refine Wk.same ?_
  rintro r rfl
  simp only [tru, labO, num]
  repeat' first | with_reducible refine asq_dmk (fun _ => ?_) (fun _ => ?_) | with_reducible refine asq_ndmk (fun _ => ?_) (fun _ => ?_) | with_reducible refine asq_nmk (fun _ => ?_) (fun _ => ?_) | with_reducible refine asq_mk (fun _ => ?_) (fun _ => ?_) | with_reducible refine asp_dmk (fun _ => ?_) (fun _ => ?_) | with_reducible refine asp_ndmk (fun _ => ?_) (fun _ => ?_) | with_reducible refine asp_nmk (fun _ => ?_) (fun _ => ?_) | with_reducible refine asp_mk (fun _ => ?_) (fun _ => ?_) | with_reducible refine And.intro (by first | omega | rfl | decide) ?_ | simp only [go_sem, Nat.reduceAdd, Nat.reduceSub, Nat.reduceMul, Nat.reduceLeDiff, ne_eq, Nat.reduceEqDiff, not_false_eq_true, Bool.and_true, Bool.true_and, Nat.succ_ne_self, and_true, Bool.not_true, Bool.not_false, Int.toNat_zero, Int.reduceToNat, Nat.mul_one, Int.toNat_one]
  refine ((join22' B C (len_ok okB) (len_ok okC)).wk ?_).mono ?_
  · simp only [lab, num, nums_nil]
    repeat first | exact Wk.nil | exact Wk.refl _ | refine wk_agg ?_ ?_ | refine wk_ownsl ?_ | refine wk_nilsl ?_ | refine Wk.same ?_
  rintro r rfl
  simp only [tru, labO, num]
  repeat' first | with_reducible refine asq_dmk (fun _ => ?_) (fun _ => ?_) | with_reducible refine asq_ndmk (fun _ => ?_) (fun _ => ?_) | with_reducible refine asq_nmk (fun _ => ?_) (fun _ => ?_) | with_reducible refine asq_mk (fun _ => ?_) (fun _ => ?_) | with_reducible refine asp_dmk (fun _ => ?_) (fun _ => ?_) | with_reducible refine asp_ndmk (fun _ => ?_) (fun _ => ?_) | with_reducible refine asp_nmk (fun _ => ?_) (fun _ => ?_) | with_reducible refine asp_mk (fun _ => ?_) (fun _ => ?_) | with_reducible refine And.intro (by first | omega | rfl | decide) ?_ | simp only [go_sem, Nat.reduceAdd, Nat.reduceSub, Nat.reduceMul, Nat.reduceLeDiff, ne_eq, Nat.reduceEqDiff, not_false_eq_true, Bool.and_true, Bool.true_and, Nat.succ_ne_self, and_true, Bool.not_true, Bool.not_false, Int.toNat_zero, Int.reduceToNat, Nat.mul_one, Int.toNat_one]
  refine ((join22' J C (len_ok okJ) (len_ok okC)).wk ?_).mono ?_
  · simp only [lab, num, nums_nil]
    repeat first | exact Wk.nil | exact Wk.refl _ | refine wk_agg ?_ ?_ | refine wk_ownsl ?_ | refine wk_nilsl ?_ | refine Wk.same ?_
  rintro r rfl
  simp only [tru, labO, num]
  repeat' first | with_reducible refine asq_dmk (fun _ => ?_) (fun _ => ?_) | with_reducible refine asq_ndmk (fun _ => ?_) (fun _ => ?_) | with_reducible refine asq_nmk (fun _ => ?_) (fun _ => ?_) | with_reducible refine asq_mk (fun _ => ?_) (fun _ => ?_) | with_reducible refine asp_dmk (fun _ => ?_) (fun _ => ?_) | with_reducible refine asp_ndmk (fun _ => ?_) (fun _ => ?_) | with_reducible refine asp_nmk (fun _ => ?_) (fun _ => ?_) | with_reducible refine asp_mk (fun _ => ?_) (fun _ => ?_) | with_reducible refine And.intro (by first | omega | rfl | decide) ?_ | simp only [go_sem, Nat.reduceAdd, Nat.reduceSub, Nat.reduceMul, Nat.reduceLeDiff, ne_eq, Nat.reduceEqDiff, not_false_eq_true, Bool.and_true, Bool.true_and, Nat.succ_ne_self, and_true, Bool.not_true, Bool.not_false, Int.toNat_zero, Int.reduceToNat, Nat.mul_one, Int.toNat_one]
  try refine ⟨rfl, ?_⟩
  repeat' first | with_reducible refine asq_dmk (fun _ => ?_) (fun _ => ?_) | with_reducible refine asq_ndmk (fun _ => ?_) (fun _ => ?_) | with_reducible refine asq_nmk (fun _ => ?_) (fun _ => ?_) | with_reducible refine asq_mk (fun _ => ?_) (fun _ => ?_) | with_reducible refine asp_dmk (fun _ => ?_) (fun _ => ?_) | with_reducible refine asp_ndmk (fun _ => ?_) (fun _ => ?_) | with_reducible refine asp_nmk (fun _ => ?_) (fun _ => ?_) | with_reducible refine asp_mk (fun _ => ?_) (fun _ => ?_) | with_reducible refine And.intro (by first | omega | rfl | decide) ?_ | simp only [go_sem, Nat.reduceAdd, Nat.reduceSub, Nat.reduceMul, Nat.reduceLeDiff, ne_eq, Nat.reduceEqDiff, not_false_eq_true, Bool.and_true, Bool.true_and, Nat.succ_ne_self, and_true, Bool.not_true, Bool.not_false, Int.toNat_zero, Int.reduceToNat, Nat.mul_one, Int.toNat_one]
  refine cwp_loop [false, false, false, false, false, false, false, true, false, false, false, false, false, true, false, false, false, false, false, false, false, false, false, false, false, false, false, false, false, false, false, false, false, false, false, false, false, false, false, true, true, true, true, true, true, true, true, true, true, true, true, true, true, true, true, true, true, true, true, false, false, false, false, false, false, false, false, false, false, false] [7, 39] (fun n xs => ∃ i : Nat, i + n = 7 ∧ xs = [.raw (.bool true), num i]) ⟨7, _, ⟨0, rfl, rfl⟩, ?_⟩ ?_
  · simp only [hvm_t, hvm_f, hvm_nil, puts_cons, puts_nil, List.set_cons_zero, List.set_cons_succ, num]
    repeat first | exact Wk.refl _ | exact Wk.nil | refine Wk.same ?_ | refine wk_any ?_
  · rintro n xs ⟨i, hi, rfl⟩
    simp only [hvm_t, hvm_f, hvm_nil, puts_cons, puts_nil, List.set_cons_zero, List.set_cons_succ, num]
    simp only [go_sem, Nat.reduceAdd, Nat.reduceSub, Nat.reduceMul, Nat.reduceLeDiff, ne_eq, Nat.reduceEqDiff, not_false_eq_true, Bool.and_true, Bool.true_and, Nat.succ_ne_self, and_true, Bool.not_true, Bool.not_false, Int.toNat_zero, Int.reduceToNat, Nat.mul_one, Int.toNat_one]
    refine asq_dmk (fun h1 => ?_) (fun h1 => ?_)
    · have hw : IntKind.i64.wrap ((i : Int) + 1) = ((i + 1 : Nat) : Int) := wrap_succ (by omega)
      have hget : ∃ L, okL L = true ∧ [lab C, lab (joinL A C), lab (joinL B C), lab (joinL J C), lab J, lab A, lab B].getD i .any = lab L := by
        rcases (by omega : i = 0 ∨ i = 1 ∨ i = 2 ∨ i = 3 ∨ i = 4 ∨ i = 5 ∨ i = 6) with rfl | rfl | rfl | rfl | rfl | rfl | rfl
        · exact ⟨_, okC, rfl⟩
        · exact ⟨_, okAC, rfl⟩
        · exact ⟨_, okBC, rfl⟩
        · exact ⟨_, okJC, rfl⟩
        · exact ⟨_, okJ, rfl⟩
        · exact ⟨_, okA, rfl⟩
        · exact ⟨_, okB, rfl⟩
      obtain ⟨L, okLL, hget⟩ := hget
      simp only [lab, num] at hget
      have hlub : leqL J L = (leqL A L && leqL B L) := by rw [← hJ]; exact lub okA okB okLL
      repeat' first | with_reducible refine asq_dmk (fun _ => ?_) (fun _ => ?_) | with_reducible refine asq_ndmk (fun _ => ?_) (fun _ => ?_) | with_reducible refine asq_nmk (fun _ => ?_) (fun _ => ?_) | with_reducible refine asq_mk (fun _ => ?_) (fun _ => ?_) | with_reducible refine asp_dmk (fun _ => ?_) (fun _ => ?_) | with_reducible refine asp_ndmk (fun _ => ?_) (fun _ => ?_) | with_reducible refine asp_nmk (fun _ => ?_) (fun _ => ?_) | with_reducible refine asp_mk (fun _ => ?_) (fun _ => ?_) | with_reducible refine And.intro (by first | omega | rfl | decide) ?_ | simp only [go_sem, Nat.reduceAdd, Nat.reduceSub, Nat.reduceMul, Nat.reduceLeDiff, ne_eq, Nat.reduceEqDiff, not_false_eq_true, Bool.and_true, Bool.true_and, Nat.succ_ne_self, and_true, Bool.not_true, Bool.not_false, Int.toNat_zero, Int.reduceToNat, Nat.mul_one, Int.toNat_one, hget]
      cases hp : leqL A L
      · cases hq : leqL B L
        · skip
          refine ((leq20 J L (len_ok okJ) (len_ok okLL)).wk ?_).mono ?_
          · simp only [lab, num, nums_nil]
            repeat first | exact Wk.nil | exact Wk.refl _ | refine wk_agg ?_ ?_ | refine wk_ownsl ?_ | refine wk_nilsl ?_ | refine Wk.same ?_
          rintro r rfl
          rw [hlub, hp, hq]
          simp only [tru, labO, num]
          repeat' first | with_reducible refine asq_dmk (fun _ => ?_) (fun _ => ?_) | with_reducible refine asq_ndmk (fun _ => ?_) (fun _ => ?_) | with_reducible refine asq_nmk (fun _ => ?_) (fun _ => ?_) | with_reducible refine asq_mk (fun _ => ?_) (fun _ => ?_) | with_reducible refine asp_dmk (fun _ => ?_) (fun _ => ?_) | with_reducible refine asp_ndmk (fun _ => ?_) (fun _ => ?_) | with_reducible refine asp_nmk (fun _ => ?_) (fun _ => ?_) | with_reducible refine asp_mk (fun _ => ?_) (fun _ => ?_) | with_reducible refine And.intro (by first | omega | rfl | decide) ?_ | simp only [go_sem, Nat.reduceAdd, Nat.reduceSub, Nat.reduceMul, Nat.reduceLeDiff, ne_eq, Nat.reduceEqDiff, not_false_eq_true, Bool.and_true, Bool.true_and, Nat.succ_ne_self, and_true, Bool.not_true, Bool.not_false, Int.toNat_zero, Int.reduceToNat, Nat.mul_one, Int.toNat_one, hw, Bool.and_false, Bool.false_and]
          refine ((leq20 A L (len_ok okA) (len_ok okLL)).wk ?_).mono ?_
          · simp only [lab, num, nums_nil]
            repeat first | exact Wk.nil | exact Wk.refl _ | refine wk_agg ?_ ?_ | refine wk_ownsl ?_ | refine wk_nilsl ?_ | refine Wk.same ?_
          rintro r rfl
          rw [hp]
          simp only [tru, labO, num]
          repeat' first | with_reducible refine asq_dmk (fun _ => ?_) (fun _ => ?_) | with_reducible refine asq_ndmk (fun _ => ?_) (fun _ => ?_) | with_reducible refine asq_nmk (fun _ => ?_) (fun _ => ?_) | with_reducible refine asq_mk (fun _ => ?_) (fun _ => ?_) | with_reducible refine asp_dmk (fun _ => ?_) (fun _ => ?_) | with_reducible refine asp_ndmk (fun _ => ?_) (fun _ => ?_) | with_reducible refine asp_nmk (fun _ => ?_) (fun _ => ?_) | with_reducible refine asp_mk (fun _ => ?_) (fun _ => ?_) | with_reducible refine And.intro (by first | omega | rfl | decide) ?_ | simp only [go_sem, Nat.reduceAdd, Nat.reduceSub, Nat.reduceMul, Nat.reduceLeDiff, ne_eq, Nat.reduceEqDiff, not_false_eq_true, Bool.and_true, Bool.true_and, Nat.succ_ne_self, and_true, Bool.not_true, Bool.not_false, Int.toNat_zero, Int.reduceToNat, Nat.mul_one, Int.toNat_one, hw, Bool.and_false, Bool.false_and]
          refine lend_mk (n - 1) [.raw (.bool true), num ((i + 1 : Nat) : Int)] (by omega) ⟨i + 1, by omega, rfl⟩ ?_
          simp only [hvm_t, hvm_f, hvm_nil, puts_cons, puts_nil, List.set_cons_zero, List.set_cons_succ, num]
          repeat first | exact Wk.nil | refine Wk.same ?_ | refine wk_any ?_
        · skip
          refine ((leq20 J L (len_ok okJ) (len_ok okLL)).wk ?_).mono ?_
          · simp only [lab, num, nums_nil]
            repeat first | exact Wk.nil | exact Wk.refl _ | refine wk_agg ?_ ?_ | refine wk_ownsl ?_ | refine wk_nilsl ?_ | refine Wk.same ?_
          rintro r rfl
          rw [hlub, hp, hq]
          simp only [tru, labO, num]
          repeat' first | with_reducible refine asq_dmk (fun _ => ?_) (fun _ => ?_) | with_reducible refine asq_ndmk (fun _ => ?_) (fun _ => ?_) | with_reducible refine asq_nmk (fun _ => ?_) (fun _ => ?_) | with_reducible refine asq_mk (fun _ => ?_) (fun _ => ?_) | with_reducible refine asp_dmk (fun _ => ?_) (fun _ => ?_) | with_reducible refine asp_ndmk (fun _ => ?_) (fun _ => ?_) | with_reducible refine asp_nmk (fun _ => ?_) (fun _ => ?_) | with_reducible refine asp_mk (fun _ => ?_) (fun _ => ?_) | with_reducible refine And.intro (by first | omega | rfl | decide) ?_ | simp only [go_sem, Nat.reduceAdd, Nat.reduceSub, Nat.reduceMul, Nat.reduceLeDiff, ne_eq, Nat.reduceEqDiff, not_false_eq_true, Bool.and_true, Bool.true_and, Nat.succ_ne_self, and_true, Bool.not_true, Bool.not_false, Int.toNat_zero, Int.reduceToNat, Nat.mul_one, Int.toNat_one, hw, Bool.and_false, Bool.false_and]
          refine ((leq20 A L (len_ok okA) (len_ok okLL)).wk ?_).mono ?_
          · simp only [lab, num, nums_nil]
            repeat first | exact Wk.nil | exact Wk.refl _ | refine wk_agg ?_ ?_ | refine wk_ownsl ?_ | refine wk_nilsl ?_ | refine Wk.same ?_
          rintro r rfl
          rw [hp]
          simp only [tru, labO, num]
          repeat' first | with_reducible refine asq_dmk (fun _ => ?_) (fun _ => ?_) | with_reducible refine asq_ndmk (fun _ => ?_) (fun _ => ?_) | with_reducible refine asq_nmk (fun _ => ?_) (fun _ => ?_) | with_reducible refine asq_mk (fun _ => ?_) (fun _ => ?_) | with_reducible refine asp_dmk (fun _ => ?_) (fun _ => ?_) | with_reducible refine asp_ndmk (fun _ => ?_) (fun _ => ?_) | with_reducible refine asp_nmk (fun _ => ?_) (fun _ => ?_) | with_reducible refine asp_mk (fun _ => ?_) (fun _ => ?_) | with_reducible refine And.intro (by first | omega | rfl | decide) ?_ | simp only [go_sem, Nat.reduceAdd, Nat.reduceSub, Nat.reduceMul, Nat.reduceLeDiff, ne_eq, Nat.reduceEqDiff, not_false_eq_true, Bool.and_true, Bool.true_and, Nat.succ_ne_self, and_true, Bool.not_true, Bool.not_false, Int.toNat_zero, Int.reduceToNat, Nat.mul_one, Int.toNat_one, hw, Bool.and_false, Bool.false_and]
          refine lend_mk (n - 1) [.raw (.bool true), num ((i + 1 : Nat) : Int)] (by omega) ⟨i + 1, by omega, rfl⟩ ?_
          simp only [hvm_t, hvm_f, hvm_nil, puts_cons, puts_nil, List.set_cons_zero, List.set_cons_succ, num]
          repeat first | exact Wk.nil | refine Wk.same ?_ | refine wk_any ?_
      · cases hq : leqL B L
        · skip
          refine ((leq20 J L (len_ok okJ) (len_ok okLL)).wk ?_).mono ?_
          · simp only [lab, num, nums_nil]
            repeat first | exact Wk.nil | exact Wk.refl _ | refine wk_agg ?_ ?_ | refine wk_ownsl ?_ | refine wk_nilsl ?_ | refine Wk.same ?_
          rintro r rfl
          rw [hlub, hp, hq]
          simp only [tru, labO, num]
          repeat' first | with_reducible refine asq_dmk (fun _ => ?_) (fun _ => ?_) | with_reducible refine asq_ndmk (fun _ => ?_) (fun _ => ?_) | with_reducible refine asq_nmk (fun _ => ?_) (fun _ => ?_) | with_reducible refine asq_mk (fun _ => ?_) (fun _ => ?_) | with_reducible refine asp_dmk (fun _ => ?_) (fun _ => ?_) | with_reducible refine asp_ndmk (fun _ => ?_) (fun _ => ?_) | with_reducible refine asp_nmk (fun _ => ?_) (fun _ => ?_) | with_reducible refine asp_mk (fun _ => ?_) (fun _ => ?_) | with_reducible refine And.intro (by first | omega | rfl | decide) ?_ | simp only [go_sem, Nat.reduceAdd, Nat.reduceSub, Nat.reduceMul, Nat.reduceLeDiff, ne_eq, Nat.reduceEqDiff, not_false_eq_true, Bool.and_true, Bool.true_and, Nat.succ_ne_self, and_true, Bool.not_true, Bool.not_false, Int.toNat_zero, Int.reduceToNat, Nat.mul_one, Int.toNat_one, hw, Bool.and_false, Bool.false_and]
          refine ((leq20 A L (len_ok okA) (len_ok okLL)).wk ?_).mono ?_
          · simp only [lab, num, nums_nil]
            repeat first | exact Wk.nil | exact Wk.refl _ | refine wk_agg ?_ ?_ | refine wk_ownsl ?_ | refine wk_nilsl ?_ | refine Wk.same ?_
          rintro r rfl
          rw [hp]
          simp only [tru, labO, num]
          repeat' first | with_reducible refine asq_dmk (fun _ => ?_) (fun _ => ?_) | with_reducible refine asq_ndmk (fun _ => ?_) (fun _ => ?_) | with_reducible refine asq_nmk (fun _ => ?_) (fun _ => ?_) | with_reducible refine asq_mk (fun _ => ?_) (fun _ => ?_) | with_reducible refine asp_dmk (fun _ => ?_) (fun _ => ?_) | with_reducible refine asp_ndmk (fun _ => ?_) (fun _ => ?_) | with_reducible refine asp_nmk (fun _ => ?_) (fun _ => ?_) | with_reducible refine asp_mk (fun _ => ?_) (fun _ => ?_) | with_reducible refine And.intro (by first | omega | rfl | decide) ?_ | simp only [go_sem, Nat.reduceAdd, Nat.reduceSub, Nat.reduceMul, Nat.reduceLeDiff, ne_eq, Nat.reduceEqDiff, not_false_eq_true, Bool.and_true, Bool.true_and, Nat.succ_ne_self, and_true, Bool.not_true, Bool.not_false, Int.toNat_zero, Int.reduceToNat, Nat.mul_one, Int.toNat_one, hw, Bool.and_false, Bool.false_and]
          refine ((leq20 B L (len_ok okB) (len_ok okLL)).wk ?_).mono ?_
          · simp only [lab, num, nums_nil]
            repeat first | exact Wk.nil | exact Wk.refl _ | refine wk_agg ?_ ?_ | refine wk_ownsl ?_ | refine wk_nilsl ?_ | refine Wk.same ?_
          rintro r rfl
          rw [hq]
          simp only [tru, labO, num]
          repeat' first | with_reducible refine asq_dmk (fun _ => ?_) (fun _ => ?_) | with_reducible refine asq_ndmk (fun _ => ?_) (fun _ => ?_) | with_reducible refine asq_nmk (fun _ => ?_) (fun _ => ?_) | with_reducible refine asq_mk (fun _ => ?_) (fun _ => ?_) | with_reducible refine asp_dmk (fun _ => ?_) (fun _ => ?_) | with_reducible refine asp_ndmk (fun _ => ?_) (fun _ => ?_) | with_reducible refine asp_nmk (fun _ => ?_) (fun _ => ?_) | with_reducible refine asp_mk (fun _ => ?_) (fun _ => ?_) | with_reducible refine And.intro (by first | omega | rfl | decide) ?_ | simp only [go_sem, Nat.reduceAdd, Nat.reduceSub, Nat.reduceMul, Nat.reduceLeDiff, ne_eq, Nat.reduceEqDiff, not_false_eq_true, Bool.and_true, Bool.true_and, Nat.succ_ne_self, and_true, Bool.not_true, Bool.not_false, Int.toNat_zero, Int.reduceToNat, Nat.mul_one, Int.toNat_one, hw, Bool.and_false, Bool.false_and]
          refine lend_mk (n - 1) [.raw (.bool true), num ((i + 1 : Nat) : Int)] (by omega) ⟨i + 1, by omega, rfl⟩ ?_
          simp only [hvm_t, hvm_f, hvm_nil, puts_cons, puts_nil, List.set_cons_zero, List.set_cons_succ, num]
          repeat first | exact Wk.nil | refine Wk.same ?_ | refine wk_any ?_
        · skip
          refine ((leq20 J L (len_ok okJ) (len_ok okLL)).wk ?_).mono ?_
          · simp only [lab, num, nums_nil]
            repeat first | exact Wk.nil | exact Wk.refl _ | refine wk_agg ?_ ?_ | refine wk_ownsl ?_ | refine wk_nilsl ?_ | refine Wk.same ?_
          rintro r rfl
          rw [hlub, hp, hq]
          simp only [tru, labO, num]
          repeat' first | with_reducible refine asq_dmk (fun _ => ?_) (fun _ => ?_) | with_reducible refine asq_ndmk (fun _ => ?_) (fun _ => ?_) | with_reducible refine asq_nmk (fun _ => ?_) (fun _ => ?_) | with_reducible refine asq_mk (fun _ => ?_) (fun _ => ?_) | with_reducible refine asp_dmk (fun _ => ?_) (fun _ => ?_) | with_reducible refine asp_ndmk (fun _ => ?_) (fun _ => ?_) | with_reducible refine asp_nmk (fun _ => ?_) (fun _ => ?_) | with_reducible refine asp_mk (fun _ => ?_) (fun _ => ?_) | with_reducible refine And.intro (by first | omega | rfl | decide) ?_ | simp only [go_sem, Nat.reduceAdd, Nat.reduceSub, Nat.reduceMul, Nat.reduceLeDiff, ne_eq, Nat.reduceEqDiff, not_false_eq_true, Bool.and_true, Bool.true_and, Nat.succ_ne_self, and_true, Bool.not_true, Bool.not_false, Int.toNat_zero, Int.reduceToNat, Nat.mul_one, Int.toNat_one, hw, Bool.and_false, Bool.false_and]
          refine ((leq20 A L (len_ok okA) (len_ok okLL)).wk ?_).mono ?_
          · simp only [lab, num, nums_nil]
            repeat first | exact Wk.nil | exact Wk.refl _ | refine wk_agg ?_ ?_ | refine wk_ownsl ?_ | refine wk_nilsl ?_ | refine Wk.same ?_
          rintro r rfl
          rw [hp]
          simp only [tru, labO, num]
          repeat' first | with_reducible refine asq_dmk (fun _ => ?_) (fun _ => ?_) | with_reducible refine asq_ndmk (fun _ => ?_) (fun _ => ?_) | with_reducible refine asq_nmk (fun _ => ?_) (fun _ => ?_) | with_reducible refine asq_mk (fun _ => ?_) (fun _ => ?_) | with_reducible refine asp_dmk (fun _ => ?_) (fun _ => ?_) | with_reducible refine asp_ndmk (fun _ => ?_) (fun _ => ?_) | with_reducible refine asp_nmk (fun _ => ?_) (fun _ => ?_) | with_reducible refine asp_mk (fun _ => ?_) (fun _ => ?_) | with_reducible refine And.intro (by first | omega | rfl | decide) ?_ | simp only [go_sem, Nat.reduceAdd, Nat.reduceSub, Nat.reduceMul, Nat.reduceLeDiff, ne_eq, Nat.reduceEqDiff, not_false_eq_true, Bool.and_true, Bool.true_and, Nat.succ_ne_self, and_true, Bool.not_true, Bool.not_false, Int.toNat_zero, Int.reduceToNat, Nat.mul_one, Int.toNat_one, hw, Bool.and_false, Bool.false_and]
          refine ((leq20 B L (len_ok okB) (len_ok okLL)).wk ?_).mono ?_
          · simp only [lab, num, nums_nil]
            repeat first | exact Wk.nil | exact Wk.refl _ | refine wk_agg ?_ ?_ | refine wk_ownsl ?_ | refine wk_nilsl ?_ | refine Wk.same ?_
          rintro r rfl
          rw [hq]
          simp only [tru, labO, num]
          repeat' first | with_reducible refine asq_dmk (fun _ => ?_) (fun _ => ?_) | with_reducible refine asq_ndmk (fun _ => ?_) (fun _ => ?_) | with_reducible refine asq_nmk (fun _ => ?_) (fun _ => ?_) | with_reducible refine asq_mk (fun _ => ?_) (fun _ => ?_) | with_reducible refine asp_dmk (fun _ => ?_) (fun _ => ?_) | with_reducible refine asp_ndmk (fun _ => ?_) (fun _ => ?_) | with_reducible refine asp_nmk (fun _ => ?_) (fun _ => ?_) | with_reducible refine asp_mk (fun _ => ?_) (fun _ => ?_) | with_reducible refine And.intro (by first | omega | rfl | decide) ?_ | simp only [go_sem, Nat.reduceAdd, Nat.reduceSub, Nat.reduceMul, Nat.reduceLeDiff, ne_eq, Nat.reduceEqDiff, not_false_eq_true, Bool.and_true, Bool.true_and, Nat.succ_ne_self, and_true, Bool.not_true, Bool.not_false, Int.toNat_zero, Int.reduceToNat, Nat.mul_one, Int.toNat_one, hw, Bool.and_false, Bool.false_and]
          refine lend_mk (n - 1) [.raw (.bool true), num ((i + 1 : Nat) : Int)] (by omega) ⟨i + 1, by omega, rfl⟩ ?_
          simp only [hvm_t, hvm_f, hvm_nil, puts_cons, puts_nil, List.set_cons_zero, List.set_cons_succ, num]
          repeat first | exact Wk.nil | refine Wk.same ?_ | refine wk_any ?_
    · simp only [cwp_exit2, xseq_exit2, xblk_exit2, xseq_normal2, xblk_normal2]
      repeat' first | with_reducible refine asq_dmk (fun _ => ?_) (fun _ => ?_) | with_reducible refine asq_ndmk (fun _ => ?_) (fun _ => ?_) | with_reducible refine asq_nmk (fun _ => ?_) (fun _ => ?_) | with_reducible refine asq_mk (fun _ => ?_) (fun _ => ?_) | with_reducible refine asp_dmk (fun _ => ?_) (fun _ => ?_) | with_reducible refine asp_ndmk (fun _ => ?_) (fun _ => ?_) | with_reducible refine asp_nmk (fun _ => ?_) (fun _ => ?_) | with_reducible refine asp_mk (fun _ => ?_) (fun _ => ?_) | with_reducible refine And.intro (by first | omega | rfl | decide) ?_ | simp only [go_sem, Nat.reduceAdd, Nat.reduceSub, Nat.reduceMul, Nat.reduceLeDiff, ne_eq, Nat.reduceEqDiff, not_false_eq_true, Bool.and_true, Bool.true_and, Nat.succ_ne_self, and_true, Bool.not_true, Bool.not_false, Int.toNat_zero, Int.reduceToNat, Nat.mul_one, Int.toNat_one]
      refine ((leq20 A J (len_ok okA) (len_ok okJ)).wk ?_).mono ?_
      · simp only [lab, num, nums_nil]
        repeat first | exact Wk.nil | exact Wk.refl _ | refine wk_agg ?_ ?_ | refine wk_ownsl ?_ | refine wk_nilsl ?_ | refine Wk.same ?_
      rintro r rfl
      rw [show leqL A J = true from hJ ▸ leq_left okA okB]
      simp only [tru, labO, num]
      repeat' first | with_reducible refine asq_dmk (fun _ => ?_) (fun _ => ?_) | with_reducible refine asq_ndmk (fun _ => ?_) (fun _ => ?_) | with_reducible refine asq_nmk (fun _ => ?_) (fun _ => ?_) | with_reducible refine asq_mk (fun _ => ?_) (fun _ => ?_) | with_reducible refine asp_dmk (fun _ => ?_) (fun _ => ?_) | with_reducible refine asp_ndmk (fun _ => ?_) (fun _ => ?_) | with_reducible refine asp_nmk (fun _ => ?_) (fun _ => ?_) | with_reducible refine asp_mk (fun _ => ?_) (fun _ => ?_) | with_reducible refine And.intro (by first | omega | rfl | decide) ?_ | simp only [go_sem, Nat.reduceAdd, Nat.reduceSub, Nat.reduceMul, Nat.reduceLeDiff, ne_eq, Nat.reduceEqDiff, not_false_eq_true, Bool.and_true, Bool.true_and, Nat.succ_ne_self, and_true, Bool.not_true, Bool.not_false, Int.toNat_zero, Int.reduceToNat, Nat.mul_one, Int.toNat_one]
      refine ((leq20 B J (len_ok okB) (len_ok okJ)).wk ?_).mono ?_
      · simp only [lab, num, nums_nil]
        repeat first | exact Wk.nil | exact Wk.refl _ | refine wk_agg ?_ ?_ | refine wk_ownsl ?_ | refine wk_nilsl ?_ | refine Wk.same ?_
      rintro r rfl
      rw [show leqL B J = true from hJ ▸ leq_right okA okB]
      simp only [tru, labO, num]
      repeat' first | with_reducible refine asq_dmk (fun _ => ?_) (fun _ => ?_) | with_reducible refine asq_ndmk (fun _ => ?_) (fun _ => ?_) | with_reducible refine asq_nmk (fun _ => ?_) (fun _ => ?_) | with_reducible refine asq_mk (fun _ => ?_) (fun _ => ?_) | with_reducible refine asp_dmk (fun _ => ?_) (fun _ => ?_) | with_reducible refine asp_ndmk (fun _ => ?_) (fun _ => ?_) | with_reducible refine asp_nmk (fun _ => ?_) (fun _ => ?_) | with_reducible refine asp_mk (fun _ => ?_) (fun _ => ?_) | with_reducible refine And.intro (by first | omega | rfl | decide) ?_ | simp only [go_sem, Nat.reduceAdd, Nat.reduceSub, Nat.reduceMul, Nat.reduceLeDiff, ne_eq, Nat.reduceEqDiff, not_false_eq_true, Bool.and_true, Bool.true_and, Nat.succ_ne_self, and_true, Bool.not_true, Bool.not_false, Int.toNat_zero, Int.reduceToNat, Nat.mul_one, Int.toNat_one]
end Go.Proofs.Ytohelofjlkoboaa
