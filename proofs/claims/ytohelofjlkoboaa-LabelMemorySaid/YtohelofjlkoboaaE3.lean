/- The reference Valid, and small functions on lists. -/
import Derived.Test.YtohelofjlkoboaaT
import Derived.Test.YtohelofjlkoboaaA10
import Derived.Test.YtohelofjlkoboaaE2
namespace Go.Proofs.Ytohelofjlkoboaa
open Go.RowKit Go.Proofs
set_option linter.unusedSimpArgs false
set_option linter.unusedVariables false
set_option maxRecDepth 100000
set_option maxHeartbeats 4000000
theorem tru_f {b : Bool} (h : b = false) : AV.raw (.bool false) = tru b := by rw [h]; rfl
theorem tru_t {b : Bool} (h : b = true) : AV.raw (.bool true) = tru b := by rw [h]; rfl
theorem tru_e {a b : Bool} (h : a = b) : AV.raw (.bool a) = tru b := by rw [h]; rfl
theorem refvalid17 (l : Lb) (hl : l.a.length ≤ 1000000) : ACalls Try.prog 17 [lab l] (fun r => r = tru (okL l)) := by
  refine calls_short [] ttok hmix Try.func17 (by decide) (by decide +kernel) (by simp only [Try.f17, Option.bind_some, comp, isLend, lendOf, lendX, lendC, lendH, Nat.reduceLeDiff, Nat.reduceSub, ne_eq, not_false_eq_true, and_self, cops, cguard, gslot, List.getElem?_toArray, List.getElem?_cons_succ, List.getElem?_cons_zero, vlook, tlook, cutAt_nil, cutAt, firstReg, isCut, mkSeq, Nat.reduceAdd, Nat.reduceEqDiff, reduceIte]; rfl) Try.ntmps17 Try.results17 ⟨_, rfl⟩ rfl ?_
  simp only [List.length_cons, List.length_nil, Nat.reduceAdd, Nat.reduceSub, List.replicate_succ, List.replicate_zero, List.cons_append, List.nil_append, num, str, tru]
  simp only [go_sem, lab, num, tru]
  repeat' first|refine Spl.on (fun _=>?_) (fun _=>?_)|with_reducible refine gd ?_|simp only [go_sem]
  all_goals try (refine tru_f ?_; simp [okL]; omega)
  refine cwp_loop [false, false, false, true, true, false, false, false, false, false, false, false, false, false, false, false, false, false, false, false, false, false, false, false, false, false, false, false, false, false, false, false, false, true, true, true, true, true, true, true, true, true, true, true, true, true, true, true, true, true, true, true, true, true, true, true, true, true, true, true] [3, 4] (fun n xs => ∃ i last, i + n = l.a.length ∧ xs = [num last, num i] ∧ asc 0 l.a = asc last (l.a.drop i) ∧ 0 ≤ last ∧ last ≤ 64) ⟨_, _, ⟨0, 0, by simp; rfl, rfl, rfl, by decide, by decide⟩, ?_⟩ ?_
  · simp only [hvm_t, hvm_f, hvm_nil, puts_cons, puts_nil, List.set_cons_zero, List.set_cons_succ, num]
    exact Wk.refl _
  · rintro n xs ⟨i, last, hi, rfl, hasc, h0, h64⟩
    simp only [hvm_t, hvm_f, hvm_nil, puts_cons, puts_nil, List.set_cons_zero, List.set_cons_succ, num]
    simp only [go_sem]
    refine asq_dmk (fun h1 => ?_) (fun h1 => ?_)
    · have hlt : i < l.a.length := by omega
      have h' := asc_at (p := last) hlt
      have hw : IntKind.i64.wrap ((i : Int) + 1) = ((i + 1 : Nat) : Int) := wrap_succ (by omega)
      simp only [go_sem, nums_getD hlt]
      repeat' first|refine Spl.on (fun _=>?_) (fun _=>?_)|with_reducible refine gd ?_|simp only [go_sem, nums_getD hlt, hw]
      · refine tru_f ?_
        simp [-List.getD_eq_getElem?_getD, okL, hasc, h']; omega
      · refine tru_f ?_
        simp [-List.getD_eq_getElem?_getD, okL, hasc, h']; omega
      · skip
        · skip
          refine lend_mk (n - 1) [num (l.a.getD i 0), num ((i + 1 : Nat) : Int)] (by omega) ⟨i + 1, _, by omega, rfl, ?_, by omega, by omega⟩ ?_
          · rw [hasc, h']
            have e1 : last + 1 ≤ l.a.getD i 0 := by omega
            have e2 : l.a.getD i 0 ≤ 64 := by omega
            simp [-List.getD_eq_getElem?_getD, e1, e2]
          · simp only [hvm_t, hvm_f, hvm_nil, puts_cons, puts_nil, List.set_cons_zero, List.set_cons_succ, num]
            repeat first | exact Wk.nil | refine Wk.same ?_ | refine wk_any ?_
    · simp only [go_sem]
      have : l.a.drop i = [] := by simp; omega
      simp only [this, asc] at hasc
      refine tru_t ?_
      simp [okL, hasc]
      omega
theorem equal29 (a b : List Int) (ha : a.length ≤ 1000000) : ACalls Try.prog 29 [.sl 1 (nums a), .sl 1 (nums b)] (fun r => r = tru (decide (a = b))) := by
  refine calls_short [] ttok hmix Try.func29 (by decide) (by decide +kernel) (by simp only [Try.f29, Option.bind_some, comp, isLend, lendOf, lendX, lendC, lendH, Nat.reduceLeDiff, Nat.reduceSub, ne_eq, not_false_eq_true, and_self, cops, cguard, gslot, List.getElem?_toArray, List.getElem?_cons_succ, List.getElem?_cons_zero, vlook, tlook, cutAt_nil, cutAt, firstReg, isCut, mkSeq, Nat.reduceAdd, Nat.reduceEqDiff, reduceIte]; rfl) Try.ntmps29 Try.results29 ⟨_, rfl⟩ rfl ?_
  simp only [List.length_cons, List.length_nil, Nat.reduceAdd, Nat.reduceSub, List.replicate_succ, List.replicate_zero, List.cons_append, List.nil_append, num, str, tru]
  simp (decide := true) only [mkd_eq [5] [] [] [[16], [5], [16], [], [20], [5], [20], [], []], List.zip_cons_cons, List.zip_nil_left, List.zip_nil_right]
  simp only [go_sem, num, tru]
  refine asq_ndmk (fun h => ?_) (fun h => ?_)
  · simp only [go_sem]
    refine tru_f ?_
    simp; rintro rfl; exact h rfl
  · simp only [go_sem]
    have hl : a.length = b.length := by omega
    refine cwp_loop [false, false, false, false, false, true, false, false, false, false, false, false, false, true, true, true, true, true, true, true, true, true, true, true, true, true] [13] (fun n xs => ∃ i, i + n = a.length ∧ xs = [num i] ∧ a.take i = b.take i) ⟨_, _, ⟨0, by simp; rfl, rfl, rfl⟩, ?_⟩ ?_
    · simp only [hvm_t, hvm_f, hvm_nil, puts_cons, puts_nil, List.set_cons_zero, List.set_cons_succ, num]
      exact Wk.refl _
    · rintro n xs ⟨i, hi, rfl, ht⟩
      simp only [hvm_t, hvm_f, hvm_nil, puts_cons, puts_nil, List.set_cons_zero, List.set_cons_succ, num]
      simp only [go_sem]
      refine asq_dmk (fun h1 => ?_) (fun h1 => ?_)
      · have hlt : i < a.length := by omega
        have hlt' : i < b.length := by omega
        have hw : IntKind.i64.wrap ((i : Int) + 1) = ((i + 1 : Nat) : Int) := wrap_succ (by omega)
        simp only [go_sem, nums_getD hlt, nums_getD hlt']
        refine ⟨by omega, hlt, by omega, hlt', ?_⟩
        refine asq_ndmk (fun h2 => ?_) (fun h2 => ?_)
        · simp only [go_sem]
          refine tru_f ?_
          simp; rintro rfl; exact h2 rfl
        · simp only [go_sem, hw]
          refine lend_mk (n - 1) [num ((i + 1 : Nat) : Int)] (by omega) ⟨i + 1, by omega, rfl, ?_⟩ ?_
          · simp only [List.take_add_one, ht, List.getElem?_eq_getElem hlt, List.getElem?_eq_getElem hlt']
            simp only [List.getD_eq_getElem?_getD, List.getElem?_eq_getElem hlt, List.getElem?_eq_getElem hlt', Option.getD_some] at h2
            rw [h2]
          · simp only [hvm_t, hvm_f, hvm_nil, puts_cons, puts_nil, List.set_cons_zero, List.set_cons_succ, num]
            repeat first | exact Wk.nil | refine Wk.same ?_ | refine wk_any ?_
      · simp only [go_sem]
        refine tru_t ?_
        have : i = a.length := by omega
        subst this
        rw [List.take_length, hl, List.take_length] at ht
        simp [ht]
theorem has31w (a : List Int) (x : Int) (ha : a.length ≤ 9223372036854775807) : ACalls Try.prog 31 [.sl 1 (nums a), num x] (fun r => r = tru (decide (x ∈ a))) := by
  refine calls_short [] ttok hmix Try.func31 (by decide) (by decide +kernel) (by simp only [Try.f31, Option.bind_some, comp, isLend, lendOf, lendX, lendC, lendH, Nat.reduceLeDiff, Nat.reduceSub, ne_eq, not_false_eq_true, and_self, cops, cguard, gslot, List.getElem?_toArray, List.getElem?_cons_succ, List.getElem?_cons_zero, vlook, tlook, cutAt_nil, cutAt, firstReg, isCut, mkSeq, Nat.reduceAdd, Nat.reduceEqDiff, reduceIte]; rfl) Try.ntmps31 Try.results31 ⟨_, rfl⟩ rfl ?_
  simp only [List.length_cons, List.length_nil, Nat.reduceAdd, Nat.reduceSub, List.replicate_succ, List.replicate_zero, List.cons_append, List.nil_append, num, str, tru]
  simp only [go_sem, num, tru]
  refine cwp_loop [false, false, false, false, false, true, true, true, true, true, true, true, true, true, true, true, true, true] [5] (fun n xs => ∃ i, i + n = a.length ∧ xs = [num i] ∧ ¬ x ∈ a.take i) ⟨_, _, ⟨0, by simp; rfl, rfl, by simp⟩, ?_⟩ ?_
  · simp only [hvm_t, hvm_f, hvm_nil, puts_cons, puts_nil, List.set_cons_zero, List.set_cons_succ, num]
    exact Wk.refl _
  · rintro n xs ⟨i, hi, rfl, ht⟩
    simp only [hvm_t, hvm_f, hvm_nil, puts_cons, puts_nil, List.set_cons_zero, List.set_cons_succ, num]
    simp only [go_sem]
    refine asq_dmk (fun h1 => ?_) (fun h1 => ?_)
    · have hlt : i < a.length := by omega
      have hw : IntKind.i64.wrap ((i : Int) + 1) = ((i + 1 : Nat) : Int) := wrap_succ (by omega)
      have hg : a.getD i 0 = a[i] := by simp [hlt]
      simp only [go_sem, nums_getD hlt]
      refine ⟨by omega, hlt, ?_⟩
      refine asq_dmk (fun h2 => ?_) (fun h2 => ?_)
      · simp only [go_sem]
        refine tru_t ?_
        rw [hg] at h2
        simp [← h2]
      · simp only [go_sem, hw]
        refine lend_mk (n - 1) [num ((i + 1 : Nat) : Int)] (by omega) ⟨i + 1, by omega, rfl, ?_⟩ ?_
        · rw [List.take_add_one, List.getElem?_eq_getElem hlt]
          rw [hg] at h2
          simp only [Option.toList, List.mem_append, List.mem_singleton, not_or]
          exact ⟨ht, fun e => h2 e.symm⟩
        · simp only [hvm_t, hvm_f, hvm_nil, puts_cons, puts_nil, List.set_cons_zero, List.set_cons_succ, num]
          repeat first | exact Wk.nil | refine Wk.same ?_ | refine wk_any ?_
    · simp only [go_sem]
      refine tru_f ?_
      have : i = a.length := by omega
      subst this
      rw [List.take_length] at ht
      simp [ht]
theorem index38 (a : List Int) (x : Int) (ha : a.length ≤ 9223372036854775807) : ACalls Try.prog 38 [.sl 1 (nums a), num x] (fun r => ∃ k : Int, r = num k ∧ (0 ≤ k ↔ x ∈ a)) := by
  refine calls_short [] ttok hmix Try.func38 (by decide) (by decide +kernel) (by simp only [Try.f38, Option.bind_some, comp, isLend, lendOf, lendX, lendC, lendH, Nat.reduceLeDiff, Nat.reduceSub, ne_eq, not_false_eq_true, and_self, cops, cguard, gslot, List.getElem?_toArray, List.getElem?_cons_succ, List.getElem?_cons_zero, vlook, tlook, cutAt_nil, cutAt, firstReg, isCut, mkSeq, Nat.reduceAdd, Nat.reduceEqDiff, reduceIte]; rfl) Try.ntmps38 Try.results38 ⟨num (if x ∈ a then 0 else -1), _, rfl, by split <;> simp_all⟩ rfl ?_
  simp only [List.length_cons, List.length_nil, Nat.reduceAdd, Nat.reduceSub, List.replicate_succ, List.replicate_zero, List.cons_append, List.nil_append, num, str, tru]
  simp only [go_sem, num, tru]
  refine cwp_loop [false, false, false, false, false, true, false, false, true, true, true, true, true, true, true, true, true, true, true] [8] (fun n xs => ∃ i, i + n = a.length ∧ xs = [num i] ∧ ¬ x ∈ a.take i) ⟨_, _, ⟨0, by simp; rfl, rfl, by simp⟩, ?_⟩ ?_
  · simp only [hvm_t, hvm_f, hvm_nil, puts_cons, puts_nil, List.set_cons_zero, List.set_cons_succ, num]
    exact Wk.refl _
  · rintro n xs ⟨i, hi, rfl, ht⟩
    simp only [hvm_t, hvm_f, hvm_nil, puts_cons, puts_nil, List.set_cons_zero, List.set_cons_succ, num]
    simp only [go_sem]
    refine asq_dmk (fun h1 => ?_) (fun h1 => ?_)
    · have hlt : i < a.length := by omega
      have hw : IntKind.i64.wrap ((i : Int) + 1) = ((i + 1 : Nat) : Int) := wrap_succ (by omega)
      have hg : a.getD i 0 = a[i] := by simp [hlt]
      simp only [go_sem, nums_getD hlt]
      refine ⟨by omega, hlt, ?_⟩
      refine asq_dmk (fun h2 => ?_) (fun h2 => ?_)
      · simp only [go_sem]
        rw [hg] at h2
        exact ⟨i, rfl, by simp [h2]⟩
      · simp only [go_sem, hw]
        refine lend_mk (n - 1) [num ((i + 1 : Nat) : Int)] (by omega) ⟨i + 1, by omega, rfl, ?_⟩ ?_
        · rw [List.take_add_one, List.getElem?_eq_getElem hlt]
          rw [hg] at h2
          simp only [Option.toList, List.mem_append, List.mem_singleton, not_or]
          exact ⟨ht, h2⟩
        · simp only [hvm_t, hvm_f, hvm_nil, puts_cons, puts_nil, List.set_cons_zero, List.set_cons_succ, num]
          repeat first | exact Wk.nil | refine Wk.same ?_ | refine wk_any ?_
    · simp only [go_sem]
      have : i = a.length := by omega
      subst this
      rw [List.take_length] at ht
      exact ⟨-1, rfl, by simp [ht]⟩
theorem contains35w (a : List Int) (x : Int) (ha : a.length ≤ 9223372036854775807) : ACalls Try.prog 35 [.sl 1 (nums a), num x] (fun r => r = tru (decide (x ∈ a))) := by
  refine calls_short [] ttok hmix Try.func35 (by decide) (by decide +kernel) (by simp only [Try.f35, Option.bind_some, comp, isLend, lendOf, lendX, lendC, lendH, Nat.reduceLeDiff, Nat.reduceSub, ne_eq, not_false_eq_true, and_self, cops, cguard, gslot, List.getElem?_toArray, List.getElem?_cons_succ, List.getElem?_cons_zero, vlook, tlook, cutAt_nil, cutAt, firstReg, isCut, mkSeq, Nat.reduceAdd, Nat.reduceEqDiff, reduceIte]; rfl) Try.ntmps35 Try.results35 ⟨_, rfl⟩ rfl ?_
  simp only [List.length_cons, List.length_nil, Nat.reduceAdd, Nat.reduceSub, List.replicate_succ, List.replicate_zero, List.cons_append, List.nil_append, num, str, tru]
  simp only [go_sem, num, tru]
  refine (index38 a x ha).mono ?_
  rintro r ⟨k, rfl, hk⟩
  simp only [go_sem, num]
  exact tru_e (by simp [hk])
theorem bit32 (x : Int) (c : Nat) (hx : 0 ≤ x) (hx' : x ≤ 1000000) (hc : c ≤ 1000000) : ACalls Try.prog 32 [num x, num c] (fun r => r = tru (decide (x / 2 ^ c % 2 = 1))) := by
  refine calls_short [] ttok hmix Try.func32 (by decide) (by decide +kernel) (by simp only [Try.f32, Option.bind_some, comp, isLend, lendOf, lendX, lendC, lendH, Nat.reduceLeDiff, Nat.reduceSub, ne_eq, not_false_eq_true, and_self, cops, cguard, gslot, List.getElem?_toArray, List.getElem?_cons_succ, List.getElem?_cons_zero, vlook, tlook, cutAt_nil, cutAt, firstReg, isCut, mkSeq, Nat.reduceAdd, Nat.reduceEqDiff, reduceIte]; rfl) Try.ntmps32 Try.results32 ⟨_, rfl⟩ rfl ?_
  simp only [List.length_cons, List.length_nil, Nat.reduceAdd, Nat.reduceSub, List.replicate_succ, List.replicate_zero, List.cons_append, List.nil_append, num, str, tru]
  simp only [go_sem, num, tru]
  refine cwp_loop [true, false, false, false, false, true, true, true, true, true, true, true, true, true, true, true] [0, 5] (fun n xs => ∃ i : Nat, i + n = c ∧ xs = [num (x / 2 ^ i), num i]) ⟨_, _, ⟨0, by simp; rfl, rfl⟩, ?_⟩ ?_
  · simp only [hvm_t, hvm_f, hvm_nil, puts_cons, puts_nil, List.set_cons_zero, List.set_cons_succ, num]
    simp only [Int.pow_zero, Int.ediv_one]
    exact Wk.refl _
  · rintro n xs ⟨i, hi, rfl⟩
    simp only [hvm_t, hvm_f, hvm_nil, puts_cons, puts_nil, List.set_cons_zero, List.set_cons_succ, num]
    have p0 : (0 : Int) < 2 ^ i := Int.pow_pos (by decide)
    have e0 : 0 ≤ x / 2 ^ i := Int.ediv_nonneg hx (Int.le_of_lt p0)
    have e1 : x / 2 ^ i ≤ x := Int.ediv_le_self _ hx
    simp only [go_sem]
    refine asq_dmk (fun h1 => ?_) (fun h1 => ?_)
    · have hw : IntKind.i64.wrap ((i : Int) + 1) = ((i + 1 : Nat) : Int) := wrap_succ (by omega)
      simp only [go_sem, hw]
      refine ⟨by decide, ?_⟩
      have e2 : IntKind.i64.wrap ((x / 2 ^ i).tdiv 2) = x / 2 ^ (i + 1) := by
        rw [Int.tdiv_eq_ediv_of_nonneg e0, wrap_in (by omega) (by omega), Int.pow_succ, Int.ediv_ediv_of_nonneg (Int.le_of_lt p0)]
      rw [e2]
      refine lend_mk (n - 1) [num (x / 2 ^ (i + 1)), num ((i + 1 : Nat) : Int)] (by omega) ⟨i + 1, by omega, rfl⟩ ?_
      simp only [hvm_t, hvm_f, hvm_nil, puts_cons, puts_nil, List.set_cons_zero, List.set_cons_succ, num]
      repeat first | exact Wk.nil | refine Wk.same ?_ | refine wk_any ?_
    · simp only [go_sem]
      have : i = c := by omega
      subst this
      refine ⟨by decide, ?_⟩
      refine tru_e ?_
      rw [Int.tmod_eq_emod_of_nonneg e0]
theorem has31 (a : List Int) (x : Int) (ha : a.length ≤ 1000000) : ACalls Try.prog 31 [.sl 1 (nums a), num x] (fun r => r = tru (decide (x ∈ a))) := has31w a x (Nat.le_trans ha (by decide))
theorem contains35 (a : List Int) (x : Int) (ha : a.length ≤ 1000000) : ACalls Try.prog 35 [.sl 1 (nums a), num x] (fun r => r = tru (decide (x ∈ a))) := contains35w a x (Nat.le_trans ha (by decide))
end Go.Proofs.Ytohelofjlkoboaa
