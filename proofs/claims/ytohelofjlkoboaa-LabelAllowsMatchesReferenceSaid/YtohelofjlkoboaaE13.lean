/- The reference Join, Raw and Stories. -/
import Derived.Test.YtohelofjlkoboaaT
import Derived.Test.YtohelofjlkoboaaA10
import Derived.Test.YtohelofjlkoboaaE12
namespace Go.Proofs.Ytohelofjlkoboaa
open Go.RowKit Go.Proofs
set_option linter.unusedSimpArgs false
set_option linter.unusedVariables false
set_option maxRecDepth 100000
set_option maxHeartbeats 4000000
theorem wk_boxe {T : Nat} {cs ds xs ys : List AV} (h1 : Wk cs ds) (h : Wk xs ys) : Wk (.box T cs :: xs) (.box T ds :: ys) := Wk.box (W1.box h1) h
def orA (x y : Int) : Nat → Int
  | 0 => 0
  | i + 1 => orA x y i + if bitL x i || bitL y i then 2 ^ i else 0
theorem orA_4 (x y : Int) : orA x y 4 = or4 x y := by
  simp only [orA, or4, Nat.reduceAdd]
  split <;> split <;> split <;> split <;> omega
theorem orA_lt (x y : Int) : ∀ i : Nat, 0 ≤ orA x y i ∧ orA x y i < 2 ^ i
  | 0 => by simp [orA]
  | i + 1 => by
    obtain ⟨h1, h2⟩ := orA_lt x y i
    have h3 : (2 : Int) ^ (i + 1) = 2 * 2 ^ i := by rw [Int.pow_succ]; omega
    rw [orA, h3]
    split <;> omega
theorem pow_le {i : Nat} (h : i < 4) : 0 < (2 : Int) ^ i ∧ (2 : Int) ^ i ≤ 8 := by
  rcases (by omega : i = 0 ∨ i = 1 ∨ i = 2 ∨ i = 3) with rfl | rfl | rfl | rfl <;> decide
theorem ids_filter_succ {a b : List Int} {i : Nat} (hi : i < 64) : (ids.take (i + 1)).filter (inAny a b) = (ids.take i).filter (inAny a b) ++ if inAny a b ((i : Int) + 1) then [(i : Int) + 1] else [] := by
  rw [ids_take hi, List.filter_append]
  cases h : inAny a b ((i : Int) + 1) <;> simp [h]
theorem refjoin23 (a b : Lb) (hla : a.a.length ≤ 1000000) (hlb : b.a.length ≤ 1000000) : ACalls Try.prog 23 [lab a, lab b] (fun r => r = bif okL a && okL b then labO (joinL a b) else zeroR) := by
  refine calls_short [] ttok hmix Try.func23 (by decide) (by decide +kernel) (by simp only [Try.f23, Option.bind_some, comp, cops, cguard, gslot, List.getElem?_toArray, List.getElem?_cons_succ, List.getElem?_cons_zero, vlook, tlook]; rfl) Try.ntmps23 Try.results23 ⟨_, rfl⟩ rfl ?_
  simp only [List.length_cons, List.length_nil, Nat.reduceAdd, Nat.reduceSub, List.replicate_succ, List.replicate_zero, List.cons_append, List.nil_append, num, str, tru]
  simp only [go_sem, Nat.reduceAdd, Nat.reduceSub, Nat.reduceMul, Nat.reduceLeDiff, ne_eq, Nat.reduceEqDiff, not_false_eq_true, Bool.and_true, Bool.true_and, Nat.succ_ne_self, and_true, Bool.not_true, Bool.not_false, Int.toNat_zero, Int.reduceToNat, Nat.mul_one, Int.toNat_one, lab, num, tru]
  repeat' first | with_reducible refine asq_dmk (fun _ => ?_) (fun _ => ?_) | with_reducible refine asq_ndmk (fun _ => ?_) (fun _ => ?_) | with_reducible refine asq_nmk (fun _ => ?_) (fun _ => ?_) | with_reducible refine asq_mk (fun _ => ?_) (fun _ => ?_) | with_reducible refine asp_dmk (fun _ => ?_) (fun _ => ?_) | with_reducible refine asp_ndmk (fun _ => ?_) (fun _ => ?_) | with_reducible refine asp_nmk (fun _ => ?_) (fun _ => ?_) | with_reducible refine asp_mk (fun _ => ?_) (fun _ => ?_) | with_reducible refine And.intro (by first | omega | rfl | decide) ?_ | simp only [go_sem, Nat.reduceAdd, Nat.reduceSub, Nat.reduceMul, Nat.reduceLeDiff, ne_eq, Nat.reduceEqDiff, not_false_eq_true, Bool.and_true, Bool.true_and, Nat.succ_ne_self, and_true, Bool.not_true, Bool.not_false, Int.toNat_zero, Int.reduceToNat, Nat.mul_one, Int.toNat_one]
  refine (refvalid17 a hla).mono ?_
  rintro r rfl
  simp only [tru]
  repeat' first | with_reducible refine asq_dmk (fun _ => ?_) (fun _ => ?_) | with_reducible refine asq_ndmk (fun _ => ?_) (fun _ => ?_) | with_reducible refine asq_nmk (fun _ => ?_) (fun _ => ?_) | with_reducible refine asq_mk (fun _ => ?_) (fun _ => ?_) | with_reducible refine asp_dmk (fun _ => ?_) (fun _ => ?_) | with_reducible refine asp_ndmk (fun _ => ?_) (fun _ => ?_) | with_reducible refine asp_nmk (fun _ => ?_) (fun _ => ?_) | with_reducible refine asp_mk (fun _ => ?_) (fun _ => ?_) | with_reducible refine And.intro (by first | omega | rfl | decide) ?_ | simp only [go_sem, Nat.reduceAdd, Nat.reduceSub, Nat.reduceMul, Nat.reduceLeDiff, ne_eq, Nat.reduceEqDiff, not_false_eq_true, Bool.and_true, Bool.true_and, Nat.succ_ne_self, and_true, Bool.not_true, Bool.not_false, Int.toNat_zero, Int.reduceToNat, Nat.mul_one, Int.toNat_one]
  refine (refvalid17 b hlb).mono ?_
  rintro r rfl
  simp only [tru]
  repeat' first | with_reducible refine asq_dmk (fun _ => ?_) (fun _ => ?_) | with_reducible refine asq_ndmk (fun _ => ?_) (fun _ => ?_) | with_reducible refine asq_nmk (fun _ => ?_) (fun _ => ?_) | with_reducible refine asq_mk (fun _ => ?_) (fun _ => ?_) | with_reducible refine asp_dmk (fun _ => ?_) (fun _ => ?_) | with_reducible refine asp_ndmk (fun _ => ?_) (fun _ => ?_) | with_reducible refine asp_nmk (fun _ => ?_) (fun _ => ?_) | with_reducible refine asp_mk (fun _ => ?_) (fun _ => ?_) | with_reducible refine And.intro (by first | omega | rfl | decide) ?_ | simp only [go_sem, Nat.reduceAdd, Nat.reduceSub, Nat.reduceMul, Nat.reduceLeDiff, ne_eq, Nat.reduceEqDiff, not_false_eq_true, Bool.and_true, Bool.true_and, Nat.succ_ne_self, and_true, Bool.not_true, Bool.not_false, Int.toNat_zero, Int.reduceToNat, Nat.mul_one, Int.toNat_one]
  · rename_i h1
    simp only [h1, Bool.false_and, cond_false]; rfl
  · rename_i h1 h2
    simp only [h2, Bool.and_false, cond_false]; rfl
  · skip
    have k1 : okL a = true := by assumption
    have k2 : okL b = true := by assumption
    refine cwp_loop [false, false, false, false, false, false, false, true, true, true, true, false, false, false, false, false, false, false, false, false, false, false, false, false, false, false, true, true, true, true, true, true, true, true, true, true, true, true, true, true, true, true, true, true, true, true, true, true, true, true, true, true, true, true, true, true, true, true, true, true, true, true, true, true, true, true, false, false, false, false, false, false, false, false, false, false, false, false, false, false, false, false, false, false, false, false, false, false, false, false, false] [7, 8] (fun n xs => ∃ i : Nat, i + n = 64 ∧ xs = [.box 26 [num (b.u), .own 3 1 (nums ((ids.take i).filter (inAny a.a b.a))), num (b.n), num a.d], num ((i : Int) + 1)]) ⟨64, _, ⟨0, rfl, rfl⟩, ?_⟩ ?_
    · simp only [hvm_t, hvm_f, hvm_nil, puts_cons, puts_nil, List.set_cons_zero, List.set_cons_succ, num]
      repeat first | exact Wk.nil | refine Wk.same ?_ | refine wk_any ?_ | refine wk_boxe (Wk.same (wk_nilown (Wk.same (Wk.same Wk.nil)))) ?_
    · rintro m xs ⟨i, hi, rfl⟩
      simp only [hvm_t, hvm_f, hvm_nil, puts_cons, puts_nil, List.set_cons_zero, List.set_cons_succ, num]
      simp only [go_sem, Nat.reduceAdd, Nat.reduceSub, Nat.reduceMul, Nat.reduceLeDiff, ne_eq, Nat.reduceEqDiff, not_false_eq_true, Bool.and_true, Bool.true_and, Nat.succ_ne_self, and_true, Bool.not_true, Bool.not_false, Int.toNat_zero, Int.reduceToNat, Nat.mul_one, Int.toNat_one]
      refine asq_dmk (fun g1 => ?_) (fun g1 => ?_)
      · have hw2 : IntKind.i64.wrap ((i : Int) + 1 + 1) = ((i + 1 : Nat) : Int) + 1 := by rw [wrap_in (by omega) (by omega)]; omega
        have hlen : ((ids.take i).filter (inAny a.a b.a)).length ≤ i := Nat.le_trans (List.length_filter_le ..) (by simp; omega)
        repeat' first | with_reducible refine asq_dmk (fun _ => ?_) (fun _ => ?_) | with_reducible refine asq_ndmk (fun _ => ?_) (fun _ => ?_) | with_reducible refine asq_nmk (fun _ => ?_) (fun _ => ?_) | with_reducible refine asq_mk (fun _ => ?_) (fun _ => ?_) | with_reducible refine asp_dmk (fun _ => ?_) (fun _ => ?_) | with_reducible refine asp_ndmk (fun _ => ?_) (fun _ => ?_) | with_reducible refine asp_nmk (fun _ => ?_) (fun _ => ?_) | with_reducible refine asp_mk (fun _ => ?_) (fun _ => ?_) | with_reducible refine And.intro (by first | omega | rfl | decide) ?_ | simp only [go_sem, Nat.reduceAdd, Nat.reduceSub, Nat.reduceMul, Nat.reduceLeDiff, ne_eq, Nat.reduceEqDiff, not_false_eq_true, Bool.and_true, Bool.true_and, Nat.succ_ne_self, and_true, Bool.not_true, Bool.not_false, Int.toNat_zero, Int.reduceToNat, Nat.mul_one, Int.toNat_one]
        refine (has31 a.a ((i : Int) + 1) hla).mono ?_
        rintro r rfl
        simp only [tru]
        repeat' first | with_reducible refine asq_dmk (fun _ => ?_) (fun _ => ?_) | with_reducible refine asq_ndmk (fun _ => ?_) (fun _ => ?_) | with_reducible refine asq_nmk (fun _ => ?_) (fun _ => ?_) | with_reducible refine asq_mk (fun _ => ?_) (fun _ => ?_) | with_reducible refine asp_dmk (fun _ => ?_) (fun _ => ?_) | with_reducible refine asp_ndmk (fun _ => ?_) (fun _ => ?_) | with_reducible refine asp_nmk (fun _ => ?_) (fun _ => ?_) | with_reducible refine asp_mk (fun _ => ?_) (fun _ => ?_) | with_reducible refine And.intro (by first | omega | rfl | decide) ?_ | simp only [go_sem, Nat.reduceAdd, Nat.reduceSub, Nat.reduceMul, Nat.reduceLeDiff, ne_eq, Nat.reduceEqDiff, not_false_eq_true, Bool.and_true, Bool.true_and, Nat.succ_ne_self, and_true, Bool.not_true, Bool.not_false, Int.toNat_zero, Int.reduceToNat, Nat.mul_one, Int.toNat_one]
        refine (has31 b.a ((i : Int) + 1) hlb).mono ?_
        rintro r rfl
        simp only [tru]
        repeat' first | with_reducible refine asq_dmk (fun _ => ?_) (fun _ => ?_) | with_reducible refine asq_ndmk (fun _ => ?_) (fun _ => ?_) | with_reducible refine asq_nmk (fun _ => ?_) (fun _ => ?_) | with_reducible refine asq_mk (fun _ => ?_) (fun _ => ?_) | with_reducible refine asp_dmk (fun _ => ?_) (fun _ => ?_) | with_reducible refine asp_ndmk (fun _ => ?_) (fun _ => ?_) | with_reducible refine asp_nmk (fun _ => ?_) (fun _ => ?_) | with_reducible refine asp_mk (fun _ => ?_) (fun _ => ?_) | with_reducible refine And.intro (by first | omega | rfl | decide) ?_ | simp only [go_sem, Nat.reduceAdd, Nat.reduceSub, Nat.reduceMul, Nat.reduceLeDiff, ne_eq, Nat.reduceEqDiff, not_false_eq_true, Bool.and_true, Bool.true_and, Nat.succ_ne_self, and_true, Bool.not_true, Bool.not_false, Int.toNat_zero, Int.reduceToNat, Nat.mul_one, Int.toNat_one, hw2]
        · have hin : inAny a.a b.a ((i : Int) + 1) = true := by simp_all [inAny]
          refine ⟨rfl, by decide, by omega, by omega, ?_⟩
          refine lend_mk (m - 1) [.box 26 [num (b.u), .own 3 1 (nums ((ids.take (i + 1)).filter (inAny a.a b.a))), num (b.n), num a.d], num (((i + 1 : Nat) : Int) + 1)] (by omega) ⟨i + 1, by omega, rfl⟩ ?_
          rw [ids_filter_succ (by omega), hin, if_pos rfl, ← nums_app]
          simp only [hvm_t, hvm_f, hvm_nil, puts_cons, puts_nil, List.set_cons_zero, List.set_cons_succ, num]
          repeat first | exact Wk.nil | refine Wk.same ?_ | refine wk_any ?_
        · have hin : inAny a.a b.a ((i : Int) + 1) = true := by simp_all [inAny]
          refine ⟨rfl, by decide, by omega, by omega, ?_⟩
          refine lend_mk (m - 1) [.box 26 [num (b.u), .own 3 1 (nums ((ids.take (i + 1)).filter (inAny a.a b.a))), num (b.n), num a.d], num (((i + 1 : Nat) : Int) + 1)] (by omega) ⟨i + 1, by omega, rfl⟩ ?_
          rw [ids_filter_succ (by omega), hin, if_pos rfl, ← nums_app]
          simp only [hvm_t, hvm_f, hvm_nil, puts_cons, puts_nil, List.set_cons_zero, List.set_cons_succ, num]
          repeat first | exact Wk.nil | refine Wk.same ?_ | refine wk_any ?_
        · have hin : inAny a.a b.a ((i : Int) + 1) = false := by simp_all [inAny]
          refine lend_mk (m - 1) [.box 26 [num (b.u), .own 3 1 (nums ((ids.take (i + 1)).filter (inAny a.a b.a))), num (b.n), num a.d], num (((i + 1 : Nat) : Int) + 1)] (by omega) ⟨i + 1, by omega, rfl⟩ ?_
          rw [ids_filter_succ (by omega), hin, if_neg (by decide), List.append_nil]
          simp only [hvm_t, hvm_f, hvm_nil, puts_cons, puts_nil, List.set_cons_zero, List.set_cons_succ, num]
          repeat first | exact Wk.nil | refine Wk.same ?_ | refine wk_any ?_
      · have : i = 64 := by omega
        subst this
        have e : ids.take 64 = ids := List.take_of_length_le (by simp [ids])
        rw [e]
        repeat' first | with_reducible refine asq_dmk (fun _ => ?_) (fun _ => ?_) | with_reducible refine asq_ndmk (fun _ => ?_) (fun _ => ?_) | with_reducible refine asq_nmk (fun _ => ?_) (fun _ => ?_) | with_reducible refine asq_mk (fun _ => ?_) (fun _ => ?_) | with_reducible refine asp_dmk (fun _ => ?_) (fun _ => ?_) | with_reducible refine asp_ndmk (fun _ => ?_) (fun _ => ?_) | with_reducible refine asp_nmk (fun _ => ?_) (fun _ => ?_) | with_reducible refine asp_mk (fun _ => ?_) (fun _ => ?_) | with_reducible refine And.intro (by first | omega | rfl | decide) ?_ | simp only [go_sem, Nat.reduceAdd, Nat.reduceSub, Nat.reduceMul, Nat.reduceLeDiff, ne_eq, Nat.reduceEqDiff, not_false_eq_true, Bool.and_true, Bool.true_and, Nat.succ_ne_self, and_true, Bool.not_true, Bool.not_false, Int.toNat_zero, Int.reduceToNat, Nat.mul_one, Int.toNat_one]
        refine cwp_loop [false, false, false, false, false, false, false, true, false, false, false, true, true, true, true, false, false, false, false, false, false, false, false, false, false, false, false, false, false, false, false, false, false, false, false, false, false, false, false, false, false, false, false, false, false, false, false, false, false, false, false, false, false, false, false, false, false, false, false, false, false, false, false, false, false, false, true, true, true, true, true, true, true, true, true, true, true, true, true, true, true, true, true, true, true, true, true, true, true, true, false] [7, 11, 12] (fun n xs => ∃ i : Nat, i + n = 4 ∧ xs = [.box 26 [num (b.u), .own 3 1 (nums (ids.filter (inAny a.a b.a))), num (b.n), num (orA a.d b.d i)], num (2 ^ i), num (i : Int)]) ⟨4, _, ⟨0, rfl, rfl⟩, ?_⟩ ?_
        · simp only [hvm_t, hvm_f, hvm_nil, puts_cons, puts_nil, List.set_cons_zero, List.set_cons_succ, num]
          repeat first | exact Wk.nil | refine Wk.same ?_ | refine wk_any ?_
        · rintro m xs ⟨i, hi, rfl⟩
          simp only [hvm_t, hvm_f, hvm_nil, puts_cons, puts_nil, List.set_cons_zero, List.set_cons_succ, num]
          simp only [go_sem, Nat.reduceAdd, Nat.reduceSub, Nat.reduceMul, Nat.reduceLeDiff, ne_eq, Nat.reduceEqDiff, not_false_eq_true, Bool.and_true, Bool.true_and, Nat.succ_ne_self, and_true, Bool.not_true, Bool.not_false, Int.toNat_zero, Int.reduceToNat, Nat.mul_one, Int.toNat_one]
          refine asq_dmk (fun g2 => ?_) (fun g2 => ?_)
          · have hi4 : i < 4 := by omega
            have hw : IntKind.i64.wrap ((i : Int) + 1) = ((i + 1 : Nat) : Int) := wrap_succ (by omega)
            have hp := pow_le hi4
            have ho := orA_lt a.d b.d i
            have hw3 : IntKind.i64.wrap (2 ^ i * 2) = (2 : Int) ^ (i + 1) := by rw [wrap_in (by omega) (by omega), Int.pow_succ]
            have hw4 : IntKind.i64.wrap (orA a.d b.d i + 2 ^ i) = orA a.d b.d i + 2 ^ i := wrap_in (by omega) (by omega)
            repeat' first | with_reducible refine asq_dmk (fun _ => ?_) (fun _ => ?_) | with_reducible refine asq_ndmk (fun _ => ?_) (fun _ => ?_) | with_reducible refine asq_nmk (fun _ => ?_) (fun _ => ?_) | with_reducible refine asq_mk (fun _ => ?_) (fun _ => ?_) | with_reducible refine asp_dmk (fun _ => ?_) (fun _ => ?_) | with_reducible refine asp_ndmk (fun _ => ?_) (fun _ => ?_) | with_reducible refine asp_nmk (fun _ => ?_) (fun _ => ?_) | with_reducible refine asp_mk (fun _ => ?_) (fun _ => ?_) | with_reducible refine And.intro (by first | omega | rfl | decide) ?_ | simp only [go_sem, Nat.reduceAdd, Nat.reduceSub, Nat.reduceMul, Nat.reduceLeDiff, ne_eq, Nat.reduceEqDiff, not_false_eq_true, Bool.and_true, Bool.true_and, Nat.succ_ne_self, and_true, Bool.not_true, Bool.not_false, Int.toNat_zero, Int.reduceToNat, Nat.mul_one, Int.toNat_one]
            refine (bit32 a.d i (okL_d k1).1 (by have := okL_d k1; omega) (by omega)).mono ?_
            rintro r rfl
            simp only [tru]
            repeat' first | with_reducible refine asq_dmk (fun _ => ?_) (fun _ => ?_) | with_reducible refine asq_ndmk (fun _ => ?_) (fun _ => ?_) | with_reducible refine asq_nmk (fun _ => ?_) (fun _ => ?_) | with_reducible refine asq_mk (fun _ => ?_) (fun _ => ?_) | with_reducible refine asp_dmk (fun _ => ?_) (fun _ => ?_) | with_reducible refine asp_ndmk (fun _ => ?_) (fun _ => ?_) | with_reducible refine asp_nmk (fun _ => ?_) (fun _ => ?_) | with_reducible refine asp_mk (fun _ => ?_) (fun _ => ?_) | with_reducible refine And.intro (by first | omega | rfl | decide) ?_ | simp only [go_sem, Nat.reduceAdd, Nat.reduceSub, Nat.reduceMul, Nat.reduceLeDiff, ne_eq, Nat.reduceEqDiff, not_false_eq_true, Bool.and_true, Bool.true_and, Nat.succ_ne_self, and_true, Bool.not_true, Bool.not_false, Int.toNat_zero, Int.reduceToNat, Nat.mul_one, Int.toNat_one]
            refine (bit32 b.d i (okL_d k2).1 (by have := okL_d k2; omega) (by omega)).mono ?_
            rintro r rfl
            simp only [tru]
            repeat' first | with_reducible refine asq_dmk (fun _ => ?_) (fun _ => ?_) | with_reducible refine asq_ndmk (fun _ => ?_) (fun _ => ?_) | with_reducible refine asq_nmk (fun _ => ?_) (fun _ => ?_) | with_reducible refine asq_mk (fun _ => ?_) (fun _ => ?_) | with_reducible refine asp_dmk (fun _ => ?_) (fun _ => ?_) | with_reducible refine asp_ndmk (fun _ => ?_) (fun _ => ?_) | with_reducible refine asp_nmk (fun _ => ?_) (fun _ => ?_) | with_reducible refine asp_mk (fun _ => ?_) (fun _ => ?_) | with_reducible refine And.intro (by first | omega | rfl | decide) ?_ | simp only [go_sem, Nat.reduceAdd, Nat.reduceSub, Nat.reduceMul, Nat.reduceLeDiff, ne_eq, Nat.reduceEqDiff, not_false_eq_true, Bool.and_true, Bool.true_and, Nat.succ_ne_self, and_true, Bool.not_true, Bool.not_false, Int.toNat_zero, Int.reduceToNat, Nat.mul_one, Int.toNat_one, hw, hw3, hw4]
            · have hb : (bitL a.d i || bitL b.d i) = true := by simp_all [bitL]
              refine lend_mk (m - 1) [.box 26 [num (b.u), .own 3 1 (nums (ids.filter (inAny a.a b.a))), num (b.n), num (orA a.d b.d (i + 1))], num (2 ^ (i + 1)), num ((i + 1 : Nat) : Int)] (by omega) ⟨i + 1, by omega, rfl⟩ ?_
              rw [orA, hb]
              simp only [if_true, Bool.false_eq_true, if_false, Int.add_zero]
              simp only [hvm_t, hvm_f, hvm_nil, puts_cons, puts_nil, List.set_cons_zero, List.set_cons_succ, num]
              repeat first | exact Wk.nil | refine Wk.same ?_ | refine wk_any ?_
            · have hb : (bitL a.d i || bitL b.d i) = true := by simp_all [bitL]
              refine lend_mk (m - 1) [.box 26 [num (b.u), .own 3 1 (nums (ids.filter (inAny a.a b.a))), num (b.n), num (orA a.d b.d (i + 1))], num (2 ^ (i + 1)), num ((i + 1 : Nat) : Int)] (by omega) ⟨i + 1, by omega, rfl⟩ ?_
              rw [orA, hb]
              simp only [if_true, Bool.false_eq_true, if_false, Int.add_zero]
              simp only [hvm_t, hvm_f, hvm_nil, puts_cons, puts_nil, List.set_cons_zero, List.set_cons_succ, num]
              repeat first | exact Wk.nil | refine Wk.same ?_ | refine wk_any ?_
            · have hb : (bitL a.d i || bitL b.d i) = false := by simp_all [bitL]
              refine lend_mk (m - 1) [.box 26 [num (b.u), .own 3 1 (nums (ids.filter (inAny a.a b.a))), num (b.n), num (orA a.d b.d (i + 1))], num (2 ^ (i + 1)), num ((i + 1 : Nat) : Int)] (by omega) ⟨i + 1, by omega, rfl⟩ ?_
              rw [orA, hb]
              simp only [if_true, Bool.false_eq_true, if_false, Int.add_zero]
              simp only [hvm_t, hvm_f, hvm_nil, puts_cons, puts_nil, List.set_cons_zero, List.set_cons_succ, num]
              repeat first | exact Wk.nil | refine Wk.same ?_ | refine wk_any ?_
          · have : i = 4 := by omega
            subst this
            repeat' first | with_reducible refine asq_dmk (fun _ => ?_) (fun _ => ?_) | with_reducible refine asq_ndmk (fun _ => ?_) (fun _ => ?_) | with_reducible refine asq_nmk (fun _ => ?_) (fun _ => ?_) | with_reducible refine asq_mk (fun _ => ?_) (fun _ => ?_) | with_reducible refine asp_dmk (fun _ => ?_) (fun _ => ?_) | with_reducible refine asp_ndmk (fun _ => ?_) (fun _ => ?_) | with_reducible refine asp_nmk (fun _ => ?_) (fun _ => ?_) | with_reducible refine asp_mk (fun _ => ?_) (fun _ => ?_) | with_reducible refine And.intro (by first | omega | rfl | decide) ?_ | simp only [go_sem, Nat.reduceAdd, Nat.reduceSub, Nat.reduceMul, Nat.reduceLeDiff, ne_eq, Nat.reduceEqDiff, not_false_eq_true, Bool.and_true, Bool.true_and, Nat.succ_ne_self, and_true, Bool.not_true, Bool.not_false, Int.toNat_zero, Int.reduceToNat, Nat.mul_one, Int.toNat_one]
            have hu : max a.u b.u = b.u := by omega
            have hn : max a.n b.n = b.n := by omega
            simp only [orA_4, k1, k2, Bool.and_self, cond_true, labO, joinL, if_true, num, joinA, hu, hn]
  · skip
    have k1 : okL a = true := by assumption
    have k2 : okL b = true := by assumption
    refine cwp_loop [false, false, false, false, false, false, false, true, true, true, true, false, false, false, false, false, false, false, false, false, false, false, false, false, false, false, true, true, true, true, true, true, true, true, true, true, true, true, true, true, true, true, true, true, true, true, true, true, true, true, true, true, true, true, true, true, true, true, true, true, true, true, true, true, true, true, false, false, false, false, false, false, false, false, false, false, false, false, false, false, false, false, false, false, false, false, false, false, false, false, false] [7, 8] (fun n xs => ∃ i : Nat, i + n = 64 ∧ xs = [.box 26 [num (b.u), .own 3 1 (nums ((ids.take i).filter (inAny a.a b.a))), num (a.n), num a.d], num ((i : Int) + 1)]) ⟨64, _, ⟨0, rfl, rfl⟩, ?_⟩ ?_
    · simp only [hvm_t, hvm_f, hvm_nil, puts_cons, puts_nil, List.set_cons_zero, List.set_cons_succ, num]
      repeat first | exact Wk.nil | refine Wk.same ?_ | refine wk_any ?_ | refine wk_boxe (Wk.same (wk_nilown (Wk.same (Wk.same Wk.nil)))) ?_
    · rintro m xs ⟨i, hi, rfl⟩
      simp only [hvm_t, hvm_f, hvm_nil, puts_cons, puts_nil, List.set_cons_zero, List.set_cons_succ, num]
      simp only [go_sem, Nat.reduceAdd, Nat.reduceSub, Nat.reduceMul, Nat.reduceLeDiff, ne_eq, Nat.reduceEqDiff, not_false_eq_true, Bool.and_true, Bool.true_and, Nat.succ_ne_self, and_true, Bool.not_true, Bool.not_false, Int.toNat_zero, Int.reduceToNat, Nat.mul_one, Int.toNat_one]
      refine asq_dmk (fun g1 => ?_) (fun g1 => ?_)
      · have hw2 : IntKind.i64.wrap ((i : Int) + 1 + 1) = ((i + 1 : Nat) : Int) + 1 := by rw [wrap_in (by omega) (by omega)]; omega
        have hlen : ((ids.take i).filter (inAny a.a b.a)).length ≤ i := Nat.le_trans (List.length_filter_le ..) (by simp; omega)
        repeat' first | with_reducible refine asq_dmk (fun _ => ?_) (fun _ => ?_) | with_reducible refine asq_ndmk (fun _ => ?_) (fun _ => ?_) | with_reducible refine asq_nmk (fun _ => ?_) (fun _ => ?_) | with_reducible refine asq_mk (fun _ => ?_) (fun _ => ?_) | with_reducible refine asp_dmk (fun _ => ?_) (fun _ => ?_) | with_reducible refine asp_ndmk (fun _ => ?_) (fun _ => ?_) | with_reducible refine asp_nmk (fun _ => ?_) (fun _ => ?_) | with_reducible refine asp_mk (fun _ => ?_) (fun _ => ?_) | with_reducible refine And.intro (by first | omega | rfl | decide) ?_ | simp only [go_sem, Nat.reduceAdd, Nat.reduceSub, Nat.reduceMul, Nat.reduceLeDiff, ne_eq, Nat.reduceEqDiff, not_false_eq_true, Bool.and_true, Bool.true_and, Nat.succ_ne_self, and_true, Bool.not_true, Bool.not_false, Int.toNat_zero, Int.reduceToNat, Nat.mul_one, Int.toNat_one]
        refine (has31 a.a ((i : Int) + 1) hla).mono ?_
        rintro r rfl
        simp only [tru]
        repeat' first | with_reducible refine asq_dmk (fun _ => ?_) (fun _ => ?_) | with_reducible refine asq_ndmk (fun _ => ?_) (fun _ => ?_) | with_reducible refine asq_nmk (fun _ => ?_) (fun _ => ?_) | with_reducible refine asq_mk (fun _ => ?_) (fun _ => ?_) | with_reducible refine asp_dmk (fun _ => ?_) (fun _ => ?_) | with_reducible refine asp_ndmk (fun _ => ?_) (fun _ => ?_) | with_reducible refine asp_nmk (fun _ => ?_) (fun _ => ?_) | with_reducible refine asp_mk (fun _ => ?_) (fun _ => ?_) | with_reducible refine And.intro (by first | omega | rfl | decide) ?_ | simp only [go_sem, Nat.reduceAdd, Nat.reduceSub, Nat.reduceMul, Nat.reduceLeDiff, ne_eq, Nat.reduceEqDiff, not_false_eq_true, Bool.and_true, Bool.true_and, Nat.succ_ne_self, and_true, Bool.not_true, Bool.not_false, Int.toNat_zero, Int.reduceToNat, Nat.mul_one, Int.toNat_one]
        refine (has31 b.a ((i : Int) + 1) hlb).mono ?_
        rintro r rfl
        simp only [tru]
        repeat' first | with_reducible refine asq_dmk (fun _ => ?_) (fun _ => ?_) | with_reducible refine asq_ndmk (fun _ => ?_) (fun _ => ?_) | with_reducible refine asq_nmk (fun _ => ?_) (fun _ => ?_) | with_reducible refine asq_mk (fun _ => ?_) (fun _ => ?_) | with_reducible refine asp_dmk (fun _ => ?_) (fun _ => ?_) | with_reducible refine asp_ndmk (fun _ => ?_) (fun _ => ?_) | with_reducible refine asp_nmk (fun _ => ?_) (fun _ => ?_) | with_reducible refine asp_mk (fun _ => ?_) (fun _ => ?_) | with_reducible refine And.intro (by first | omega | rfl | decide) ?_ | simp only [go_sem, Nat.reduceAdd, Nat.reduceSub, Nat.reduceMul, Nat.reduceLeDiff, ne_eq, Nat.reduceEqDiff, not_false_eq_true, Bool.and_true, Bool.true_and, Nat.succ_ne_self, and_true, Bool.not_true, Bool.not_false, Int.toNat_zero, Int.reduceToNat, Nat.mul_one, Int.toNat_one, hw2]
        · have hin : inAny a.a b.a ((i : Int) + 1) = true := by simp_all [inAny]
          refine ⟨rfl, by decide, by omega, by omega, ?_⟩
          refine lend_mk (m - 1) [.box 26 [num (b.u), .own 3 1 (nums ((ids.take (i + 1)).filter (inAny a.a b.a))), num (a.n), num a.d], num (((i + 1 : Nat) : Int) + 1)] (by omega) ⟨i + 1, by omega, rfl⟩ ?_
          rw [ids_filter_succ (by omega), hin, if_pos rfl, ← nums_app]
          simp only [hvm_t, hvm_f, hvm_nil, puts_cons, puts_nil, List.set_cons_zero, List.set_cons_succ, num]
          repeat first | exact Wk.nil | refine Wk.same ?_ | refine wk_any ?_
        · have hin : inAny a.a b.a ((i : Int) + 1) = true := by simp_all [inAny]
          refine ⟨rfl, by decide, by omega, by omega, ?_⟩
          refine lend_mk (m - 1) [.box 26 [num (b.u), .own 3 1 (nums ((ids.take (i + 1)).filter (inAny a.a b.a))), num (a.n), num a.d], num (((i + 1 : Nat) : Int) + 1)] (by omega) ⟨i + 1, by omega, rfl⟩ ?_
          rw [ids_filter_succ (by omega), hin, if_pos rfl, ← nums_app]
          simp only [hvm_t, hvm_f, hvm_nil, puts_cons, puts_nil, List.set_cons_zero, List.set_cons_succ, num]
          repeat first | exact Wk.nil | refine Wk.same ?_ | refine wk_any ?_
        · have hin : inAny a.a b.a ((i : Int) + 1) = false := by simp_all [inAny]
          refine lend_mk (m - 1) [.box 26 [num (b.u), .own 3 1 (nums ((ids.take (i + 1)).filter (inAny a.a b.a))), num (a.n), num a.d], num (((i + 1 : Nat) : Int) + 1)] (by omega) ⟨i + 1, by omega, rfl⟩ ?_
          rw [ids_filter_succ (by omega), hin, if_neg (by decide), List.append_nil]
          simp only [hvm_t, hvm_f, hvm_nil, puts_cons, puts_nil, List.set_cons_zero, List.set_cons_succ, num]
          repeat first | exact Wk.nil | refine Wk.same ?_ | refine wk_any ?_
      · have : i = 64 := by omega
        subst this
        have e : ids.take 64 = ids := List.take_of_length_le (by simp [ids])
        rw [e]
        repeat' first | with_reducible refine asq_dmk (fun _ => ?_) (fun _ => ?_) | with_reducible refine asq_ndmk (fun _ => ?_) (fun _ => ?_) | with_reducible refine asq_nmk (fun _ => ?_) (fun _ => ?_) | with_reducible refine asq_mk (fun _ => ?_) (fun _ => ?_) | with_reducible refine asp_dmk (fun _ => ?_) (fun _ => ?_) | with_reducible refine asp_ndmk (fun _ => ?_) (fun _ => ?_) | with_reducible refine asp_nmk (fun _ => ?_) (fun _ => ?_) | with_reducible refine asp_mk (fun _ => ?_) (fun _ => ?_) | with_reducible refine And.intro (by first | omega | rfl | decide) ?_ | simp only [go_sem, Nat.reduceAdd, Nat.reduceSub, Nat.reduceMul, Nat.reduceLeDiff, ne_eq, Nat.reduceEqDiff, not_false_eq_true, Bool.and_true, Bool.true_and, Nat.succ_ne_self, and_true, Bool.not_true, Bool.not_false, Int.toNat_zero, Int.reduceToNat, Nat.mul_one, Int.toNat_one]
        refine cwp_loop [false, false, false, false, false, false, false, true, false, false, false, true, true, true, true, false, false, false, false, false, false, false, false, false, false, false, false, false, false, false, false, false, false, false, false, false, false, false, false, false, false, false, false, false, false, false, false, false, false, false, false, false, false, false, false, false, false, false, false, false, false, false, false, false, false, false, true, true, true, true, true, true, true, true, true, true, true, true, true, true, true, true, true, true, true, true, true, true, true, true, false] [7, 11, 12] (fun n xs => ∃ i : Nat, i + n = 4 ∧ xs = [.box 26 [num (b.u), .own 3 1 (nums (ids.filter (inAny a.a b.a))), num (a.n), num (orA a.d b.d i)], num (2 ^ i), num (i : Int)]) ⟨4, _, ⟨0, rfl, rfl⟩, ?_⟩ ?_
        · simp only [hvm_t, hvm_f, hvm_nil, puts_cons, puts_nil, List.set_cons_zero, List.set_cons_succ, num]
          repeat first | exact Wk.nil | refine Wk.same ?_ | refine wk_any ?_
        · rintro m xs ⟨i, hi, rfl⟩
          simp only [hvm_t, hvm_f, hvm_nil, puts_cons, puts_nil, List.set_cons_zero, List.set_cons_succ, num]
          simp only [go_sem, Nat.reduceAdd, Nat.reduceSub, Nat.reduceMul, Nat.reduceLeDiff, ne_eq, Nat.reduceEqDiff, not_false_eq_true, Bool.and_true, Bool.true_and, Nat.succ_ne_self, and_true, Bool.not_true, Bool.not_false, Int.toNat_zero, Int.reduceToNat, Nat.mul_one, Int.toNat_one]
          refine asq_dmk (fun g2 => ?_) (fun g2 => ?_)
          · have hi4 : i < 4 := by omega
            have hw : IntKind.i64.wrap ((i : Int) + 1) = ((i + 1 : Nat) : Int) := wrap_succ (by omega)
            have hp := pow_le hi4
            have ho := orA_lt a.d b.d i
            have hw3 : IntKind.i64.wrap (2 ^ i * 2) = (2 : Int) ^ (i + 1) := by rw [wrap_in (by omega) (by omega), Int.pow_succ]
            have hw4 : IntKind.i64.wrap (orA a.d b.d i + 2 ^ i) = orA a.d b.d i + 2 ^ i := wrap_in (by omega) (by omega)
            repeat' first | with_reducible refine asq_dmk (fun _ => ?_) (fun _ => ?_) | with_reducible refine asq_ndmk (fun _ => ?_) (fun _ => ?_) | with_reducible refine asq_nmk (fun _ => ?_) (fun _ => ?_) | with_reducible refine asq_mk (fun _ => ?_) (fun _ => ?_) | with_reducible refine asp_dmk (fun _ => ?_) (fun _ => ?_) | with_reducible refine asp_ndmk (fun _ => ?_) (fun _ => ?_) | with_reducible refine asp_nmk (fun _ => ?_) (fun _ => ?_) | with_reducible refine asp_mk (fun _ => ?_) (fun _ => ?_) | with_reducible refine And.intro (by first | omega | rfl | decide) ?_ | simp only [go_sem, Nat.reduceAdd, Nat.reduceSub, Nat.reduceMul, Nat.reduceLeDiff, ne_eq, Nat.reduceEqDiff, not_false_eq_true, Bool.and_true, Bool.true_and, Nat.succ_ne_self, and_true, Bool.not_true, Bool.not_false, Int.toNat_zero, Int.reduceToNat, Nat.mul_one, Int.toNat_one]
            refine (bit32 a.d i (okL_d k1).1 (by have := okL_d k1; omega) (by omega)).mono ?_
            rintro r rfl
            simp only [tru]
            repeat' first | with_reducible refine asq_dmk (fun _ => ?_) (fun _ => ?_) | with_reducible refine asq_ndmk (fun _ => ?_) (fun _ => ?_) | with_reducible refine asq_nmk (fun _ => ?_) (fun _ => ?_) | with_reducible refine asq_mk (fun _ => ?_) (fun _ => ?_) | with_reducible refine asp_dmk (fun _ => ?_) (fun _ => ?_) | with_reducible refine asp_ndmk (fun _ => ?_) (fun _ => ?_) | with_reducible refine asp_nmk (fun _ => ?_) (fun _ => ?_) | with_reducible refine asp_mk (fun _ => ?_) (fun _ => ?_) | with_reducible refine And.intro (by first | omega | rfl | decide) ?_ | simp only [go_sem, Nat.reduceAdd, Nat.reduceSub, Nat.reduceMul, Nat.reduceLeDiff, ne_eq, Nat.reduceEqDiff, not_false_eq_true, Bool.and_true, Bool.true_and, Nat.succ_ne_self, and_true, Bool.not_true, Bool.not_false, Int.toNat_zero, Int.reduceToNat, Nat.mul_one, Int.toNat_one]
            refine (bit32 b.d i (okL_d k2).1 (by have := okL_d k2; omega) (by omega)).mono ?_
            rintro r rfl
            simp only [tru]
            repeat' first | with_reducible refine asq_dmk (fun _ => ?_) (fun _ => ?_) | with_reducible refine asq_ndmk (fun _ => ?_) (fun _ => ?_) | with_reducible refine asq_nmk (fun _ => ?_) (fun _ => ?_) | with_reducible refine asq_mk (fun _ => ?_) (fun _ => ?_) | with_reducible refine asp_dmk (fun _ => ?_) (fun _ => ?_) | with_reducible refine asp_ndmk (fun _ => ?_) (fun _ => ?_) | with_reducible refine asp_nmk (fun _ => ?_) (fun _ => ?_) | with_reducible refine asp_mk (fun _ => ?_) (fun _ => ?_) | with_reducible refine And.intro (by first | omega | rfl | decide) ?_ | simp only [go_sem, Nat.reduceAdd, Nat.reduceSub, Nat.reduceMul, Nat.reduceLeDiff, ne_eq, Nat.reduceEqDiff, not_false_eq_true, Bool.and_true, Bool.true_and, Nat.succ_ne_self, and_true, Bool.not_true, Bool.not_false, Int.toNat_zero, Int.reduceToNat, Nat.mul_one, Int.toNat_one, hw, hw3, hw4]
            · have hb : (bitL a.d i || bitL b.d i) = true := by simp_all [bitL]
              refine lend_mk (m - 1) [.box 26 [num (b.u), .own 3 1 (nums (ids.filter (inAny a.a b.a))), num (a.n), num (orA a.d b.d (i + 1))], num (2 ^ (i + 1)), num ((i + 1 : Nat) : Int)] (by omega) ⟨i + 1, by omega, rfl⟩ ?_
              rw [orA, hb]
              simp only [if_true, Bool.false_eq_true, if_false, Int.add_zero]
              simp only [hvm_t, hvm_f, hvm_nil, puts_cons, puts_nil, List.set_cons_zero, List.set_cons_succ, num]
              repeat first | exact Wk.nil | refine Wk.same ?_ | refine wk_any ?_
            · have hb : (bitL a.d i || bitL b.d i) = true := by simp_all [bitL]
              refine lend_mk (m - 1) [.box 26 [num (b.u), .own 3 1 (nums (ids.filter (inAny a.a b.a))), num (a.n), num (orA a.d b.d (i + 1))], num (2 ^ (i + 1)), num ((i + 1 : Nat) : Int)] (by omega) ⟨i + 1, by omega, rfl⟩ ?_
              rw [orA, hb]
              simp only [if_true, Bool.false_eq_true, if_false, Int.add_zero]
              simp only [hvm_t, hvm_f, hvm_nil, puts_cons, puts_nil, List.set_cons_zero, List.set_cons_succ, num]
              repeat first | exact Wk.nil | refine Wk.same ?_ | refine wk_any ?_
            · have hb : (bitL a.d i || bitL b.d i) = false := by simp_all [bitL]
              refine lend_mk (m - 1) [.box 26 [num (b.u), .own 3 1 (nums (ids.filter (inAny a.a b.a))), num (a.n), num (orA a.d b.d (i + 1))], num (2 ^ (i + 1)), num ((i + 1 : Nat) : Int)] (by omega) ⟨i + 1, by omega, rfl⟩ ?_
              rw [orA, hb]
              simp only [if_true, Bool.false_eq_true, if_false, Int.add_zero]
              simp only [hvm_t, hvm_f, hvm_nil, puts_cons, puts_nil, List.set_cons_zero, List.set_cons_succ, num]
              repeat first | exact Wk.nil | refine Wk.same ?_ | refine wk_any ?_
          · have : i = 4 := by omega
            subst this
            repeat' first | with_reducible refine asq_dmk (fun _ => ?_) (fun _ => ?_) | with_reducible refine asq_ndmk (fun _ => ?_) (fun _ => ?_) | with_reducible refine asq_nmk (fun _ => ?_) (fun _ => ?_) | with_reducible refine asq_mk (fun _ => ?_) (fun _ => ?_) | with_reducible refine asp_dmk (fun _ => ?_) (fun _ => ?_) | with_reducible refine asp_ndmk (fun _ => ?_) (fun _ => ?_) | with_reducible refine asp_nmk (fun _ => ?_) (fun _ => ?_) | with_reducible refine asp_mk (fun _ => ?_) (fun _ => ?_) | with_reducible refine And.intro (by first | omega | rfl | decide) ?_ | simp only [go_sem, Nat.reduceAdd, Nat.reduceSub, Nat.reduceMul, Nat.reduceLeDiff, ne_eq, Nat.reduceEqDiff, not_false_eq_true, Bool.and_true, Bool.true_and, Nat.succ_ne_self, and_true, Bool.not_true, Bool.not_false, Int.toNat_zero, Int.reduceToNat, Nat.mul_one, Int.toNat_one]
            have hu : max a.u b.u = b.u := by omega
            have hn : max a.n b.n = a.n := by omega
            simp only [orA_4, k1, k2, Bool.and_self, cond_true, labO, joinL, if_true, num, joinA, hu, hn]
  · skip
    have k1 : okL a = true := by assumption
    have k2 : okL b = true := by assumption
    refine cwp_loop [false, false, false, false, false, false, false, true, true, true, true, false, false, false, false, false, false, false, false, false, false, false, false, false, false, false, true, true, true, true, true, true, true, true, true, true, true, true, true, true, true, true, true, true, true, true, true, true, true, true, true, true, true, true, true, true, true, true, true, true, true, true, true, true, true, true, false, false, false, false, false, false, false, false, false, false, false, false, false, false, false, false, false, false, false, false, false, false, false, false, false] [7, 8] (fun n xs => ∃ i : Nat, i + n = 64 ∧ xs = [.box 26 [num (a.u), .own 3 1 (nums ((ids.take i).filter (inAny a.a b.a))), num (b.n), num a.d], num ((i : Int) + 1)]) ⟨64, _, ⟨0, rfl, rfl⟩, ?_⟩ ?_
    · simp only [hvm_t, hvm_f, hvm_nil, puts_cons, puts_nil, List.set_cons_zero, List.set_cons_succ, num]
      repeat first | exact Wk.nil | refine Wk.same ?_ | refine wk_any ?_ | refine wk_boxe (Wk.same (wk_nilown (Wk.same (Wk.same Wk.nil)))) ?_
    · rintro m xs ⟨i, hi, rfl⟩
      simp only [hvm_t, hvm_f, hvm_nil, puts_cons, puts_nil, List.set_cons_zero, List.set_cons_succ, num]
      simp only [go_sem, Nat.reduceAdd, Nat.reduceSub, Nat.reduceMul, Nat.reduceLeDiff, ne_eq, Nat.reduceEqDiff, not_false_eq_true, Bool.and_true, Bool.true_and, Nat.succ_ne_self, and_true, Bool.not_true, Bool.not_false, Int.toNat_zero, Int.reduceToNat, Nat.mul_one, Int.toNat_one]
      refine asq_dmk (fun g1 => ?_) (fun g1 => ?_)
      · have hw2 : IntKind.i64.wrap ((i : Int) + 1 + 1) = ((i + 1 : Nat) : Int) + 1 := by rw [wrap_in (by omega) (by omega)]; omega
        have hlen : ((ids.take i).filter (inAny a.a b.a)).length ≤ i := Nat.le_trans (List.length_filter_le ..) (by simp; omega)
        repeat' first | with_reducible refine asq_dmk (fun _ => ?_) (fun _ => ?_) | with_reducible refine asq_ndmk (fun _ => ?_) (fun _ => ?_) | with_reducible refine asq_nmk (fun _ => ?_) (fun _ => ?_) | with_reducible refine asq_mk (fun _ => ?_) (fun _ => ?_) | with_reducible refine asp_dmk (fun _ => ?_) (fun _ => ?_) | with_reducible refine asp_ndmk (fun _ => ?_) (fun _ => ?_) | with_reducible refine asp_nmk (fun _ => ?_) (fun _ => ?_) | with_reducible refine asp_mk (fun _ => ?_) (fun _ => ?_) | with_reducible refine And.intro (by first | omega | rfl | decide) ?_ | simp only [go_sem, Nat.reduceAdd, Nat.reduceSub, Nat.reduceMul, Nat.reduceLeDiff, ne_eq, Nat.reduceEqDiff, not_false_eq_true, Bool.and_true, Bool.true_and, Nat.succ_ne_self, and_true, Bool.not_true, Bool.not_false, Int.toNat_zero, Int.reduceToNat, Nat.mul_one, Int.toNat_one]
        refine (has31 a.a ((i : Int) + 1) hla).mono ?_
        rintro r rfl
        simp only [tru]
        repeat' first | with_reducible refine asq_dmk (fun _ => ?_) (fun _ => ?_) | with_reducible refine asq_ndmk (fun _ => ?_) (fun _ => ?_) | with_reducible refine asq_nmk (fun _ => ?_) (fun _ => ?_) | with_reducible refine asq_mk (fun _ => ?_) (fun _ => ?_) | with_reducible refine asp_dmk (fun _ => ?_) (fun _ => ?_) | with_reducible refine asp_ndmk (fun _ => ?_) (fun _ => ?_) | with_reducible refine asp_nmk (fun _ => ?_) (fun _ => ?_) | with_reducible refine asp_mk (fun _ => ?_) (fun _ => ?_) | with_reducible refine And.intro (by first | omega | rfl | decide) ?_ | simp only [go_sem, Nat.reduceAdd, Nat.reduceSub, Nat.reduceMul, Nat.reduceLeDiff, ne_eq, Nat.reduceEqDiff, not_false_eq_true, Bool.and_true, Bool.true_and, Nat.succ_ne_self, and_true, Bool.not_true, Bool.not_false, Int.toNat_zero, Int.reduceToNat, Nat.mul_one, Int.toNat_one]
        refine (has31 b.a ((i : Int) + 1) hlb).mono ?_
        rintro r rfl
        simp only [tru]
        repeat' first | with_reducible refine asq_dmk (fun _ => ?_) (fun _ => ?_) | with_reducible refine asq_ndmk (fun _ => ?_) (fun _ => ?_) | with_reducible refine asq_nmk (fun _ => ?_) (fun _ => ?_) | with_reducible refine asq_mk (fun _ => ?_) (fun _ => ?_) | with_reducible refine asp_dmk (fun _ => ?_) (fun _ => ?_) | with_reducible refine asp_ndmk (fun _ => ?_) (fun _ => ?_) | with_reducible refine asp_nmk (fun _ => ?_) (fun _ => ?_) | with_reducible refine asp_mk (fun _ => ?_) (fun _ => ?_) | with_reducible refine And.intro (by first | omega | rfl | decide) ?_ | simp only [go_sem, Nat.reduceAdd, Nat.reduceSub, Nat.reduceMul, Nat.reduceLeDiff, ne_eq, Nat.reduceEqDiff, not_false_eq_true, Bool.and_true, Bool.true_and, Nat.succ_ne_self, and_true, Bool.not_true, Bool.not_false, Int.toNat_zero, Int.reduceToNat, Nat.mul_one, Int.toNat_one, hw2]
        · have hin : inAny a.a b.a ((i : Int) + 1) = true := by simp_all [inAny]
          refine ⟨rfl, by decide, by omega, by omega, ?_⟩
          refine lend_mk (m - 1) [.box 26 [num (a.u), .own 3 1 (nums ((ids.take (i + 1)).filter (inAny a.a b.a))), num (b.n), num a.d], num (((i + 1 : Nat) : Int) + 1)] (by omega) ⟨i + 1, by omega, rfl⟩ ?_
          rw [ids_filter_succ (by omega), hin, if_pos rfl, ← nums_app]
          simp only [hvm_t, hvm_f, hvm_nil, puts_cons, puts_nil, List.set_cons_zero, List.set_cons_succ, num]
          repeat first | exact Wk.nil | refine Wk.same ?_ | refine wk_any ?_
        · have hin : inAny a.a b.a ((i : Int) + 1) = true := by simp_all [inAny]
          refine ⟨rfl, by decide, by omega, by omega, ?_⟩
          refine lend_mk (m - 1) [.box 26 [num (a.u), .own 3 1 (nums ((ids.take (i + 1)).filter (inAny a.a b.a))), num (b.n), num a.d], num (((i + 1 : Nat) : Int) + 1)] (by omega) ⟨i + 1, by omega, rfl⟩ ?_
          rw [ids_filter_succ (by omega), hin, if_pos rfl, ← nums_app]
          simp only [hvm_t, hvm_f, hvm_nil, puts_cons, puts_nil, List.set_cons_zero, List.set_cons_succ, num]
          repeat first | exact Wk.nil | refine Wk.same ?_ | refine wk_any ?_
        · have hin : inAny a.a b.a ((i : Int) + 1) = false := by simp_all [inAny]
          refine lend_mk (m - 1) [.box 26 [num (a.u), .own 3 1 (nums ((ids.take (i + 1)).filter (inAny a.a b.a))), num (b.n), num a.d], num (((i + 1 : Nat) : Int) + 1)] (by omega) ⟨i + 1, by omega, rfl⟩ ?_
          rw [ids_filter_succ (by omega), hin, if_neg (by decide), List.append_nil]
          simp only [hvm_t, hvm_f, hvm_nil, puts_cons, puts_nil, List.set_cons_zero, List.set_cons_succ, num]
          repeat first | exact Wk.nil | refine Wk.same ?_ | refine wk_any ?_
      · have : i = 64 := by omega
        subst this
        have e : ids.take 64 = ids := List.take_of_length_le (by simp [ids])
        rw [e]
        repeat' first | with_reducible refine asq_dmk (fun _ => ?_) (fun _ => ?_) | with_reducible refine asq_ndmk (fun _ => ?_) (fun _ => ?_) | with_reducible refine asq_nmk (fun _ => ?_) (fun _ => ?_) | with_reducible refine asq_mk (fun _ => ?_) (fun _ => ?_) | with_reducible refine asp_dmk (fun _ => ?_) (fun _ => ?_) | with_reducible refine asp_ndmk (fun _ => ?_) (fun _ => ?_) | with_reducible refine asp_nmk (fun _ => ?_) (fun _ => ?_) | with_reducible refine asp_mk (fun _ => ?_) (fun _ => ?_) | with_reducible refine And.intro (by first | omega | rfl | decide) ?_ | simp only [go_sem, Nat.reduceAdd, Nat.reduceSub, Nat.reduceMul, Nat.reduceLeDiff, ne_eq, Nat.reduceEqDiff, not_false_eq_true, Bool.and_true, Bool.true_and, Nat.succ_ne_self, and_true, Bool.not_true, Bool.not_false, Int.toNat_zero, Int.reduceToNat, Nat.mul_one, Int.toNat_one]
        refine cwp_loop [false, false, false, false, false, false, false, true, false, false, false, true, true, true, true, false, false, false, false, false, false, false, false, false, false, false, false, false, false, false, false, false, false, false, false, false, false, false, false, false, false, false, false, false, false, false, false, false, false, false, false, false, false, false, false, false, false, false, false, false, false, false, false, false, false, false, true, true, true, true, true, true, true, true, true, true, true, true, true, true, true, true, true, true, true, true, true, true, true, true, false] [7, 11, 12] (fun n xs => ∃ i : Nat, i + n = 4 ∧ xs = [.box 26 [num (a.u), .own 3 1 (nums (ids.filter (inAny a.a b.a))), num (b.n), num (orA a.d b.d i)], num (2 ^ i), num (i : Int)]) ⟨4, _, ⟨0, rfl, rfl⟩, ?_⟩ ?_
        · simp only [hvm_t, hvm_f, hvm_nil, puts_cons, puts_nil, List.set_cons_zero, List.set_cons_succ, num]
          repeat first | exact Wk.nil | refine Wk.same ?_ | refine wk_any ?_
        · rintro m xs ⟨i, hi, rfl⟩
          simp only [hvm_t, hvm_f, hvm_nil, puts_cons, puts_nil, List.set_cons_zero, List.set_cons_succ, num]
          simp only [go_sem, Nat.reduceAdd, Nat.reduceSub, Nat.reduceMul, Nat.reduceLeDiff, ne_eq, Nat.reduceEqDiff, not_false_eq_true, Bool.and_true, Bool.true_and, Nat.succ_ne_self, and_true, Bool.not_true, Bool.not_false, Int.toNat_zero, Int.reduceToNat, Nat.mul_one, Int.toNat_one]
          refine asq_dmk (fun g2 => ?_) (fun g2 => ?_)
          · have hi4 : i < 4 := by omega
            have hw : IntKind.i64.wrap ((i : Int) + 1) = ((i + 1 : Nat) : Int) := wrap_succ (by omega)
            have hp := pow_le hi4
            have ho := orA_lt a.d b.d i
            have hw3 : IntKind.i64.wrap (2 ^ i * 2) = (2 : Int) ^ (i + 1) := by rw [wrap_in (by omega) (by omega), Int.pow_succ]
            have hw4 : IntKind.i64.wrap (orA a.d b.d i + 2 ^ i) = orA a.d b.d i + 2 ^ i := wrap_in (by omega) (by omega)
            repeat' first | with_reducible refine asq_dmk (fun _ => ?_) (fun _ => ?_) | with_reducible refine asq_ndmk (fun _ => ?_) (fun _ => ?_) | with_reducible refine asq_nmk (fun _ => ?_) (fun _ => ?_) | with_reducible refine asq_mk (fun _ => ?_) (fun _ => ?_) | with_reducible refine asp_dmk (fun _ => ?_) (fun _ => ?_) | with_reducible refine asp_ndmk (fun _ => ?_) (fun _ => ?_) | with_reducible refine asp_nmk (fun _ => ?_) (fun _ => ?_) | with_reducible refine asp_mk (fun _ => ?_) (fun _ => ?_) | with_reducible refine And.intro (by first | omega | rfl | decide) ?_ | simp only [go_sem, Nat.reduceAdd, Nat.reduceSub, Nat.reduceMul, Nat.reduceLeDiff, ne_eq, Nat.reduceEqDiff, not_false_eq_true, Bool.and_true, Bool.true_and, Nat.succ_ne_self, and_true, Bool.not_true, Bool.not_false, Int.toNat_zero, Int.reduceToNat, Nat.mul_one, Int.toNat_one]
            refine (bit32 a.d i (okL_d k1).1 (by have := okL_d k1; omega) (by omega)).mono ?_
            rintro r rfl
            simp only [tru]
            repeat' first | with_reducible refine asq_dmk (fun _ => ?_) (fun _ => ?_) | with_reducible refine asq_ndmk (fun _ => ?_) (fun _ => ?_) | with_reducible refine asq_nmk (fun _ => ?_) (fun _ => ?_) | with_reducible refine asq_mk (fun _ => ?_) (fun _ => ?_) | with_reducible refine asp_dmk (fun _ => ?_) (fun _ => ?_) | with_reducible refine asp_ndmk (fun _ => ?_) (fun _ => ?_) | with_reducible refine asp_nmk (fun _ => ?_) (fun _ => ?_) | with_reducible refine asp_mk (fun _ => ?_) (fun _ => ?_) | with_reducible refine And.intro (by first | omega | rfl | decide) ?_ | simp only [go_sem, Nat.reduceAdd, Nat.reduceSub, Nat.reduceMul, Nat.reduceLeDiff, ne_eq, Nat.reduceEqDiff, not_false_eq_true, Bool.and_true, Bool.true_and, Nat.succ_ne_self, and_true, Bool.not_true, Bool.not_false, Int.toNat_zero, Int.reduceToNat, Nat.mul_one, Int.toNat_one]
            refine (bit32 b.d i (okL_d k2).1 (by have := okL_d k2; omega) (by omega)).mono ?_
            rintro r rfl
            simp only [tru]
            repeat' first | with_reducible refine asq_dmk (fun _ => ?_) (fun _ => ?_) | with_reducible refine asq_ndmk (fun _ => ?_) (fun _ => ?_) | with_reducible refine asq_nmk (fun _ => ?_) (fun _ => ?_) | with_reducible refine asq_mk (fun _ => ?_) (fun _ => ?_) | with_reducible refine asp_dmk (fun _ => ?_) (fun _ => ?_) | with_reducible refine asp_ndmk (fun _ => ?_) (fun _ => ?_) | with_reducible refine asp_nmk (fun _ => ?_) (fun _ => ?_) | with_reducible refine asp_mk (fun _ => ?_) (fun _ => ?_) | with_reducible refine And.intro (by first | omega | rfl | decide) ?_ | simp only [go_sem, Nat.reduceAdd, Nat.reduceSub, Nat.reduceMul, Nat.reduceLeDiff, ne_eq, Nat.reduceEqDiff, not_false_eq_true, Bool.and_true, Bool.true_and, Nat.succ_ne_self, and_true, Bool.not_true, Bool.not_false, Int.toNat_zero, Int.reduceToNat, Nat.mul_one, Int.toNat_one, hw, hw3, hw4]
            · have hb : (bitL a.d i || bitL b.d i) = true := by simp_all [bitL]
              refine lend_mk (m - 1) [.box 26 [num (a.u), .own 3 1 (nums (ids.filter (inAny a.a b.a))), num (b.n), num (orA a.d b.d (i + 1))], num (2 ^ (i + 1)), num ((i + 1 : Nat) : Int)] (by omega) ⟨i + 1, by omega, rfl⟩ ?_
              rw [orA, hb]
              simp only [if_true, Bool.false_eq_true, if_false, Int.add_zero]
              simp only [hvm_t, hvm_f, hvm_nil, puts_cons, puts_nil, List.set_cons_zero, List.set_cons_succ, num]
              repeat first | exact Wk.nil | refine Wk.same ?_ | refine wk_any ?_
            · have hb : (bitL a.d i || bitL b.d i) = true := by simp_all [bitL]
              refine lend_mk (m - 1) [.box 26 [num (a.u), .own 3 1 (nums (ids.filter (inAny a.a b.a))), num (b.n), num (orA a.d b.d (i + 1))], num (2 ^ (i + 1)), num ((i + 1 : Nat) : Int)] (by omega) ⟨i + 1, by omega, rfl⟩ ?_
              rw [orA, hb]
              simp only [if_true, Bool.false_eq_true, if_false, Int.add_zero]
              simp only [hvm_t, hvm_f, hvm_nil, puts_cons, puts_nil, List.set_cons_zero, List.set_cons_succ, num]
              repeat first | exact Wk.nil | refine Wk.same ?_ | refine wk_any ?_
            · have hb : (bitL a.d i || bitL b.d i) = false := by simp_all [bitL]
              refine lend_mk (m - 1) [.box 26 [num (a.u), .own 3 1 (nums (ids.filter (inAny a.a b.a))), num (b.n), num (orA a.d b.d (i + 1))], num (2 ^ (i + 1)), num ((i + 1 : Nat) : Int)] (by omega) ⟨i + 1, by omega, rfl⟩ ?_
              rw [orA, hb]
              simp only [if_true, Bool.false_eq_true, if_false, Int.add_zero]
              simp only [hvm_t, hvm_f, hvm_nil, puts_cons, puts_nil, List.set_cons_zero, List.set_cons_succ, num]
              repeat first | exact Wk.nil | refine Wk.same ?_ | refine wk_any ?_
          · have : i = 4 := by omega
            subst this
            repeat' first | with_reducible refine asq_dmk (fun _ => ?_) (fun _ => ?_) | with_reducible refine asq_ndmk (fun _ => ?_) (fun _ => ?_) | with_reducible refine asq_nmk (fun _ => ?_) (fun _ => ?_) | with_reducible refine asq_mk (fun _ => ?_) (fun _ => ?_) | with_reducible refine asp_dmk (fun _ => ?_) (fun _ => ?_) | with_reducible refine asp_ndmk (fun _ => ?_) (fun _ => ?_) | with_reducible refine asp_nmk (fun _ => ?_) (fun _ => ?_) | with_reducible refine asp_mk (fun _ => ?_) (fun _ => ?_) | with_reducible refine And.intro (by first | omega | rfl | decide) ?_ | simp only [go_sem, Nat.reduceAdd, Nat.reduceSub, Nat.reduceMul, Nat.reduceLeDiff, ne_eq, Nat.reduceEqDiff, not_false_eq_true, Bool.and_true, Bool.true_and, Nat.succ_ne_self, and_true, Bool.not_true, Bool.not_false, Int.toNat_zero, Int.reduceToNat, Nat.mul_one, Int.toNat_one]
            have hu : max a.u b.u = a.u := by omega
            have hn : max a.n b.n = b.n := by omega
            simp only [orA_4, k1, k2, Bool.and_self, cond_true, labO, joinL, if_true, num, joinA, hu, hn]
  · skip
    have k1 : okL a = true := by assumption
    have k2 : okL b = true := by assumption
    refine cwp_loop [false, false, false, false, false, false, false, true, true, true, true, false, false, false, false, false, false, false, false, false, false, false, false, false, false, false, true, true, true, true, true, true, true, true, true, true, true, true, true, true, true, true, true, true, true, true, true, true, true, true, true, true, true, true, true, true, true, true, true, true, true, true, true, true, true, true, false, false, false, false, false, false, false, false, false, false, false, false, false, false, false, false, false, false, false, false, false, false, false, false, false] [7, 8] (fun n xs => ∃ i : Nat, i + n = 64 ∧ xs = [.box 26 [num (a.u), .own 3 1 (nums ((ids.take i).filter (inAny a.a b.a))), num (a.n), num a.d], num ((i : Int) + 1)]) ⟨64, _, ⟨0, rfl, rfl⟩, ?_⟩ ?_
    · simp only [hvm_t, hvm_f, hvm_nil, puts_cons, puts_nil, List.set_cons_zero, List.set_cons_succ, num]
      repeat first | exact Wk.nil | refine Wk.same ?_ | refine wk_any ?_ | refine wk_boxe (Wk.same (wk_nilown (Wk.same (Wk.same Wk.nil)))) ?_
    · rintro m xs ⟨i, hi, rfl⟩
      simp only [hvm_t, hvm_f, hvm_nil, puts_cons, puts_nil, List.set_cons_zero, List.set_cons_succ, num]
      simp only [go_sem, Nat.reduceAdd, Nat.reduceSub, Nat.reduceMul, Nat.reduceLeDiff, ne_eq, Nat.reduceEqDiff, not_false_eq_true, Bool.and_true, Bool.true_and, Nat.succ_ne_self, and_true, Bool.not_true, Bool.not_false, Int.toNat_zero, Int.reduceToNat, Nat.mul_one, Int.toNat_one]
      refine asq_dmk (fun g1 => ?_) (fun g1 => ?_)
      · have hw2 : IntKind.i64.wrap ((i : Int) + 1 + 1) = ((i + 1 : Nat) : Int) + 1 := by rw [wrap_in (by omega) (by omega)]; omega
        have hlen : ((ids.take i).filter (inAny a.a b.a)).length ≤ i := Nat.le_trans (List.length_filter_le ..) (by simp; omega)
        repeat' first | with_reducible refine asq_dmk (fun _ => ?_) (fun _ => ?_) | with_reducible refine asq_ndmk (fun _ => ?_) (fun _ => ?_) | with_reducible refine asq_nmk (fun _ => ?_) (fun _ => ?_) | with_reducible refine asq_mk (fun _ => ?_) (fun _ => ?_) | with_reducible refine asp_dmk (fun _ => ?_) (fun _ => ?_) | with_reducible refine asp_ndmk (fun _ => ?_) (fun _ => ?_) | with_reducible refine asp_nmk (fun _ => ?_) (fun _ => ?_) | with_reducible refine asp_mk (fun _ => ?_) (fun _ => ?_) | with_reducible refine And.intro (by first | omega | rfl | decide) ?_ | simp only [go_sem, Nat.reduceAdd, Nat.reduceSub, Nat.reduceMul, Nat.reduceLeDiff, ne_eq, Nat.reduceEqDiff, not_false_eq_true, Bool.and_true, Bool.true_and, Nat.succ_ne_self, and_true, Bool.not_true, Bool.not_false, Int.toNat_zero, Int.reduceToNat, Nat.mul_one, Int.toNat_one]
        refine (has31 a.a ((i : Int) + 1) hla).mono ?_
        rintro r rfl
        simp only [tru]
        repeat' first | with_reducible refine asq_dmk (fun _ => ?_) (fun _ => ?_) | with_reducible refine asq_ndmk (fun _ => ?_) (fun _ => ?_) | with_reducible refine asq_nmk (fun _ => ?_) (fun _ => ?_) | with_reducible refine asq_mk (fun _ => ?_) (fun _ => ?_) | with_reducible refine asp_dmk (fun _ => ?_) (fun _ => ?_) | with_reducible refine asp_ndmk (fun _ => ?_) (fun _ => ?_) | with_reducible refine asp_nmk (fun _ => ?_) (fun _ => ?_) | with_reducible refine asp_mk (fun _ => ?_) (fun _ => ?_) | with_reducible refine And.intro (by first | omega | rfl | decide) ?_ | simp only [go_sem, Nat.reduceAdd, Nat.reduceSub, Nat.reduceMul, Nat.reduceLeDiff, ne_eq, Nat.reduceEqDiff, not_false_eq_true, Bool.and_true, Bool.true_and, Nat.succ_ne_self, and_true, Bool.not_true, Bool.not_false, Int.toNat_zero, Int.reduceToNat, Nat.mul_one, Int.toNat_one]
        refine (has31 b.a ((i : Int) + 1) hlb).mono ?_
        rintro r rfl
        simp only [tru]
        repeat' first | with_reducible refine asq_dmk (fun _ => ?_) (fun _ => ?_) | with_reducible refine asq_ndmk (fun _ => ?_) (fun _ => ?_) | with_reducible refine asq_nmk (fun _ => ?_) (fun _ => ?_) | with_reducible refine asq_mk (fun _ => ?_) (fun _ => ?_) | with_reducible refine asp_dmk (fun _ => ?_) (fun _ => ?_) | with_reducible refine asp_ndmk (fun _ => ?_) (fun _ => ?_) | with_reducible refine asp_nmk (fun _ => ?_) (fun _ => ?_) | with_reducible refine asp_mk (fun _ => ?_) (fun _ => ?_) | with_reducible refine And.intro (by first | omega | rfl | decide) ?_ | simp only [go_sem, Nat.reduceAdd, Nat.reduceSub, Nat.reduceMul, Nat.reduceLeDiff, ne_eq, Nat.reduceEqDiff, not_false_eq_true, Bool.and_true, Bool.true_and, Nat.succ_ne_self, and_true, Bool.not_true, Bool.not_false, Int.toNat_zero, Int.reduceToNat, Nat.mul_one, Int.toNat_one, hw2]
        · have hin : inAny a.a b.a ((i : Int) + 1) = true := by simp_all [inAny]
          refine ⟨rfl, by decide, by omega, by omega, ?_⟩
          refine lend_mk (m - 1) [.box 26 [num (a.u), .own 3 1 (nums ((ids.take (i + 1)).filter (inAny a.a b.a))), num (a.n), num a.d], num (((i + 1 : Nat) : Int) + 1)] (by omega) ⟨i + 1, by omega, rfl⟩ ?_
          rw [ids_filter_succ (by omega), hin, if_pos rfl, ← nums_app]
          simp only [hvm_t, hvm_f, hvm_nil, puts_cons, puts_nil, List.set_cons_zero, List.set_cons_succ, num]
          repeat first | exact Wk.nil | refine Wk.same ?_ | refine wk_any ?_
        · have hin : inAny a.a b.a ((i : Int) + 1) = true := by simp_all [inAny]
          refine ⟨rfl, by decide, by omega, by omega, ?_⟩
          refine lend_mk (m - 1) [.box 26 [num (a.u), .own 3 1 (nums ((ids.take (i + 1)).filter (inAny a.a b.a))), num (a.n), num a.d], num (((i + 1 : Nat) : Int) + 1)] (by omega) ⟨i + 1, by omega, rfl⟩ ?_
          rw [ids_filter_succ (by omega), hin, if_pos rfl, ← nums_app]
          simp only [hvm_t, hvm_f, hvm_nil, puts_cons, puts_nil, List.set_cons_zero, List.set_cons_succ, num]
          repeat first | exact Wk.nil | refine Wk.same ?_ | refine wk_any ?_
        · have hin : inAny a.a b.a ((i : Int) + 1) = false := by simp_all [inAny]
          refine lend_mk (m - 1) [.box 26 [num (a.u), .own 3 1 (nums ((ids.take (i + 1)).filter (inAny a.a b.a))), num (a.n), num a.d], num (((i + 1 : Nat) : Int) + 1)] (by omega) ⟨i + 1, by omega, rfl⟩ ?_
          rw [ids_filter_succ (by omega), hin, if_neg (by decide), List.append_nil]
          simp only [hvm_t, hvm_f, hvm_nil, puts_cons, puts_nil, List.set_cons_zero, List.set_cons_succ, num]
          repeat first | exact Wk.nil | refine Wk.same ?_ | refine wk_any ?_
      · have : i = 64 := by omega
        subst this
        have e : ids.take 64 = ids := List.take_of_length_le (by simp [ids])
        rw [e]
        repeat' first | with_reducible refine asq_dmk (fun _ => ?_) (fun _ => ?_) | with_reducible refine asq_ndmk (fun _ => ?_) (fun _ => ?_) | with_reducible refine asq_nmk (fun _ => ?_) (fun _ => ?_) | with_reducible refine asq_mk (fun _ => ?_) (fun _ => ?_) | with_reducible refine asp_dmk (fun _ => ?_) (fun _ => ?_) | with_reducible refine asp_ndmk (fun _ => ?_) (fun _ => ?_) | with_reducible refine asp_nmk (fun _ => ?_) (fun _ => ?_) | with_reducible refine asp_mk (fun _ => ?_) (fun _ => ?_) | with_reducible refine And.intro (by first | omega | rfl | decide) ?_ | simp only [go_sem, Nat.reduceAdd, Nat.reduceSub, Nat.reduceMul, Nat.reduceLeDiff, ne_eq, Nat.reduceEqDiff, not_false_eq_true, Bool.and_true, Bool.true_and, Nat.succ_ne_self, and_true, Bool.not_true, Bool.not_false, Int.toNat_zero, Int.reduceToNat, Nat.mul_one, Int.toNat_one]
        refine cwp_loop [false, false, false, false, false, false, false, true, false, false, false, true, true, true, true, false, false, false, false, false, false, false, false, false, false, false, false, false, false, false, false, false, false, false, false, false, false, false, false, false, false, false, false, false, false, false, false, false, false, false, false, false, false, false, false, false, false, false, false, false, false, false, false, false, false, false, true, true, true, true, true, true, true, true, true, true, true, true, true, true, true, true, true, true, true, true, true, true, true, true, false] [7, 11, 12] (fun n xs => ∃ i : Nat, i + n = 4 ∧ xs = [.box 26 [num (a.u), .own 3 1 (nums (ids.filter (inAny a.a b.a))), num (a.n), num (orA a.d b.d i)], num (2 ^ i), num (i : Int)]) ⟨4, _, ⟨0, rfl, rfl⟩, ?_⟩ ?_
        · simp only [hvm_t, hvm_f, hvm_nil, puts_cons, puts_nil, List.set_cons_zero, List.set_cons_succ, num]
          repeat first | exact Wk.nil | refine Wk.same ?_ | refine wk_any ?_
        · rintro m xs ⟨i, hi, rfl⟩
          simp only [hvm_t, hvm_f, hvm_nil, puts_cons, puts_nil, List.set_cons_zero, List.set_cons_succ, num]
          simp only [go_sem, Nat.reduceAdd, Nat.reduceSub, Nat.reduceMul, Nat.reduceLeDiff, ne_eq, Nat.reduceEqDiff, not_false_eq_true, Bool.and_true, Bool.true_and, Nat.succ_ne_self, and_true, Bool.not_true, Bool.not_false, Int.toNat_zero, Int.reduceToNat, Nat.mul_one, Int.toNat_one]
          refine asq_dmk (fun g2 => ?_) (fun g2 => ?_)
          · have hi4 : i < 4 := by omega
            have hw : IntKind.i64.wrap ((i : Int) + 1) = ((i + 1 : Nat) : Int) := wrap_succ (by omega)
            have hp := pow_le hi4
            have ho := orA_lt a.d b.d i
            have hw3 : IntKind.i64.wrap (2 ^ i * 2) = (2 : Int) ^ (i + 1) := by rw [wrap_in (by omega) (by omega), Int.pow_succ]
            have hw4 : IntKind.i64.wrap (orA a.d b.d i + 2 ^ i) = orA a.d b.d i + 2 ^ i := wrap_in (by omega) (by omega)
            repeat' first | with_reducible refine asq_dmk (fun _ => ?_) (fun _ => ?_) | with_reducible refine asq_ndmk (fun _ => ?_) (fun _ => ?_) | with_reducible refine asq_nmk (fun _ => ?_) (fun _ => ?_) | with_reducible refine asq_mk (fun _ => ?_) (fun _ => ?_) | with_reducible refine asp_dmk (fun _ => ?_) (fun _ => ?_) | with_reducible refine asp_ndmk (fun _ => ?_) (fun _ => ?_) | with_reducible refine asp_nmk (fun _ => ?_) (fun _ => ?_) | with_reducible refine asp_mk (fun _ => ?_) (fun _ => ?_) | with_reducible refine And.intro (by first | omega | rfl | decide) ?_ | simp only [go_sem, Nat.reduceAdd, Nat.reduceSub, Nat.reduceMul, Nat.reduceLeDiff, ne_eq, Nat.reduceEqDiff, not_false_eq_true, Bool.and_true, Bool.true_and, Nat.succ_ne_self, and_true, Bool.not_true, Bool.not_false, Int.toNat_zero, Int.reduceToNat, Nat.mul_one, Int.toNat_one]
            refine (bit32 a.d i (okL_d k1).1 (by have := okL_d k1; omega) (by omega)).mono ?_
            rintro r rfl
            simp only [tru]
            repeat' first | with_reducible refine asq_dmk (fun _ => ?_) (fun _ => ?_) | with_reducible refine asq_ndmk (fun _ => ?_) (fun _ => ?_) | with_reducible refine asq_nmk (fun _ => ?_) (fun _ => ?_) | with_reducible refine asq_mk (fun _ => ?_) (fun _ => ?_) | with_reducible refine asp_dmk (fun _ => ?_) (fun _ => ?_) | with_reducible refine asp_ndmk (fun _ => ?_) (fun _ => ?_) | with_reducible refine asp_nmk (fun _ => ?_) (fun _ => ?_) | with_reducible refine asp_mk (fun _ => ?_) (fun _ => ?_) | with_reducible refine And.intro (by first | omega | rfl | decide) ?_ | simp only [go_sem, Nat.reduceAdd, Nat.reduceSub, Nat.reduceMul, Nat.reduceLeDiff, ne_eq, Nat.reduceEqDiff, not_false_eq_true, Bool.and_true, Bool.true_and, Nat.succ_ne_self, and_true, Bool.not_true, Bool.not_false, Int.toNat_zero, Int.reduceToNat, Nat.mul_one, Int.toNat_one]
            refine (bit32 b.d i (okL_d k2).1 (by have := okL_d k2; omega) (by omega)).mono ?_
            rintro r rfl
            simp only [tru]
            repeat' first | with_reducible refine asq_dmk (fun _ => ?_) (fun _ => ?_) | with_reducible refine asq_ndmk (fun _ => ?_) (fun _ => ?_) | with_reducible refine asq_nmk (fun _ => ?_) (fun _ => ?_) | with_reducible refine asq_mk (fun _ => ?_) (fun _ => ?_) | with_reducible refine asp_dmk (fun _ => ?_) (fun _ => ?_) | with_reducible refine asp_ndmk (fun _ => ?_) (fun _ => ?_) | with_reducible refine asp_nmk (fun _ => ?_) (fun _ => ?_) | with_reducible refine asp_mk (fun _ => ?_) (fun _ => ?_) | with_reducible refine And.intro (by first | omega | rfl | decide) ?_ | simp only [go_sem, Nat.reduceAdd, Nat.reduceSub, Nat.reduceMul, Nat.reduceLeDiff, ne_eq, Nat.reduceEqDiff, not_false_eq_true, Bool.and_true, Bool.true_and, Nat.succ_ne_self, and_true, Bool.not_true, Bool.not_false, Int.toNat_zero, Int.reduceToNat, Nat.mul_one, Int.toNat_one, hw, hw3, hw4]
            · have hb : (bitL a.d i || bitL b.d i) = true := by simp_all [bitL]
              refine lend_mk (m - 1) [.box 26 [num (a.u), .own 3 1 (nums (ids.filter (inAny a.a b.a))), num (a.n), num (orA a.d b.d (i + 1))], num (2 ^ (i + 1)), num ((i + 1 : Nat) : Int)] (by omega) ⟨i + 1, by omega, rfl⟩ ?_
              rw [orA, hb]
              simp only [if_true, Bool.false_eq_true, if_false, Int.add_zero]
              simp only [hvm_t, hvm_f, hvm_nil, puts_cons, puts_nil, List.set_cons_zero, List.set_cons_succ, num]
              repeat first | exact Wk.nil | refine Wk.same ?_ | refine wk_any ?_
            · have hb : (bitL a.d i || bitL b.d i) = true := by simp_all [bitL]
              refine lend_mk (m - 1) [.box 26 [num (a.u), .own 3 1 (nums (ids.filter (inAny a.a b.a))), num (a.n), num (orA a.d b.d (i + 1))], num (2 ^ (i + 1)), num ((i + 1 : Nat) : Int)] (by omega) ⟨i + 1, by omega, rfl⟩ ?_
              rw [orA, hb]
              simp only [if_true, Bool.false_eq_true, if_false, Int.add_zero]
              simp only [hvm_t, hvm_f, hvm_nil, puts_cons, puts_nil, List.set_cons_zero, List.set_cons_succ, num]
              repeat first | exact Wk.nil | refine Wk.same ?_ | refine wk_any ?_
            · have hb : (bitL a.d i || bitL b.d i) = false := by simp_all [bitL]
              refine lend_mk (m - 1) [.box 26 [num (a.u), .own 3 1 (nums (ids.filter (inAny a.a b.a))), num (a.n), num (orA a.d b.d (i + 1))], num (2 ^ (i + 1)), num ((i + 1 : Nat) : Int)] (by omega) ⟨i + 1, by omega, rfl⟩ ?_
              rw [orA, hb]
              simp only [if_true, Bool.false_eq_true, if_false, Int.add_zero]
              simp only [hvm_t, hvm_f, hvm_nil, puts_cons, puts_nil, List.set_cons_zero, List.set_cons_succ, num]
              repeat first | exact Wk.nil | refine Wk.same ?_ | refine wk_any ?_
          · have : i = 4 := by omega
            subst this
            repeat' first | with_reducible refine asq_dmk (fun _ => ?_) (fun _ => ?_) | with_reducible refine asq_ndmk (fun _ => ?_) (fun _ => ?_) | with_reducible refine asq_nmk (fun _ => ?_) (fun _ => ?_) | with_reducible refine asq_mk (fun _ => ?_) (fun _ => ?_) | with_reducible refine asp_dmk (fun _ => ?_) (fun _ => ?_) | with_reducible refine asp_ndmk (fun _ => ?_) (fun _ => ?_) | with_reducible refine asp_nmk (fun _ => ?_) (fun _ => ?_) | with_reducible refine asp_mk (fun _ => ?_) (fun _ => ?_) | with_reducible refine And.intro (by first | omega | rfl | decide) ?_ | simp only [go_sem, Nat.reduceAdd, Nat.reduceSub, Nat.reduceMul, Nat.reduceLeDiff, ne_eq, Nat.reduceEqDiff, not_false_eq_true, Bool.and_true, Bool.true_and, Nat.succ_ne_self, and_true, Bool.not_true, Bool.not_false, Int.toNat_zero, Int.reduceToNat, Nat.mul_one, Int.toNat_one]
            have hu : max a.u b.u = a.u := by omega
            have hn : max a.n b.n = a.n := by omega
            simp only [orA_4, k1, k2, Bool.and_self, cond_true, labO, joinL, if_true, num, joinA, hu, hn]
theorem refjoin23' (a b : Lb) (hla : a.a.length ≤ 1000000) (hlb : b.a.length ≤ 1000000) : ACalls Try.prog 23 [lab a, lab b] (fun r => r = labO (joinL a b)) := by
  refine (refjoin23 a b hla hlb).wkr ?_
  rintro r rfl
  cases h : okL a && okL b with
  | true => exact ⟨_, W1.refl _, rfl, rfl⟩
  | false => exact ⟨_, W1.zeroR, rfl, by simp only [joinL, h, Bool.false_eq_true, if_false]⟩
end Go.Proofs.Ytohelofjlkoboaa
