import Derived.Test.YtohelofjlkoboaaT
import Derived.Test.YtohelofjlkoboaaA10
import Derived.Test.YtohelofjlkoboaaC1
namespace Go.Proofs.Ytohelofjlkoboaa
open Go.RowKit Go.Proofs
set_option linter.unusedSimpArgs false
set_option linter.unusedVariables false
set_option maxRecDepth 100000

def bnd (b : Int × Int × Int) : AV := .agg [num b.1, num b.2.1, num b.2.2]
theorem within28 (bs : List (Int × Int × Int)) (hl : bs.length ≤ 1000000) : ACalls Try.prog 28 [.sl 3 (bs.map bnd)] (fun r => r = .raw (.bool (bs.all fun b => decide (b.2.1 ≤ b.1) && decide (b.1 ≤ b.2.2)))) := by
  refine calls_short [] ttok hmix Try.func28 (by decide) (by decide +kernel) (by simp only [Try.f28, Option.bind_some, comp, isLend, lendOf, lendX, lendC, lendH, Nat.reduceLeDiff, Nat.reduceSub, ne_eq, not_false_eq_true, and_self, cops, cguard, gslot, List.getElem?_toArray, List.getElem?_cons_succ, List.getElem?_cons_zero, vlook, tlook, cutAt_nil, cutAt, firstReg, isCut, mkSeq, Nat.reduceAdd, Nat.reduceEqDiff, reduceIte]; rfl) Try.ntmps28 Try.results28 ⟨_, rfl⟩ rfl ?_
  simp only [List.length_cons, List.length_nil, Nat.reduceAdd, Nat.reduceSub, List.replicate_succ, List.replicate_zero, List.cons_append, List.nil_append, num, str, tru]
  simp only [go_sem, tt47, tt53, tt3, ti47, ti53, ti3, if_true, if_false, Bool.false_eq_true, true_and, Option.isSome_some]
  refine cwp_loop [false, false, false, false, true, false, false, true, true, true, true, true, true, true, true, true, true, true, true, true, true, true, true, true] [7] (fun n xs => ∃ i, i + n = bs.length ∧ xs = [num i] ∧ (bs.take i).all (fun b => decide (b.2.1 ≤ b.1) && decide (b.1 ≤ b.2.2)) = true) ⟨_, _, ⟨0, by simp; rfl, rfl, rfl⟩, ?_⟩ ?_
  · simp only [hvm_t, hvm_f, hvm_nil, puts_cons, puts_nil, List.set_cons_zero, List.set_cons_succ, num]
    exact Wk.refl _
  · rintro n xs ⟨i, hi, rfl, hall⟩
    simp only [hvm_t, hvm_f, hvm_nil, puts_cons, puts_nil, List.set_cons_zero, List.set_cons_succ, num]
    simp only [go_sem, tt47, tt53, tt3, ti47, ti53, ti3, if_true, if_false, Bool.false_eq_true, true_and, Option.isSome_some]
    refine asq_mk (fun h => ?_) (fun h => ?_)
    · have hlt : i < bs.length := by simpa using h
      have hget : (List.map bnd bs).getD i .any = .agg [.raw (.int .i64 (bs[i]'hlt).1), .raw (.int .i64 (bs[i]'hlt).2.1), .raw (.int .i64 (bs[i]'hlt).2.2)] := by
        simp [List.getD_eq_getElem?_getD, hlt, bnd, num]
      simp only [go_sem, hget, tt47, tt53, tt3, ti47, ti53, ti3, if_true, if_false, Bool.false_eq_true, true_and, Option.isSome_some, List.take_zero, List.drop, List.map_cons, List.map_nil, List.append_nil, List.nil_append, List.getElem?_cons_zero, List.getElem?_cons_succ, List.length_cons, List.length_nil, List.take_succ_cons, List.headD_cons, List.drop_succ_cons, List.drop_zero, List.all_cons, List.all_nil, List.cons_append, allOne, Value.oneCell', Nat.reduceAdd, Nat.reduceLeDiff, ne_eq, Nat.reduceEqDiff, not_false_eq_true, Bool.and_true, Bool.true_and, Int.toNat_natCast, hlt, Nat.succ_ne_self]
      refine ⟨by omega, asp_mk (fun h1 => ?_) (fun h1 => ?_)⟩
      · simp only [go_sem, hget, tt47, tt53, tt3, ti47, ti53, ti3, if_true, if_false, Bool.false_eq_true, true_and, Option.isSome_some, List.take_zero, List.drop, List.map_cons, List.map_nil, List.append_nil, List.nil_append, List.getElem?_cons_zero, List.getElem?_cons_succ, List.length_cons, List.length_nil, List.take_succ_cons, List.headD_cons, List.drop_succ_cons, List.drop_zero, List.all_cons, List.all_nil, List.cons_append, allOne, Value.oneCell', Nat.reduceAdd, Nat.reduceLeDiff, ne_eq, Nat.reduceEqDiff, not_false_eq_true, Bool.and_true, Bool.true_and, Int.toNat_natCast, hlt, Nat.succ_ne_self]
        have : (bs.all fun b => decide (b.2.1 ≤ b.1) && decide (b.1 ≤ b.2.2)) = false := by
          rw [List.all_eq_false]
          exact ⟨bs[i], List.getElem_mem hlt, by simp at h1 ⊢; omega⟩
        rw [this]
      · simp only [go_sem, hget, tt47, tt53, tt3, ti47, ti53, ti3, if_true, if_false, Bool.false_eq_true, true_and, Option.isSome_some, List.take_zero, List.drop, List.map_cons, List.map_nil, List.append_nil, List.nil_append, List.getElem?_cons_zero, List.getElem?_cons_succ, List.length_cons, List.length_nil, List.take_succ_cons, List.headD_cons, List.drop_succ_cons, List.drop_zero, List.all_cons, List.all_nil, List.cons_append, allOne, Value.oneCell', Nat.reduceAdd, Nat.reduceLeDiff, ne_eq, Nat.reduceEqDiff, not_false_eq_true, Bool.and_true, Bool.true_and, Int.toNat_natCast, hlt, Nat.succ_ne_self]
        refine asq_mk (fun h2 => ?_) (fun h2 => ?_)
        · simp only [go_sem, hget, tt47, tt53, tt3, ti47, ti53, ti3, if_true, if_false, Bool.false_eq_true, true_and, Option.isSome_some, List.take_zero, List.drop, List.map_cons, List.map_nil, List.append_nil, List.nil_append, List.getElem?_cons_zero, List.getElem?_cons_succ, List.length_cons, List.length_nil, List.take_succ_cons, List.headD_cons, List.drop_succ_cons, List.drop_zero, List.all_cons, List.all_nil, List.cons_append, allOne, Value.oneCell', Nat.reduceAdd, Nat.reduceLeDiff, ne_eq, Nat.reduceEqDiff, not_false_eq_true, Bool.and_true, Bool.true_and, Int.toNat_natCast, hlt, Nat.succ_ne_self]
          have : (bs.all fun b => decide (b.2.1 ≤ b.1) && decide (b.1 ≤ b.2.2)) = false := by
            rw [List.all_eq_false]
            exact ⟨bs[i], List.getElem_mem hlt, by simp at h2 ⊢; omega⟩
          rw [this]
        · simp only [go_sem, hget, tt47, tt53, tt3, ti47, ti53, ti3, if_true, if_false, Bool.false_eq_true, true_and, Option.isSome_some, List.take_zero, List.drop, List.map_cons, List.map_nil, List.append_nil, List.nil_append, List.getElem?_cons_zero, List.getElem?_cons_succ, List.length_cons, List.length_nil, List.take_succ_cons, List.headD_cons, List.drop_succ_cons, List.drop_zero, List.all_cons, List.all_nil, List.cons_append, allOne, Value.oneCell', Nat.reduceAdd, Nat.reduceLeDiff, ne_eq, Nat.reduceEqDiff, not_false_eq_true, Bool.and_true, Bool.true_and, Int.toNat_natCast, hlt, Nat.succ_ne_self]
          have hw : IntKind.i64.wrap ((i : Int) + 1) = ((i + 1 : Nat) : Int) := by rw [IntKind.wrap_i64]; omega
          simp only [hw]
          refine lend_mk (n - 1) _ (by omega) ⟨i + 1, by omega, rfl, ?_⟩ ?_
          · simp only [List.take_add_one, List.all_append, hall, List.getElem?_eq_getElem hlt, Option.toList, List.all_cons, List.all_nil]
            simp at h1 h2
            simp [h1, h2]
          · simp only [hvm_t, hvm_f, hvm_nil, puts_cons, puts_nil, List.set_cons_zero, List.set_cons_succ]
            repeat first
              | exact Wk.nil
              | refine Wk.same ?_
              | refine wk_any ?_
    · simp only [go_sem, tt47, tt53, tt3, ti47, ti53, ti3, if_true, if_false, Bool.false_eq_true, true_and, Option.isSome_some, List.take_zero, List.drop, List.map_cons, List.map_nil, List.append_nil, List.nil_append, List.getElem?_cons_zero, List.getElem?_cons_succ, List.length_cons, List.length_nil, List.take_succ_cons, List.headD_cons, List.drop_succ_cons, List.drop_zero, List.all_cons, List.all_nil, List.cons_append, allOne, Value.oneCell', Nat.reduceAdd, Nat.reduceLeDiff, ne_eq, Nat.reduceEqDiff, not_false_eq_true, Bool.and_true, Bool.true_and, Int.toNat_natCast, Nat.succ_ne_self]
      have hil : i = bs.length := by simp at h; omega
      subst hil
      rw [List.take_length] at hall
      rw [hall]
end Go.Proofs.Ytohelofjlkoboaa
