/- The reference: a tag. -/
import Derived.Test.YtibdijaacolhkaaT
import Derived.Test.YtibdijaacolhkaaA10
import Derived.Test.YtibdijaacolhkaaX8
namespace Go.Proofs.Ytibdijaacolhkaa
open Go.RowKit Go.Proofs
set_option linter.unusedSimpArgs false
set_option linter.unusedVariables false
set_option maxRecDepth 100000
set_option maxHeartbeats 4000000
def tagF : Nat → List UInt8 → Nat → Nat → List Tk × Nat × Bool
  | 0, _, _, g => ([], g, true)
  | _ + 1, [], _, g => ([], g, true)
  | f + 1, c :: r, j, g => if wsp c then tagF f r (j + 1) g
    else match partL (c :: r) with
      | none => ([], j, true)
      | some (k, t, n) => if k = 7 then ([⟨k, t, j⟩], j + n, false) else (⟨k, t, j⟩ :: (tagF f ((c :: r).drop n) (j + n) g).1, (tagF f ((c :: r).drop n) (j + n) g).2)
def tagR (pre : List Tk) (x : List Tk × Nat × Bool) : AV := if x.2.2 then .tup [.nil, num (x.2.1 : Nat), tru true] else .tup [.own 34 3 ((pre ++ x.1).map tk), num (x.2.1 : Nat), tru false]
theorem tag19 (s : List UInt8) (i : Nat) (pre : List Tk) (hi : i < s.length) (hs : s.length ≤ 1000000) (hpl : pre.length ≤ 1000000) : ACalls Try.prog 19 [str s, num i, tl pre] (fun r => r = tagR (pre ++ [⟨6, [123], i⟩]) (tagF (s.length - i) (s.drop (i + 1)) (i + 1) i)) := by
  refine calls_short [] ttok hmix Try.func19 (by decide) (by decide +kernel) (by simp only [Try.f19, Option.bind_some, comp, isLend, lendOf, lendX, lendC, lendH, Nat.reduceLeDiff, Nat.reduceSub, ne_eq, not_false_eq_true, and_self, cops, cguard, gslot, List.getElem?_toArray, List.getElem?_cons_succ, List.getElem?_cons_zero, vlook, tlook, cutAt_nil, cutAt, firstReg, isCut, mkSeq, Nat.reduceAdd, Nat.reduceEqDiff, reduceIte]; rfl) Try.ntmps19 Try.results19 ⟨_, rfl⟩ (by cases pre <;> rfl) ?_
  simp only [List.length_cons, List.length_nil, Nat.reduceAdd, Nat.reduceSub, List.replicate_succ, List.replicate_zero, List.cons_append, List.nil_append, num, str, tru]
  have hw0 : IntKind.i64.wrap ((i : Int) + 1) = ((i + 1 : Nat) : Int) := wrap_succ (by omega)
  obtain ⟨P, hP⟩ : ∃ P, pre ++ [(⟨6, [123], i⟩ : Tk)] = P := ⟨_, rfl⟩
  have hP2 : P.map tk = pre.map tk ++ [.agg [.raw (.int .i64 6), .raw (.string ⟨#[123]⟩), .raw (.int .i64 (i : Int))]] := by rw [← hP, List.map_append]; rfl
  have hPl : P.length ≤ 1000001 := by rw [← hP]; simp; omega
  rw [hP]
  rcases pre with _ | ⟨p0, pr⟩ <;> simp only [tl_nil, tl_cons]
  all_goals simp only [List.map_nil, List.nil_append, List.map_cons, List.cons_append] at hP2
  all_goals try simp only [List.length_cons] at hpl
  all_goals repeat' first | with_reducible refine asq_dmk (fun _ => ?_) (fun _ => ?_) | with_reducible refine asq_ndmk (fun _ => ?_) (fun _ => ?_) | with_reducible refine asq_nmk (fun _ => ?_) (fun _ => ?_) | with_reducible refine asq_mk (fun _ => ?_) (fun _ => ?_) | with_reducible refine asp_dmk (fun _ => ?_) (fun _ => ?_) | with_reducible refine asp_ndmk (fun _ => ?_) (fun _ => ?_) | with_reducible refine asp_nmk (fun _ => ?_) (fun _ => ?_) | with_reducible refine asp_mk (fun _ => ?_) (fun _ => ?_) | with_reducible refine And.intro (by first | omega | rfl | decide | with_unfolding_all rfl) ?_ | simp only [go_sem, Nat.reduceLT, Nat.reduceAdd, Nat.reduceSub, Nat.reduceMul, Nat.reduceLeDiff, ne_eq, Nat.reduceEqDiff, not_false_eq_true, Bool.and_true, Bool.true_and, Nat.succ_ne_self, and_true, Bool.not_true, Bool.not_false, Int.toNat_zero, Int.reduceToNat, Nat.mul_one, Int.toNat_one, hw0, List.length_map, List.cons_append, List.nil_append, List.length_cons]
  all_goals refine cwp_loop [false, false, false, false, false, false, false, false, false, true, true, true, true, true, true, true, true, true, true, true, true, true, true, true, true, true, true, true, true, true, true, true, true, true, true, true, true, true, true, true, true, true, true, true, true, true, true, true, true, true, true, true, true, true, true, false] [9, 10] (fun n xs => ∃ (j : Nat) (mid : List Tk), i + 1 ≤ j ∧ j ≤ s.length ∧ s.length - j < n ∧ mid.length ≤ j ∧ xs = [.own 34 3 ((P ++ mid).map tk), num j] ∧ tagF (s.length - i) (s.drop (i + 1)) (i + 1) i = (mid ++ (tagF n (s.drop j) j i).1, (tagF n (s.drop j) j i).2)) ⟨s.length - i, _, ⟨i + 1, [], by omega, by omega, by omega, by simp, rfl, by simp⟩, ?_⟩ ?_
  · simp only [hvm_t, hvm_f, hvm_nil, puts_cons, puts_nil, List.set_cons_zero, List.set_cons_succ, num]
    simp only [List.append_nil, hP2]
    repeat first | exact Wk.nil | refine Wk.same ?_ | refine wk_any ?_
  rotate_left
  · simp only [hvm_t, hvm_f, hvm_nil, puts_cons, puts_nil, List.set_cons_zero, List.set_cons_succ, num]
    simp only [List.append_nil, hP2]
    repeat first | exact Wk.nil | refine Wk.same ?_ | refine wk_any ?_
  all_goals (
    rintro n xs ⟨j, mid, hij, hjl, hn, hml, rfl, he⟩
    obtain ⟨m, rfl⟩ : ∃ m, n = m + 1 := ⟨n - 1, by omega⟩
    simp only [hvm_t, hvm_f, hvm_nil, puts_cons, puts_nil, List.set_cons_zero, List.set_cons_succ, num]
    simp only [go_sem, Nat.reduceLT, Nat.reduceAdd, Nat.reduceSub, Nat.reduceMul, Nat.reduceLeDiff, ne_eq, Nat.reduceEqDiff, not_false_eq_true, Bool.and_true, Bool.true_and, Nat.succ_ne_self, and_true, Bool.not_true, Bool.not_false, Int.toNat_zero, Int.reduceToNat, Nat.mul_one, Int.toNat_one]
    have hlen : ((P ++ mid).map tk).length = P.length + mid.length := by simp
    rcases Nat.lt_or_ge j s.length with hlt | hge
    · have ej := eq_true (show (j : Int) < (s.length : Int) by omega)
      obtain ⟨c, hc0, hd⟩ := drop_cons hlt
      have hw : IntKind.i64.wrap ((j : Int) + 1) = ((j + 1 : Nat) : Int) := wrap_succ (by omega)
      by_cases h32 : ((c.toNat : Nat) : Int) = 32
      · have e32 := eq_true h32
        repeat' first | with_reducible refine asq_dmk (fun _ => ?_) (fun _ => ?_) | with_reducible refine asq_ndmk (fun _ => ?_) (fun _ => ?_) | with_reducible refine asq_nmk (fun _ => ?_) (fun _ => ?_) | with_reducible refine asq_mk (fun _ => ?_) (fun _ => ?_) | with_reducible refine asp_dmk (fun _ => ?_) (fun _ => ?_) | with_reducible refine asp_ndmk (fun _ => ?_) (fun _ => ?_) | with_reducible refine asp_nmk (fun _ => ?_) (fun _ => ?_) | with_reducible refine asp_mk (fun _ => ?_) (fun _ => ?_) | with_reducible refine And.intro (by first | omega | rfl | decide | with_unfolding_all rfl) ?_ | simp only [go_sem, Nat.reduceLT, Nat.reduceAdd, Nat.reduceSub, Nat.reduceMul, Nat.reduceLeDiff, ne_eq, Nat.reduceEqDiff, not_false_eq_true, Bool.and_true, Bool.true_and, Nat.succ_ne_self, and_true, Bool.not_true, Bool.not_false, Int.toNat_zero, Int.reduceToNat, Nat.mul_one, Int.toNat_one, hc0, hw, ej, e32, decide_true, decide_false]
        all_goals try (exfalso; omega)
        all_goals try (exfalso; contradiction)
        have hwp : wsp c = true := by simp only [wsp, h32, decide_true, Bool.true_or]
        refine lend_mk m _ (by omega) ⟨j + 1, mid, by omega, by omega, by omega, by omega, rfl, ?_⟩ ?_
        · rw [he, hd]; simp only [tagF, hwp, if_true]
        · simp only [hvm_t, hvm_f, hvm_nil, puts_cons, puts_nil, List.set_cons_zero, List.set_cons_succ, num]
          repeat first | exact Wk.nil | refine Wk.same ?_ | refine wk_any ?_
      · have e32 := eq_false h32
        by_cases h10 : ((c.toNat : Nat) : Int) = 10
        · have e10 := eq_true h10
          repeat' first | with_reducible refine asq_dmk (fun _ => ?_) (fun _ => ?_) | with_reducible refine asq_ndmk (fun _ => ?_) (fun _ => ?_) | with_reducible refine asq_nmk (fun _ => ?_) (fun _ => ?_) | with_reducible refine asq_mk (fun _ => ?_) (fun _ => ?_) | with_reducible refine asp_dmk (fun _ => ?_) (fun _ => ?_) | with_reducible refine asp_ndmk (fun _ => ?_) (fun _ => ?_) | with_reducible refine asp_nmk (fun _ => ?_) (fun _ => ?_) | with_reducible refine asp_mk (fun _ => ?_) (fun _ => ?_) | with_reducible refine And.intro (by first | omega | rfl | decide | with_unfolding_all rfl) ?_ | simp only [go_sem, Nat.reduceLT, Nat.reduceAdd, Nat.reduceSub, Nat.reduceMul, Nat.reduceLeDiff, ne_eq, Nat.reduceEqDiff, not_false_eq_true, Bool.and_true, Bool.true_and, Nat.succ_ne_self, and_true, Bool.not_true, Bool.not_false, Int.toNat_zero, Int.reduceToNat, Nat.mul_one, Int.toNat_one, hc0, hw, ej, e32, e10, decide_true, decide_false]
          all_goals try (exfalso; omega)
          all_goals try (exfalso; contradiction)
          have hwp : wsp c = true := by simp only [wsp, h10, decide_true, Bool.or_true]
          refine lend_mk m _ (by omega) ⟨j + 1, mid, by omega, by omega, by omega, by omega, rfl, ?_⟩ ?_
          · rw [he, hd]; simp only [tagF, hwp, if_true]
          · simp only [hvm_t, hvm_f, hvm_nil, puts_cons, puts_nil, List.set_cons_zero, List.set_cons_succ, num]
            repeat first | exact Wk.nil | refine Wk.same ?_ | refine wk_any ?_
        · have e10 := eq_false h10
          have hwp : wsp c = false := by simp only [wsp, h10, h32, decide_false, Bool.or_false]
          repeat' first | with_reducible refine asq_dmk (fun _ => ?_) (fun _ => ?_) | with_reducible refine asq_ndmk (fun _ => ?_) (fun _ => ?_) | with_reducible refine asq_nmk (fun _ => ?_) (fun _ => ?_) | with_reducible refine asq_mk (fun _ => ?_) (fun _ => ?_) | with_reducible refine asp_dmk (fun _ => ?_) (fun _ => ?_) | with_reducible refine asp_ndmk (fun _ => ?_) (fun _ => ?_) | with_reducible refine asp_nmk (fun _ => ?_) (fun _ => ?_) | with_reducible refine asp_mk (fun _ => ?_) (fun _ => ?_) | with_reducible refine And.intro (by first | omega | rfl | decide | with_unfolding_all rfl) ?_ | simp only [go_sem, Nat.reduceLT, Nat.reduceAdd, Nat.reduceSub, Nat.reduceMul, Nat.reduceLeDiff, ne_eq, Nat.reduceEqDiff, not_false_eq_true, Bool.and_true, Bool.true_and, Nat.succ_ne_self, and_true, Bool.not_true, Bool.not_false, Int.toNat_zero, Int.reduceToNat, Nat.mul_one, Int.toNat_one, hc0, hw, ej, e32, e10, decide_true, decide_false]
          all_goals try (exfalso; omega)
          all_goals try (exfalso; contradiction)
          refine (one27 s j hlt hs).mono ?_
          rintro r rfl
          obtain ⟨o, ho⟩ : ∃ o, partL (s.drop j) = o := ⟨_, rfl⟩
          rw [ho]
          rcases o with _ | ⟨q, t, n⟩
          · simp only [oneR, tokA, str, num]
            repeat' first | with_reducible refine asq_dmk (fun _ => ?_) (fun _ => ?_) | with_reducible refine asq_ndmk (fun _ => ?_) (fun _ => ?_) | with_reducible refine asq_nmk (fun _ => ?_) (fun _ => ?_) | with_reducible refine asq_mk (fun _ => ?_) (fun _ => ?_) | with_reducible refine asp_dmk (fun _ => ?_) (fun _ => ?_) | with_reducible refine asp_ndmk (fun _ => ?_) (fun _ => ?_) | with_reducible refine asp_nmk (fun _ => ?_) (fun _ => ?_) | with_reducible refine asp_mk (fun _ => ?_) (fun _ => ?_) | with_reducible refine And.intro (by first | omega | rfl | decide | with_unfolding_all rfl) ?_ | simp only [go_sem, Nat.reduceLT, Nat.reduceAdd, Nat.reduceSub, Nat.reduceMul, Nat.reduceLeDiff, ne_eq, Nat.reduceEqDiff, not_false_eq_true, Bool.and_true, Bool.true_and, Nat.succ_ne_self, and_true, Bool.not_true, Bool.not_false, Int.toNat_zero, Int.reduceToNat, Nat.mul_one, Int.toNat_one, Int.reduceNeg, Int.reduceLT, decide_true, decide_false]
            rw [he, hd]
            rw [hd] at ho
            simp only [tagF, hwp, ho, Bool.false_eq_true, if_false, tagR, if_true, num, tru]
          · have hp := partL_spec ho
            rw [List.length_drop] at hp
            obtain ⟨hn0, hnl, hq0, hq6, hq1⟩ := hp
            have en := eq_false (show ¬ ((j + n : Nat) : Int) < 0 by omega)
            have hap : (P ++ mid).map tk ++ [.agg [.raw (.int .i64 q), .raw (.string ⟨t.toArray⟩), .raw (.int .i64 (j : Int))]] = (P ++ (mid ++ [(⟨q, t, j⟩ : Tk)])).map tk := by
              rw [← List.append_assoc, List.map_append (l₁ := P ++ mid)]; rfl
            have hml2 : P.length + mid.length + 1 ≤ 9000000 := by omega
            simp only [oneR, tokA, str, num]
            repeat' first | with_reducible refine asq_dmk (fun _ => ?_) (fun _ => ?_) | with_reducible refine asq_ndmk (fun _ => ?_) (fun _ => ?_) | with_reducible refine asq_nmk (fun _ => ?_) (fun _ => ?_) | with_reducible refine asq_mk (fun _ => ?_) (fun _ => ?_) | with_reducible refine asp_dmk (fun _ => ?_) (fun _ => ?_) | with_reducible refine asp_ndmk (fun _ => ?_) (fun _ => ?_) | with_reducible refine asp_nmk (fun _ => ?_) (fun _ => ?_) | with_reducible refine asp_mk (fun _ => ?_) (fun _ => ?_) | with_reducible refine And.intro (by first | omega | rfl | decide | with_unfolding_all rfl) ?_ | simp only [go_sem, Nat.reduceLT, Nat.reduceAdd, Nat.reduceSub, Nat.reduceMul, Nat.reduceLeDiff, ne_eq, Nat.reduceEqDiff, not_false_eq_true, Bool.and_true, Bool.true_and, Nat.succ_ne_self, and_true, Bool.not_true, Bool.not_false, Int.toNat_zero, Int.reduceToNat, Nat.mul_one, Int.toNat_one, en, hlen, hap, List.length_cons, List.length_nil, decide_true, decide_false]
            · rename_i h7
              rw [he, hd]
              rw [hd] at ho
              simp only [tagF, hwp, ho, h7, Bool.false_eq_true, if_false, tagR, if_true, num, tru]
            · rename_i h7
              refine lend_mk m [.own 34 3 ((P ++ (mid ++ [(⟨q, t, j⟩ : Tk)])).map tk), num ((j + n : Nat) : Int)] (by omega) ⟨j + n, mid ++ [⟨q, t, j⟩], by omega, by omega, by omega, by simp; omega, rfl, ?_⟩ ?_
              · rw [he, hd]
                rw [hd] at ho
                simp only [tagF, hwp, ho, h7, Bool.false_eq_true, if_false]
                rw [← hd, List.drop_drop]
                simp only [List.append_assoc, List.cons_append, List.nil_append]
              · simp only [hvm_t, hvm_f, hvm_nil, puts_cons, puts_nil, List.set_cons_zero, List.set_cons_succ, num]
                repeat first | exact Wk.nil | refine Wk.same ?_ | refine wk_any ?_
    · have ej := eq_false (show ¬ (j : Int) < (s.length : Int) by omega)
      repeat' first | with_reducible refine asq_dmk (fun _ => ?_) (fun _ => ?_) | with_reducible refine asq_ndmk (fun _ => ?_) (fun _ => ?_) | with_reducible refine asq_nmk (fun _ => ?_) (fun _ => ?_) | with_reducible refine asq_mk (fun _ => ?_) (fun _ => ?_) | with_reducible refine asp_dmk (fun _ => ?_) (fun _ => ?_) | with_reducible refine asp_ndmk (fun _ => ?_) (fun _ => ?_) | with_reducible refine asp_nmk (fun _ => ?_) (fun _ => ?_) | with_reducible refine asp_mk (fun _ => ?_) (fun _ => ?_) | with_reducible refine And.intro (by first | omega | rfl | decide | with_unfolding_all rfl) ?_ | simp only [go_sem, Nat.reduceLT, Nat.reduceAdd, Nat.reduceSub, Nat.reduceMul, Nat.reduceLeDiff, ne_eq, Nat.reduceEqDiff, not_false_eq_true, Bool.and_true, Bool.true_and, Nat.succ_ne_self, and_true, Bool.not_true, Bool.not_false, Int.toNat_zero, Int.reduceToNat, Nat.mul_one, Int.toNat_one, ej, decide_true, decide_false]
      all_goals try (exfalso; omega)
      have hz : s.drop j = [] := by simp; omega
      rw [he, hz]
      simp only [tagF, tagR, if_true, num, tru])
end Go.Proofs.Ytibdijaacolhkaa
