/- Law 3: Tokens agrees with the reference. -/
import Derived.Test.YtibdijaacolhkaaT
import Derived.Test.YtibdijaacolhkaaA10
import Derived.Test.YtibdijaacolhkaaX12
import Derived.Test.YtibdijaacolhkaaB4
namespace Go.Proofs.Ytibdijaacolhkaa
open Go.RowKit Go.Proofs
set_option linter.unusedSimpArgs false
set_option linter.unusedVariables false
set_option maxRecDepth 100000
set_option maxHeartbeats 4000000
theorem W1.tup {xs ys : List AV} (h : Wk xs ys) : W1 (.tup xs) (.tup ys) := fun w S v c hr => by
  cases hr with
  | tup h1 h' hc =>
    cases h' with
    | nil hz =>
      obtain ⟨c', h2, hle⟩ := h.rep h1
      exact ⟨c', .tup h2 (.nil zc0) (fun b => by simp), fun b => by rw [hc]; have := hle b; omega⟩
/-- What Tokens answers: a list of tokens and two numbers. -/
def tokL (s : List UInt8) : List Tk × Int × Int := if 1000 < s.length then ([], 1000, 90) else
  match (toks s).find? (fun t => decide (t.k = 0)) with
  | some t => ([], (t.a : Nat), 90)
  | none => (toks s, 0, 0)
def tokensW (s : List UInt8) : AV := .tup [.own 34 3 ((tokL s).1.map tk), num (tokL s).2.1, num (tokL s).2.2]
theorem tokL_len (s : List UInt8) : (tokL s).1.length ≤ 1001 := by
  unfold tokL
  split
  · simp
  · have := toks_len s
    split
    · simp
    · dsimp only; omega
theorem tokensR_W (s : List UInt8) : W1 (tokensR s) (tokensW s) := by
  unfold tokensR tokensW tokL
  by_cases h : 1000 < s.length
  · rw [if_pos h, if_pos h]
    exact W1.tup (wk_nilown (Wk.refl _))
  · rw [if_neg h, if_neg h]
    cases hf : (toks s).find? (fun t => decide (t.k = 0)) with
    | some t => exact W1.tup (wk_nilown (Wk.refl _))
    | none =>
      cases hl : toks s with
      | nil => exact W1.tup (wk_nilown (Wk.refl _))
      | cons a l => exact W1.refl _
theorem tokW10 (s : List UInt8) (hs : s.length ≤ 1000000) : ACalls Try.prog 10 [str s] (fun r => r = tokensW s) :=
  (tokens10 s hs).wkr fun r hr => ⟨_, by rw [hr]; exact tokensR_W s, rfl, rfl⟩
theorem tokW11 (s : List UInt8) (hs : s.length ≤ 1000000) : ACalls Try.prog 11 [str s] (fun r => r = tokensW s) :=
  (refTokens11 s hs).wkr fun r hr => ⟨_, by rw [hr]; exact tokensR_W s, rfl, rfl⟩
theorem cut_len {s : List UInt8} {n : Nat} : (List.take (min (s.length : Int) (n : Int)).toNat s).length ≤ n := by
  rw [List.length_take]; omega
theorem law3 (s : List UInt8) (hs : s.length ≤ 9223372036854775807) : ACalls Try.prog 3 [str s] (fun r => r = tru true) := by
  refine calls_short [] ttok hmix Try.func3 (by decide) (by decide +kernel) (by simp only [Try.f3, Option.bind_some, comp, isLend, lendOf, lendX, lendC, lendH, Nat.reduceLeDiff, Nat.reduceSub, ne_eq, not_false_eq_true, and_self, cops, cguard, gslot, List.getElem?_toArray, List.getElem?_cons_succ, List.getElem?_cons_zero, vlook, tlook, cutAt_nil, cutAt, firstReg, isCut, mkSeq, Nat.reduceAdd, Nat.reduceEqDiff, reduceIte]; rfl) Try.ntmps3 Try.results3 ⟨_, rfl⟩ rfl ?_
  simp only [List.length_cons, List.length_nil, Nat.reduceAdd, Nat.reduceSub, List.replicate_succ, List.replicate_zero, List.cons_append, List.nil_append, num, str, tru]
  repeat' first | with_reducible refine asq_dmk (fun _ => ?_) (fun _ => ?_) | with_reducible refine asq_ndmk (fun _ => ?_) (fun _ => ?_) | with_reducible refine asq_nmk (fun _ => ?_) (fun _ => ?_) | with_reducible refine asq_mk (fun _ => ?_) (fun _ => ?_) | with_reducible refine asp_dmk (fun _ => ?_) (fun _ => ?_) | with_reducible refine asp_ndmk (fun _ => ?_) (fun _ => ?_) | with_reducible refine asp_nmk (fun _ => ?_) (fun _ => ?_) | with_reducible refine asp_mk (fun _ => ?_) (fun _ => ?_) | with_reducible refine And.intro (by first | omega | rfl | decide | with_unfolding_all rfl) ?_ | simp only [go_sem, Nat.reduceLT, Nat.reduceAdd, Nat.reduceSub, Nat.reduceMul, Nat.reduceLeDiff, ne_eq, Nat.reduceEqDiff, not_false_eq_true, Bool.and_true, Bool.true_and, Nat.succ_ne_self, and_true, Bool.not_true, Bool.not_false, Int.toNat_zero, Int.reduceToNat, Nat.mul_one, Int.toNat_one]
  refine sane9.mono ?_
  rintro r rfl
  simp only [go_sem, Nat.reduceLT, Nat.reduceAdd, Nat.reduceSub, Nat.reduceMul, Nat.reduceLeDiff, ne_eq, Nat.reduceEqDiff, not_false_eq_true, Bool.and_true, Bool.true_and, Nat.succ_ne_self, and_true, Bool.not_true, Bool.not_false, Int.toNat_zero, Int.reduceToNat, Nat.mul_one, Int.toNat_one, tru]
  repeat' first | with_reducible refine asq_dmk (fun _ => ?_) (fun _ => ?_) | with_reducible refine asq_ndmk (fun _ => ?_) (fun _ => ?_) | with_reducible refine asq_nmk (fun _ => ?_) (fun _ => ?_) | with_reducible refine asq_mk (fun _ => ?_) (fun _ => ?_) | with_reducible refine asp_dmk (fun _ => ?_) (fun _ => ?_) | with_reducible refine asp_ndmk (fun _ => ?_) (fun _ => ?_) | with_reducible refine asp_nmk (fun _ => ?_) (fun _ => ?_) | with_reducible refine asp_mk (fun _ => ?_) (fun _ => ?_) | with_reducible refine And.intro (by first | omega | rfl | decide | with_unfolding_all rfl) ?_ | simp only [go_sem, Nat.reduceLT, Nat.reduceAdd, Nat.reduceSub, Nat.reduceMul, Nat.reduceLeDiff, ne_eq, Nat.reduceEqDiff, not_false_eq_true, Bool.and_true, Bool.true_and, Nat.succ_ne_self, and_true, Bool.not_true, Bool.not_false, Int.toNat_zero, Int.reduceToNat, Nat.mul_one, Int.toNat_one]
  have hc : (List.take (min (s.length : Int) 1100).toNat s).length ≤ 1100 := cut_len (s := s) (n := 1100)
  generalize List.take (min (s.length : Int) 1100).toNat s = t at hc
  refine (tokW10 t (by omega)).mono ?_
  rintro r rfl
  have hl := tokL_len t
  obtain ⟨l, x, e, ht⟩ : ∃ l x e, tokL t = (l, x, e) := ⟨_, _, _, rfl⟩
  rw [ht] at hl
  dsimp only at hl
  simp only [tokensW, ht, num]
  repeat' first | with_reducible refine asq_dmk (fun _ => ?_) (fun _ => ?_) | with_reducible refine asq_ndmk (fun _ => ?_) (fun _ => ?_) | with_reducible refine asq_nmk (fun _ => ?_) (fun _ => ?_) | with_reducible refine asq_mk (fun _ => ?_) (fun _ => ?_) | with_reducible refine asp_dmk (fun _ => ?_) (fun _ => ?_) | with_reducible refine asp_ndmk (fun _ => ?_) (fun _ => ?_) | with_reducible refine asp_nmk (fun _ => ?_) (fun _ => ?_) | with_reducible refine asp_mk (fun _ => ?_) (fun _ => ?_) | with_reducible refine And.intro (by first | omega | rfl | decide | with_unfolding_all rfl) ?_ | simp only [go_sem, Nat.reduceLT, Nat.reduceAdd, Nat.reduceSub, Nat.reduceMul, Nat.reduceLeDiff, ne_eq, Nat.reduceEqDiff, not_false_eq_true, Bool.and_true, Bool.true_and, Nat.succ_ne_self, and_true, Bool.not_true, Bool.not_false, Int.toNat_zero, Int.reduceToNat, Nat.mul_one, Int.toNat_one]
  refine (tokW11 t (by omega)).mono ?_
  rintro r rfl
  simp only [tokensW, ht, num]
  repeat' first | with_reducible refine asq_dmk (fun _ => ?_) (fun _ => ?_) | with_reducible refine asq_ndmk (fun _ => ?_) (fun _ => ?_) | with_reducible refine asq_nmk (fun _ => ?_) (fun _ => ?_) | with_reducible refine asq_mk (fun _ => ?_) (fun _ => ?_) | with_reducible refine asp_dmk (fun _ => ?_) (fun _ => ?_) | with_reducible refine asp_ndmk (fun _ => ?_) (fun _ => ?_) | with_reducible refine asp_nmk (fun _ => ?_) (fun _ => ?_) | with_reducible refine asp_mk (fun _ => ?_) (fun _ => ?_) | with_reducible refine And.intro (by first | omega | rfl | decide | with_unfolding_all rfl) ?_ | simp only [go_sem, Nat.reduceLT, Nat.reduceAdd, Nat.reduceSub, Nat.reduceMul, Nat.reduceLeDiff, ne_eq, Nat.reduceEqDiff, not_false_eq_true, Bool.and_true, Bool.true_and, Nat.succ_ne_self, and_true, Bool.not_true, Bool.not_false, Int.toNat_zero, Int.reduceToNat, Nat.mul_one, Int.toNat_one]
  refine ((same12 l l (by omega) (by omega)).wk ?_).mono ?_
  · try simp only [num, str]
    repeat first | exact Wk.nil | exact Wk.refl _ | refine wk_agg ?_ ?_ | refine wk_ownsl ?_ | refine wk_nilsl ?_ | refine Wk.same ?_
  rintro r rfl
  simp only [tru, num, str]
  repeat' first | with_reducible refine asq_dmk (fun _ => ?_) (fun _ => ?_) | with_reducible refine asq_ndmk (fun _ => ?_) (fun _ => ?_) | with_reducible refine asq_nmk (fun _ => ?_) (fun _ => ?_) | with_reducible refine asq_mk (fun _ => ?_) (fun _ => ?_) | with_reducible refine asp_dmk (fun _ => ?_) (fun _ => ?_) | with_reducible refine asp_ndmk (fun _ => ?_) (fun _ => ?_) | with_reducible refine asp_nmk (fun _ => ?_) (fun _ => ?_) | with_reducible refine asp_mk (fun _ => ?_) (fun _ => ?_) | with_reducible refine And.intro (by first | omega | rfl | decide | with_unfolding_all rfl) ?_ | simp only [go_sem, Nat.reduceLT, Nat.reduceAdd, Nat.reduceSub, Nat.reduceMul, Nat.reduceLeDiff, ne_eq, Nat.reduceEqDiff, not_false_eq_true, Bool.and_true, Bool.true_and, Nat.succ_ne_self, and_true, Bool.not_true, Bool.not_false, Int.toNat_zero, Int.reduceToNat, Nat.mul_one, Int.toNat_one, decide_true]
theorem lawA3 (xs : List AV) (h : OfA Try.prog [9] xs) : ACalls Try.prog 3 xs (fun r => r = tru true) := by
  obtain ⟨_, y, _, rfl, h1, h⟩ := OfA_cons h
  obtain rfl := OfA_nil h
  obtain ⟨s, rfl, hs⟩ := OfE_str Try.underlying9 h1
  exact law3 s hs
end Go.Proofs.Ytibdijaacolhkaa
