/- Lists of tokens compared. -/
import Derived.Test.YtibdijaacolhkaaT
import Derived.Test.YtibdijaacolhkaaA10
import Derived.Test.YtibdijaacolhkaaX10
namespace Go.Proofs.Ytibdijaacolhkaa
open Go.RowKit Go.Proofs
set_option linter.unusedSimpArgs false
set_option linter.unusedVariables false
set_option maxRecDepth 100000
set_option maxHeartbeats 4000000
deriving instance DecidableEq for Tk
theorem same12 (a b : List Tk) (ha : a.length ≤ 1000000) (hb : b.length ≤ 1000000) : ACalls Try.prog 12 [.sl 3 (a.map tk), .sl 3 (b.map tk)] (fun r => r = tru (decide (a = b))) := by
  refine calls_short [] ttok hmix Try.func12 (by decide) (by decide +kernel) (by simp only [Try.f12, Option.bind_some, comp, isLend, lendOf, lendX, lendC, lendH, Nat.reduceLeDiff, Nat.reduceSub, ne_eq, not_false_eq_true, and_self, cops, cguard, gslot, List.getElem?_toArray, List.getElem?_cons_succ, List.getElem?_cons_zero, vlook, tlook, cutAt_nil, cutAt, firstReg, isCut, mkSeq, Nat.reduceAdd, Nat.reduceEqDiff, reduceIte]; rfl) Try.ntmps12 Try.results12 ⟨_, rfl⟩ rfl ?_
  simp only [List.length_cons, List.length_nil, Nat.reduceAdd, Nat.reduceSub, List.replicate_succ, List.replicate_zero, List.cons_append, List.nil_append, num, str, tru]
  simp (decide := true) only [mkd_eq [5] [] [] [[17], [5], [17], [], [21], [5], [21], [], []], List.zip_cons_cons, List.zip_nil_left, List.zip_nil_right]
  repeat' first | with_reducible refine asq_dmk (fun _ => ?_) (fun _ => ?_) | with_reducible refine asq_ndmk (fun _ => ?_) (fun _ => ?_) | with_reducible refine asq_nmk (fun _ => ?_) (fun _ => ?_) | with_reducible refine asq_mk (fun _ => ?_) (fun _ => ?_) | with_reducible refine asp_dmk (fun _ => ?_) (fun _ => ?_) | with_reducible refine asp_ndmk (fun _ => ?_) (fun _ => ?_) | with_reducible refine asp_nmk (fun _ => ?_) (fun _ => ?_) | with_reducible refine asp_mk (fun _ => ?_) (fun _ => ?_) | with_reducible refine And.intro (by first | omega | rfl | decide | with_unfolding_all rfl) ?_ | simp only [go_sem, Nat.reduceLT, Nat.reduceAdd, Nat.reduceSub, Nat.reduceMul, Nat.reduceLeDiff, ne_eq, Nat.reduceEqDiff, not_false_eq_true, Bool.and_true, Bool.true_and, Nat.succ_ne_self, and_true, Bool.not_true, Bool.not_false, Int.toNat_zero, Int.reduceToNat, Nat.mul_one, Int.toNat_one, List.length_map]
  · rename_i h
    have : ¬ a = b := by intro e; subst e; exact h rfl
    simp only [this, decide_false]
  rename_i hab
  have hab2 : a.length = b.length := by omega
  refine cwp_loop [false, false, false, false, false, true, false, false, false, false, false, true, true, true, true, true, true, true, true, true, true, true, true, true, true, true] [5] (fun n xs => ∃ (j : Nat), j ≤ a.length ∧ j + n = a.length ∧ a.take j = b.take j ∧ xs = [num j]) ⟨a.length, _, ⟨0, by omega, by omega, rfl, rfl⟩, ?_⟩ ?_
  · simp only [hvm_t, hvm_f, hvm_nil, puts_cons, puts_nil, List.set_cons_zero, List.set_cons_succ, num]
    repeat first | exact Wk.nil | refine Wk.same ?_ | refine wk_any ?_
  · rintro n xs ⟨j, hjl, hn, he, rfl⟩
    simp only [hvm_t, hvm_f, hvm_nil, puts_cons, puts_nil, List.set_cons_zero, List.set_cons_succ, num]
    simp only [go_sem, Nat.reduceLT, Nat.reduceAdd, Nat.reduceSub, Nat.reduceMul, Nat.reduceLeDiff, ne_eq, Nat.reduceEqDiff, not_false_eq_true, Bool.and_true, Bool.true_and, Nat.succ_ne_self, and_true, Bool.not_true, Bool.not_false, Int.toNat_zero, Int.reduceToNat, Nat.mul_one, Int.toNat_one]
    rcases Nat.lt_or_ge j a.length with hlt | hge
    · have ej := eq_true (show (j : Int) < (a.length : Int) by omega)
      have hlt2 : j < b.length := by omega
      obtain ⟨x, hx⟩ : ∃ x, a[j]? = some x := ⟨_, List.getElem?_eq_getElem hlt⟩
      obtain ⟨y, hy⟩ : ∃ y, b[j]? = some y := ⟨_, List.getElem?_eq_getElem hlt2⟩
      have hgx : (a.map tk).getD j .any = .agg [num x.k, str x.t, num (x.a : Nat)] := by simp [hx, tk, tokA]
      have hgy : (b.map tk).getD j .any = .agg [num y.k, str y.t, num (y.a : Nat)] := by simp [hy, tk, tokA]
      simp only [num, str] at hgx hgy
      have hw : IntKind.i64.wrap ((j : Int) + 1) = ((j + 1 : Nat) : Int) := wrap_succ (by omega)
      repeat' first | with_reducible refine asq_dmk (fun _ => ?_) (fun _ => ?_) | with_reducible refine asq_ndmk (fun _ => ?_) (fun _ => ?_) | with_reducible refine asq_nmk (fun _ => ?_) (fun _ => ?_) | with_reducible refine asq_mk (fun _ => ?_) (fun _ => ?_) | with_reducible refine asp_dmk (fun _ => ?_) (fun _ => ?_) | with_reducible refine asp_ndmk (fun _ => ?_) (fun _ => ?_) | with_reducible refine asp_nmk (fun _ => ?_) (fun _ => ?_) | with_reducible refine asp_mk (fun _ => ?_) (fun _ => ?_) | with_reducible refine And.intro (by first | omega | rfl | decide | with_unfolding_all rfl) ?_ | simp only [go_sem, Nat.reduceLT, Nat.reduceAdd, Nat.reduceSub, Nat.reduceMul, Nat.reduceLeDiff, ne_eq, Nat.reduceEqDiff, not_false_eq_true, Bool.and_true, Bool.true_and, Nat.succ_ne_self, and_true, Bool.not_true, Bool.not_false, Int.toNat_zero, Int.reduceToNat, Nat.mul_one, Int.toNat_one, ej, hgx, hgy, hw, List.length_map, decide_true, decide_false]
      all_goals try (exfalso; omega)
      · rename_i hne
        have : ¬ a = b := by
          intro e
          subst e
          rw [hx] at hy
          injection hy with hy
          subst hy
          simp at hne
        simp only [this, decide_false]
      · rename_i heq
        have hxy : x = y := by
          simp only [Bool.and_eq_true, decide_eq_true_eq, beq_iff_eq] at heq
          obtain ⟨e1, e2, e3⟩ := heq
          cases x; cases y
          simp only [Tk.mk.injEq]
          exact ⟨e1, e2, Int.ofNat_inj.1 e3⟩
        refine lend_mk (n - 1) [num ((j + 1 : Nat) : Int)] (by omega) ⟨j + 1, by omega, by omega, ?_, rfl⟩ ?_
        · rw [List.take_add_one, List.take_add_one, he, hx, hy, hxy]
        · simp only [hvm_t, hvm_f, hvm_nil, puts_cons, puts_nil, List.set_cons_zero, List.set_cons_succ, num]
          repeat first | exact Wk.nil | refine Wk.same ?_ | refine wk_any ?_
    · have ej := eq_false (show ¬ (j : Int) < (a.length : Int) by omega)
      repeat' first | with_reducible refine asq_dmk (fun _ => ?_) (fun _ => ?_) | with_reducible refine asq_ndmk (fun _ => ?_) (fun _ => ?_) | with_reducible refine asq_nmk (fun _ => ?_) (fun _ => ?_) | with_reducible refine asq_mk (fun _ => ?_) (fun _ => ?_) | with_reducible refine asp_dmk (fun _ => ?_) (fun _ => ?_) | with_reducible refine asp_ndmk (fun _ => ?_) (fun _ => ?_) | with_reducible refine asp_nmk (fun _ => ?_) (fun _ => ?_) | with_reducible refine asp_mk (fun _ => ?_) (fun _ => ?_) | with_reducible refine And.intro (by first | omega | rfl | decide | with_unfolding_all rfl) ?_ | simp only [go_sem, Nat.reduceLT, Nat.reduceAdd, Nat.reduceSub, Nat.reduceMul, Nat.reduceLeDiff, ne_eq, Nat.reduceEqDiff, not_false_eq_true, Bool.and_true, Bool.true_and, Nat.succ_ne_self, and_true, Bool.not_true, Bool.not_false, Int.toNat_zero, Int.reduceToNat, Nat.mul_one, Int.toNat_one, ej, List.length_map, decide_true, decide_false]
      all_goals try (exfalso; omega)
      have : a = b := by
        rw [List.take_of_length_le hge, List.take_of_length_le (by omega)] at he
        exact he
      simp only [this, decide_true]
end Go.Proofs.Ytibdijaacolhkaa
