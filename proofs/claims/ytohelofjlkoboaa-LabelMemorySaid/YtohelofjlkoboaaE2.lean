/- Valid, and the reference. -/
import Derived.Test.YtohelofjlkoboaaT
import Derived.Test.YtohelofjlkoboaaA10
import Derived.Test.YtohelofjlkoboaaE1
namespace Go.Proofs.Ytohelofjlkoboaa
open Go.RowKit Go.Proofs
set_option linter.unusedSimpArgs false
set_option linter.unusedVariables false
set_option maxRecDepth 100000
set_option maxHeartbeats 4000000
structure Lb where
  u : Int
  a : List Int
  n : Int
  d : Int
def lab (l : Lb) : AV := .agg [num l.u, .sl 1 (nums l.a), num l.n, num l.d]
def asc : Int → List Int → Bool
  | _, [] => true
  | p, x :: r => (decide (p + 1 ≤ x) && decide (x ≤ 64)) && asc x r
def okL (l : Lb) : Bool := (decide (0 ≤ l.u) && decide (l.u ≤ 1000000000)) && (decide (0 ≤ l.n) && decide (l.n ≤ 5)) && (decide (0 ≤ l.d) && decide (l.d ≤ 15)) && asc 0 l.a
theorem wkown {e k : Nat} {es : List AV} : Wk [.own e k es] [.sl k es] := .cons (W1.ownsl e k es) rfl .nil
theorem asc_at {p : Int} {l : List Int} {i : Nat} (h : i < l.length) : asc p (l.drop i) = ((decide (p + 1 ≤ l.getD i 0) && decide (l.getD i 0 ≤ 64)) && asc (l.getD i 0) (l.drop (i + 1))) := by
  rw [List.drop_eq_getElem_cons h]
  simp [asc, List.getD_eq_getElem?_getD, h]
theorem valid16 (l : Lb) (hl : l.a.length ≤ 1000000) : ACalls Try.prog 16 [lab l] (fun r => r = tru (okL l)) := by
  refine calls_short [] ttok hmix Try.func16 (by decide) (by decide +kernel) (by simp only [Try.f16, Option.bind_some, comp, isLend, lendOf, lendX, lendC, lendH, Nat.reduceLeDiff, Nat.reduceSub, ne_eq, not_false_eq_true, and_self, cops, cguard, gslot, List.getElem?_toArray, List.getElem?_cons_succ, List.getElem?_cons_zero, vlook, tlook, cutAt_nil, cutAt, firstReg, isCut, mkSeq, Nat.reduceAdd, Nat.reduceEqDiff, reduceIte]; rfl) Try.ntmps16 Try.results16 ⟨_, rfl⟩ rfl ?_
  simp only [List.length_cons, List.length_nil, Nat.reduceAdd, Nat.reduceSub, List.replicate_succ, List.replicate_zero, List.cons_append, List.nil_append, num, str, tru]
  simp only [go_sem, lab, num, tru]
  repeat refine ⟨by first | rfl | assumption | omega | (simp; done), ?_⟩
  refine ((within28 [(l.u, 0, 1000000000), (l.n, 0, 5), (l.d, 0, 15)] (by simp)).wk wkown).mono ?_
  rintro r rfl
  simp only [go_sem]
  refine asq_nmk (fun h => ?_) (fun h => ?_)
  · simp only [go_sem]
    simp at h
    simp [okL, tru]
    omega
  · simp only [go_sem]
    refine cwp_loop [false, false, false, true, false, true, false, false, false, false, false, false, false, false, false, false, false, false, false, false, false, true, true, true, true, true, true, true, true, true, true, true, true, true] [3, 21] (fun n xs => ∃ i last, i + n = l.a.length ∧ xs = [num last, num i] ∧ asc 0 l.a = asc last (l.a.drop i) ∧ 0 ≤ last ∧ last ≤ 64) ⟨_, _, ⟨0, 0, by simp; rfl, rfl, rfl, by decide, by decide⟩, ?_⟩ ?_

    · simp only [hvm_t, hvm_f, hvm_nil, puts_cons, puts_nil, List.set_cons_zero, List.set_cons_succ, num]
      exact Wk.refl _
    · rintro n xs ⟨i, last, hi, rfl, hasc, h0, h64⟩
      simp only [hvm_t, hvm_f, hvm_nil, puts_cons, puts_nil, List.set_cons_zero, List.set_cons_succ, num]
      simp only [go_sem]
      refine asq_dmk (fun h1 => ?_) (fun h1 => ?_)
      · have hlt : i < l.a.length := by omega
        simp only [go_sem, nums_getD hlt]
        have hw : IntKind.i64.wrap (last + 1) = last + 1 := wrap_in (by omega) (by omega)
        simp only [hw]
        repeat refine ⟨by first | rfl | assumption | omega | (simp; done), ?_⟩
        refine ((within28 [(l.a.getD i 0, last + 1, 64)] (by simp)).wk wkown).mono ?_
        rintro r rfl
        simp only [go_sem]
        refine asq_nmk (fun h => ?_) (fun h => ?_)
        · simp only [go_sem]
          have h' := asc_at (p := last) hlt
          simp [-List.getD_eq_getElem?_getD] at h
          have : okL l = false := by
            simp only [okL, hasc, h']
            by_cases hx : last + 1 ≤ l.a.getD i 0
            · have := h hx
              simp [-List.getD_eq_getElem?_getD]; omega
            · simp [-List.getD_eq_getElem?_getD, hx]
          rw [this]
        · simp only [go_sem]
          have h' := asc_at (p := last) hlt
          simp [-List.getD_eq_getElem?_getD] at h
          refine lend_mk (n - 1) [num (l.a.getD i 0), num ((i + 1 : Nat) : Int)] (by omega) ⟨i + 1, _, by omega, rfl, ?_, by omega, by omega⟩ ?_
          · rw [hasc, h']
            simp [-List.getD_eq_getElem?_getD, h]
          · rw [wrap_succ (by omega)]
            simp only [hvm_t, hvm_f, hvm_nil, puts_cons, puts_nil, List.set_cons_zero, List.set_cons_succ, num]
            repeat first | exact Wk.nil | refine Wk.same ?_ | refine wk_any ?_
      · simp only [go_sem]
        have : l.a.drop i = [] := by simp; omega
        simp only [this, asc] at hasc
        simp at h
        simp [okL, hasc, tru]
        omega
end Go.Proofs.Ytohelofjlkoboaa
