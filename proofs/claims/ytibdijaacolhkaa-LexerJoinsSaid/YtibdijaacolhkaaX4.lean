/- part. -/
import Derived.Test.YtibdijaacolhkaaT
import Derived.Test.YtibdijaacolhkaaA10
import Derived.Test.YtibdijaacolhkaaX3
namespace Go.Proofs.Ytibdijaacolhkaa
open Go.RowKit Go.Proofs
set_option linter.unusedSimpArgs false
set_option linter.unusedVariables false
set_option maxRecDepth 100000
set_option maxHeartbeats 4000000
theorem runI_le (p : Int → Bool) : ∀ l : List UInt8, runI p l ≤ l.length
  | [] => Nat.le_refl _
  | c :: r => by
    have := runI_le p r
    simp only [runI, List.length_cons]
    split <;> omega
def partL : List UInt8 → Option (Int × List UInt8 × Nat)
  | [] => none
  | c :: r =>
    if ltrI (c.toNat : Int) then (if 20 < runI nmI (c :: r) then none else some (2, (c :: r).take (runI nmI (c :: r)), runI nmI (c :: r)))
    else if digI (c.toNat : Int) then (if 6 < runI digI (c :: r) ∨ (1 < runI digI (c :: r) ∧ ((c.toNat : Nat) : Int) = 48) then none else some (3, (c :: r).take (runI digI (c :: r)), runI digI (c :: r)))
    else if ((c.toNat : Nat) : Int) = 34 then (match r.drop (runI stI r) with
      | d :: _ => if ((d.toNat : Nat) : Int) = 34 then some (4, r.take (runI stI r), runI stI r + 2) else none
      | [] => none)
    else if ((c.toNat : Nat) : Int) = 124 then some (5, [124], 1)
    else if ((c.toNat : Nat) : Int) = 125 then some (7, [125], 1)
    else none
theorem k1 : ltrI 34 = false := by decide
theorem k2 : digI 34 = false := by decide
theorem k3 : ltrI 124 = false := by decide
theorem k4 : digI 124 = false := by decide
theorem k5 : ltrI 125 = false := by decide
theorem k6 : digI 125 = false := by decide
theorem k7 : ((124 : Int) = 34) = False := by decide
theorem k8 : ((125 : Int) = 34) = False := by decide
theorem k9 : ((125 : Int) = 124) = False := by decide
def partR (i : Nat) (o : Option (Int × List UInt8 × Nat)) : AV := match o with
  | some (k, t, n) => .tup [tokA k t i, num (i + n : Nat)]
  | none => .tup [tokA 0 [] i, num 0]
theorem part25 (s : List UInt8) (i : Nat) (hi : i < s.length) (hs : s.length ≤ 1000000) : ACalls Try.prog 25 [str s, num i] (fun r => r = partR i (partL (s.drop i))) := by
  refine calls_short [] ttok hmix Try.func25 (by decide) (by decide +kernel) (by simp only [Try.f25, Option.bind_some, comp, isLend, lendOf, lendX, lendC, lendH, Nat.reduceLeDiff, Nat.reduceSub, ne_eq, not_false_eq_true, and_self, cops, cguard, gslot, List.getElem?_toArray, List.getElem?_cons_succ, List.getElem?_cons_zero, vlook, tlook, cutAt_nil, cutAt, firstReg, isCut, mkSeq, Nat.reduceAdd, Nat.reduceEqDiff, reduceIte]; rfl) Try.ntmps25 Try.results25 ⟨_, rfl⟩ rfl ?_
  simp only [List.length_cons, List.length_nil, Nat.reduceAdd, Nat.reduceSub, List.replicate_succ, List.replicate_zero, List.cons_append, List.nil_append, num, str, tru]
  simp only [go_sem, Nat.reduceLT, Nat.reduceAdd, Nat.reduceSub, Nat.reduceMul, Nat.reduceLeDiff, ne_eq, Nat.reduceEqDiff, not_false_eq_true, Bool.and_true, Bool.true_and, Nat.succ_ne_self, and_true, Bool.not_true, Bool.not_false, Int.toNat_zero, Int.reduceToNat, Nat.mul_one, Int.toNat_one, str, num]
  obtain ⟨c, hc0, hd⟩ := drop_cons hi
  have hr := List.drop_drop (i := 1) (j := i) (l := s)
  repeat' first | with_reducible refine asq_dmk (fun _ => ?_) (fun _ => ?_) | with_reducible refine asq_ndmk (fun _ => ?_) (fun _ => ?_) | with_reducible refine asq_nmk (fun _ => ?_) (fun _ => ?_) | with_reducible refine asq_mk (fun _ => ?_) (fun _ => ?_) | with_reducible refine asp_dmk (fun _ => ?_) (fun _ => ?_) | with_reducible refine asp_ndmk (fun _ => ?_) (fun _ => ?_) | with_reducible refine asp_nmk (fun _ => ?_) (fun _ => ?_) | with_reducible refine asp_mk (fun _ => ?_) (fun _ => ?_) | with_reducible refine And.intro (by first | omega | rfl | decide | with_unfolding_all rfl) ?_ | simp only [go_sem, Nat.reduceLT, Nat.reduceAdd, Nat.reduceSub, Nat.reduceMul, Nat.reduceLeDiff, ne_eq, Nat.reduceEqDiff, not_false_eq_true, Bool.and_true, Bool.true_and, Nat.succ_ne_self, and_true, Bool.not_true, Bool.not_false, Int.toNat_zero, Int.reduceToNat, Nat.mul_one, Int.toNat_one, hc0]
  refine (letter30 _).mono ?_
  rintro r rfl
  simp only [tru]
  cases h1 : ltrI (c.toNat : Int)
  · repeat' first | with_reducible refine asq_dmk (fun _ => ?_) (fun _ => ?_) | with_reducible refine asq_ndmk (fun _ => ?_) (fun _ => ?_) | with_reducible refine asq_nmk (fun _ => ?_) (fun _ => ?_) | with_reducible refine asq_mk (fun _ => ?_) (fun _ => ?_) | with_reducible refine asp_dmk (fun _ => ?_) (fun _ => ?_) | with_reducible refine asp_ndmk (fun _ => ?_) (fun _ => ?_) | with_reducible refine asp_nmk (fun _ => ?_) (fun _ => ?_) | with_reducible refine asp_mk (fun _ => ?_) (fun _ => ?_) | with_reducible refine And.intro (by first | omega | rfl | decide | with_unfolding_all rfl) ?_ | simp only [go_sem, Nat.reduceLT, Nat.reduceAdd, Nat.reduceSub, Nat.reduceMul, Nat.reduceLeDiff, ne_eq, Nat.reduceEqDiff, not_false_eq_true, Bool.and_true, Bool.true_and, Nat.succ_ne_self, and_true, Bool.not_true, Bool.not_false, Int.toNat_zero, Int.reduceToNat, Nat.mul_one, Int.toNat_one]
    refine (digit33 _).mono ?_
    rintro r rfl
    simp only [tru]
    cases h2 : digI (c.toNat : Int)
    · repeat' first | with_reducible refine asq_dmk (fun _ => ?_) (fun _ => ?_) | with_reducible refine asq_ndmk (fun _ => ?_) (fun _ => ?_) | with_reducible refine asq_nmk (fun _ => ?_) (fun _ => ?_) | with_reducible refine asq_mk (fun _ => ?_) (fun _ => ?_) | with_reducible refine asp_dmk (fun _ => ?_) (fun _ => ?_) | with_reducible refine asp_ndmk (fun _ => ?_) (fun _ => ?_) | with_reducible refine asp_nmk (fun _ => ?_) (fun _ => ?_) | with_reducible refine asp_mk (fun _ => ?_) (fun _ => ?_) | with_reducible refine And.intro (by first | omega | rfl | decide | with_unfolding_all rfl) ?_ | simp only [go_sem, Nat.reduceLT, Nat.reduceAdd, Nat.reduceSub, Nat.reduceMul, Nat.reduceLeDiff, ne_eq, Nat.reduceEqDiff, not_false_eq_true, Bool.and_true, Bool.true_and, Nat.succ_ne_self, and_true, Bool.not_true, Bool.not_false, Int.toNat_zero, Int.reduceToNat, Nat.mul_one, Int.toNat_one]
      · rename_i h34
        have hwi : IntKind.i64.wrap ((i : Int) + 1) = ((i + 1 : Nat) : Int) := wrap_succ (by omega)
        rw [hwi]
        refine (run31 s (i + 1) 34 stI parts34 (by omega) hs).mono ?_
        rintro r rfl
        obtain ⟨n, hn⟩ : ∃ n, runI stI (s.drop (i + 1)) = n := ⟨_, rfl⟩
        have hnl : n ≤ s.length - (i + 1) := by have := runI_le stI (s.drop (i + 1)); simp at this; omega
        have e1 : i + 1 + n - (i + 1) = n := by omega
        have hdd : (s.drop (i + 1)).drop n = s.drop (i + 1 + n) := by rw [List.drop_drop]
        have hwe : IntKind.i64.wrap (((i + 1 + n : Nat) : Int) + 1) = ((i + 1 + n + 1 : Nat) : Int) := wrap_succ (by omega)
        simp only [hn, num]
        repeat' first | with_reducible refine asq_dmk (fun _ => ?_) (fun _ => ?_) | with_reducible refine asq_ndmk (fun _ => ?_) (fun _ => ?_) | with_reducible refine asq_nmk (fun _ => ?_) (fun _ => ?_) | with_reducible refine asq_mk (fun _ => ?_) (fun _ => ?_) | with_reducible refine asp_dmk (fun _ => ?_) (fun _ => ?_) | with_reducible refine asp_ndmk (fun _ => ?_) (fun _ => ?_) | with_reducible refine asp_nmk (fun _ => ?_) (fun _ => ?_) | with_reducible refine asp_mk (fun _ => ?_) (fun _ => ?_) | with_reducible refine And.intro (by first | omega | rfl | decide | with_unfolding_all rfl) ?_ | simp only [go_sem, Nat.reduceLT, Nat.reduceAdd, Nat.reduceSub, Nat.reduceMul, Nat.reduceLeDiff, ne_eq, Nat.reduceEqDiff, not_false_eq_true, Bool.and_true, Bool.true_and, Nat.succ_ne_self, and_true, Bool.not_true, Bool.not_false, Int.toNat_zero, Int.reduceToNat, Nat.mul_one, Int.toNat_one, e1, hwi, hwe]
        · rename_i hend
          have : s.drop (i + 1 + n) = [] := by simp; omega
          rw [hd]
          simp only [k1, k2, k3, k4, k5, k6, k7, k8, k9, partL, h1, h2, h34, hn, hdd, this, if_true, Bool.false_eq_true, if_false, partR, tokA, str, num]
        all_goals (
          rename_i hend h34b
          obtain ⟨e, he0, hde⟩ := drop_cons (s := s) (i := i + 1 + n) (by omega)
          rw [he0] at h34b
          rw [hd]
          simp only [k1, k2, k3, k4, k5, k6, k7, k8, k9, partL, h1, h2, h34, hn, hdd, hde, h34b, if_true, Bool.false_eq_true, if_false, partR, tokA, str, num]
          try (have : i + 1 + n + 1 = i + (n + 2) := by omega
               rw [this]))
      · rename_i h34 h124
        have hwi : IntKind.i64.wrap ((i : Int) + 1) = ((i + 1 : Nat) : Int) := wrap_succ (by omega)
        rw [hd]
        simp only [k1, k2, k3, k4, k5, k6, k7, k8, k9, partL, h1, h2, h34, h124, if_true, Bool.false_eq_true, if_false, partR, tokA, str, num, hwi]
      · rename_i h34 h124 h125
        have hwi : IntKind.i64.wrap ((i : Int) + 1) = ((i + 1 : Nat) : Int) := wrap_succ (by omega)
        rw [hd]
        simp only [k1, k2, k3, k4, k5, k6, k7, k8, k9, partL, h1, h2, h34, h124, h125, if_true, Bool.false_eq_true, if_false, partR, tokA, str, num, hwi]
      · rename_i h34 h124 h125
        rw [hd]
        simp only [k1, k2, k3, k4, k5, k6, k7, k8, k9, partL, h1, h2, h34, h124, h125, Bool.false_eq_true, if_false, partR, tokA, str, num]
    · repeat' first | with_reducible refine asq_dmk (fun _ => ?_) (fun _ => ?_) | with_reducible refine asq_ndmk (fun _ => ?_) (fun _ => ?_) | with_reducible refine asq_nmk (fun _ => ?_) (fun _ => ?_) | with_reducible refine asq_mk (fun _ => ?_) (fun _ => ?_) | with_reducible refine asp_dmk (fun _ => ?_) (fun _ => ?_) | with_reducible refine asp_ndmk (fun _ => ?_) (fun _ => ?_) | with_reducible refine asp_nmk (fun _ => ?_) (fun _ => ?_) | with_reducible refine asp_mk (fun _ => ?_) (fun _ => ?_) | with_reducible refine And.intro (by first | omega | rfl | decide | with_unfolding_all rfl) ?_ | simp only [go_sem, Nat.reduceLT, Nat.reduceAdd, Nat.reduceSub, Nat.reduceMul, Nat.reduceLeDiff, ne_eq, Nat.reduceEqDiff, not_false_eq_true, Bool.and_true, Bool.true_and, Nat.succ_ne_self, and_true, Bool.not_true, Bool.not_false, Int.toNat_zero, Int.reduceToNat, Nat.mul_one, Int.toNat_one]
      refine (run31 s i 33 digI digit33 (by omega) hs).mono ?_
      rintro r rfl
      obtain ⟨n, hn⟩ : ∃ n, runI digI (s.drop i) = n := ⟨_, rfl⟩
      have hnl : n ≤ s.length - i := by have := runI_le digI (s.drop i); simp at this; omega
      have hw : IntKind.i64.wrap (((i + n : Nat) : Int) - (i : Int)) = (n : Int) := by rw [wrap_in (by omega) (by omega)]; omega
      have e1 : i + n - i = n := by omega
      simp only [hn, num]
      repeat' first | with_reducible refine asq_dmk (fun _ => ?_) (fun _ => ?_) | with_reducible refine asq_ndmk (fun _ => ?_) (fun _ => ?_) | with_reducible refine asq_nmk (fun _ => ?_) (fun _ => ?_) | with_reducible refine asq_mk (fun _ => ?_) (fun _ => ?_) | with_reducible refine asp_dmk (fun _ => ?_) (fun _ => ?_) | with_reducible refine asp_ndmk (fun _ => ?_) (fun _ => ?_) | with_reducible refine asp_nmk (fun _ => ?_) (fun _ => ?_) | with_reducible refine asp_mk (fun _ => ?_) (fun _ => ?_) | with_reducible refine And.intro (by first | omega | rfl | decide | with_unfolding_all rfl) ?_ | simp only [go_sem, Nat.reduceLT, Nat.reduceAdd, Nat.reduceSub, Nat.reduceMul, Nat.reduceLeDiff, ne_eq, Nat.reduceEqDiff, not_false_eq_true, Bool.and_true, Bool.true_and, Nat.succ_ne_self, and_true, Bool.not_true, Bool.not_false, Int.toNat_zero, Int.reduceToNat, Nat.mul_one, Int.toNat_one, hw, e1]
      · rename_i h6
        have hc : 6 < n ∨ (1 < n ∧ ((c.toNat : Nat) : Int) = 48) := by omega
        rw [hd] at hn ⊢
        simp only [partL, h1, h2, hn, hc, if_true, Bool.false_eq_true, if_false, partR, tokA, str, num]
      · rename_i h6 h11 h48
        have hc : 6 < n ∨ (1 < n ∧ ((c.toNat : Nat) : Int) = 48) := by omega
        rw [hd] at hn ⊢
        simp only [partL, h1, h2, hn, hc, if_true, Bool.false_eq_true, if_false, partR, tokA, str, num]
      · rename_i h6 h11 h48
        have hc : ¬ (6 < n ∨ (1 < n ∧ ((c.toNat : Nat) : Int) = 48)) := by omega
        rw [hd] at hn ⊢
        simp only [partL, h1, h2, hn, hc, if_true, Bool.false_eq_true, if_false, partR, tokA, str, num]
      · rename_i h6 h11
        have hc : ¬ (6 < n ∨ (1 < n ∧ ((c.toNat : Nat) : Int) = 48)) := by omega
        rw [hd] at hn ⊢
        simp only [partL, h1, h2, hn, hc, if_true, Bool.false_eq_true, if_false, partR, tokA, str, num]
  · repeat' first | with_reducible refine asq_dmk (fun _ => ?_) (fun _ => ?_) | with_reducible refine asq_ndmk (fun _ => ?_) (fun _ => ?_) | with_reducible refine asq_nmk (fun _ => ?_) (fun _ => ?_) | with_reducible refine asq_mk (fun _ => ?_) (fun _ => ?_) | with_reducible refine asp_dmk (fun _ => ?_) (fun _ => ?_) | with_reducible refine asp_ndmk (fun _ => ?_) (fun _ => ?_) | with_reducible refine asp_nmk (fun _ => ?_) (fun _ => ?_) | with_reducible refine asp_mk (fun _ => ?_) (fun _ => ?_) | with_reducible refine And.intro (by first | omega | rfl | decide | with_unfolding_all rfl) ?_ | simp only [go_sem, Nat.reduceLT, Nat.reduceAdd, Nat.reduceSub, Nat.reduceMul, Nat.reduceLeDiff, ne_eq, Nat.reduceEqDiff, not_false_eq_true, Bool.and_true, Bool.true_and, Nat.succ_ne_self, and_true, Bool.not_true, Bool.not_false, Int.toNat_zero, Int.reduceToNat, Nat.mul_one, Int.toNat_one]
    refine (run31 s i 32 nmI partn32 (by omega) hs).mono ?_
    rintro r rfl
    obtain ⟨n, hn⟩ : ∃ n, runI nmI (s.drop i) = n := ⟨_, rfl⟩
    have hnl : n ≤ s.length - i := by have := runI_le nmI (s.drop i); simp at this; omega
    have hw : IntKind.i64.wrap (((i + n : Nat) : Int) - (i : Int)) = (n : Int) := by rw [wrap_in (by omega) (by omega)]; omega
    have e1 : i + n - i = n := by omega
    simp only [hn, num]
    repeat' first | with_reducible refine asq_dmk (fun _ => ?_) (fun _ => ?_) | with_reducible refine asq_ndmk (fun _ => ?_) (fun _ => ?_) | with_reducible refine asq_nmk (fun _ => ?_) (fun _ => ?_) | with_reducible refine asq_mk (fun _ => ?_) (fun _ => ?_) | with_reducible refine asp_dmk (fun _ => ?_) (fun _ => ?_) | with_reducible refine asp_ndmk (fun _ => ?_) (fun _ => ?_) | with_reducible refine asp_nmk (fun _ => ?_) (fun _ => ?_) | with_reducible refine asp_mk (fun _ => ?_) (fun _ => ?_) | with_reducible refine And.intro (by first | omega | rfl | decide | with_unfolding_all rfl) ?_ | simp only [go_sem, Nat.reduceLT, Nat.reduceAdd, Nat.reduceSub, Nat.reduceMul, Nat.reduceLeDiff, ne_eq, Nat.reduceEqDiff, not_false_eq_true, Bool.and_true, Bool.true_and, Nat.succ_ne_self, and_true, Bool.not_true, Bool.not_false, Int.toNat_zero, Int.reduceToNat, Nat.mul_one, Int.toNat_one, hw, e1]
    · rename_i h20
      rw [hd] at hn ⊢
      have : 20 < n := by omega
      simp only [partL, h1, hn, this, if_true, partR, tokA, str, num]
    · rename_i h20
      have : ¬ 20 < n := by omega
      rw [hd] at hn ⊢
      simp only [partL, h1, hn, this, if_true, if_false, partR, tokA, str, num]
end Go.Proofs.Ytibdijaacolhkaa
