/- The reference: one token of a tag. -/
import Derived.Test.YtibdijaacolhkaaT
import Derived.Test.YtibdijaacolhkaaA10
import Derived.Test.YtibdijaacolhkaaX7
namespace Go.Proofs.Ytibdijaacolhkaa
open Go.RowKit Go.Proofs
set_option linter.unusedSimpArgs false
set_option linter.unusedVariables false
set_option maxRecDepth 100000
set_option maxHeartbeats 4000000
def oneR (i : Nat) (o : Option (Int × List UInt8 × Nat)) : AV := match o with
  | some (k, t, n) => .tup [tokA k t i, num (i + n : Nat)]
  | none => .tup [tokA 0 [] (0 : Nat), num (-1)]
theorem one27 (s : List UInt8) (i : Nat) (hi : i < s.length) (hs : s.length ≤ 1000000) : ACalls Try.prog 27 [str s, num i] (fun r => r = oneR i (partL (s.drop i))) := by
  refine calls_short [] ttok hmix Try.func27 (by decide) (by decide +kernel) (by simp only [Try.f27, Option.bind_some, comp, isLend, lendOf, lendX, lendC, lendH, Nat.reduceLeDiff, Nat.reduceSub, ne_eq, not_false_eq_true, and_self, cops, cguard, gslot, List.getElem?_toArray, List.getElem?_cons_succ, List.getElem?_cons_zero, vlook, tlook, cutAt_nil, cutAt, firstReg, isCut, mkSeq, Nat.reduceAdd, Nat.reduceEqDiff, reduceIte]; rfl) Try.ntmps27 Try.results27 ⟨_, rfl⟩ rfl ?_
  simp only [List.length_cons, List.length_nil, Nat.reduceAdd, Nat.reduceSub, List.replicate_succ, List.replicate_zero, List.cons_append, List.nil_append, num, str, tru]
  obtain ⟨c, hc0, hd⟩ := drop_cons hi
  have hr := List.drop_drop (i := 1) (j := i) (l := s)
  repeat' first | with_reducible refine asq_dmk (fun _ => ?_) (fun _ => ?_) | with_reducible refine asq_ndmk (fun _ => ?_) (fun _ => ?_) | with_reducible refine asq_nmk (fun _ => ?_) (fun _ => ?_) | with_reducible refine asq_mk (fun _ => ?_) (fun _ => ?_) | with_reducible refine asp_dmk (fun _ => ?_) (fun _ => ?_) | with_reducible refine asp_ndmk (fun _ => ?_) (fun _ => ?_) | with_reducible refine asp_nmk (fun _ => ?_) (fun _ => ?_) | with_reducible refine asp_mk (fun _ => ?_) (fun _ => ?_) | with_reducible refine And.intro (by first | omega | rfl | decide | with_unfolding_all rfl) ?_ | simp only [go_sem, Nat.reduceLT, Nat.reduceAdd, Nat.reduceSub, Nat.reduceMul, Nat.reduceLeDiff, ne_eq, Nat.reduceEqDiff, not_false_eq_true, Bool.and_true, Bool.true_and, Nat.succ_ne_self, and_true, Bool.not_true, Bool.not_false, Int.toNat_zero, Int.reduceToNat, Nat.mul_one, Int.toNat_one, hc0]
  refine (lower35 _).mono ?_
  rintro r rfl
  simp only [tru]
  cases h1 : ltrI (c.toNat : Int)
  · repeat' first | with_reducible refine asq_dmk (fun _ => ?_) (fun _ => ?_) | with_reducible refine asq_ndmk (fun _ => ?_) (fun _ => ?_) | with_reducible refine asq_nmk (fun _ => ?_) (fun _ => ?_) | with_reducible refine asq_mk (fun _ => ?_) (fun _ => ?_) | with_reducible refine asp_dmk (fun _ => ?_) (fun _ => ?_) | with_reducible refine asp_ndmk (fun _ => ?_) (fun _ => ?_) | with_reducible refine asp_nmk (fun _ => ?_) (fun _ => ?_) | with_reducible refine asp_mk (fun _ => ?_) (fun _ => ?_) | with_reducible refine And.intro (by first | omega | rfl | decide | with_unfolding_all rfl) ?_ | simp only [go_sem, Nat.reduceLT, Nat.reduceAdd, Nat.reduceSub, Nat.reduceMul, Nat.reduceLeDiff, ne_eq, Nat.reduceEqDiff, not_false_eq_true, Bool.and_true, Bool.true_and, Nat.succ_ne_self, and_true, Bool.not_true, Bool.not_false, Int.toNat_zero, Int.reduceToNat, Nat.mul_one, Int.toNat_one, hc0]
    refine (digit37 _).mono ?_
    rintro r rfl
    simp only [tru]
    cases h2 : digI (c.toNat : Int)
    · repeat' first | with_reducible refine asq_dmk (fun _ => ?_) (fun _ => ?_) | with_reducible refine asq_ndmk (fun _ => ?_) (fun _ => ?_) | with_reducible refine asq_nmk (fun _ => ?_) (fun _ => ?_) | with_reducible refine asq_mk (fun _ => ?_) (fun _ => ?_) | with_reducible refine asp_dmk (fun _ => ?_) (fun _ => ?_) | with_reducible refine asp_ndmk (fun _ => ?_) (fun _ => ?_) | with_reducible refine asp_nmk (fun _ => ?_) (fun _ => ?_) | with_reducible refine asp_mk (fun _ => ?_) (fun _ => ?_) | with_reducible refine And.intro (by first | omega | rfl | decide | with_unfolding_all rfl) ?_ | simp only [go_sem, Nat.reduceLT, Nat.reduceAdd, Nat.reduceSub, Nat.reduceMul, Nat.reduceLeDiff, ne_eq, Nat.reduceEqDiff, not_false_eq_true, Bool.and_true, Bool.true_and, Nat.succ_ne_self, and_true, Bool.not_true, Bool.not_false, Int.toNat_zero, Int.reduceToNat, Nat.mul_one, Int.toNat_one, hc0]
      · rename_i h34
        have hwi : IntKind.i64.wrap ((i : Int) + 1) = ((i + 1 : Nat) : Int) := wrap_succ (by omega)
        refine (stringEnd38 s i hi hs).mono ?_
        rintro r rfl
        obtain ⟨n, hn⟩ : ∃ n, runI stI (s.drop (i + 1)) = n := ⟨_, rfl⟩
        have hnl : n ≤ s.length - (i + 1) := by have := runI_le stI (s.drop (i + 1)); simp at this; omega
        have e1 : i + 1 + n - (i + 1) = n := by omega
        have hdd : (s.drop (i + 1)).drop n = s.drop (i + 1 + n) := by rw [List.drop_drop]
        have hwe : IntKind.i64.wrap (((i + 1 + n + 1 : Nat) : Int) - 1) = ((i + 1 + n : Nat) : Int) := by rw [wrap_in (by omega) (by omega)]; omega
        simp only [strE, hn]
        rcases hx : s.drop (i + 1 + n) with _ | ⟨d, r'⟩
        · simp only [num]
          repeat' first | with_reducible refine asq_dmk (fun _ => ?_) (fun _ => ?_) | with_reducible refine asq_ndmk (fun _ => ?_) (fun _ => ?_) | with_reducible refine asq_nmk (fun _ => ?_) (fun _ => ?_) | with_reducible refine asq_mk (fun _ => ?_) (fun _ => ?_) | with_reducible refine asp_dmk (fun _ => ?_) (fun _ => ?_) | with_reducible refine asp_ndmk (fun _ => ?_) (fun _ => ?_) | with_reducible refine asp_nmk (fun _ => ?_) (fun _ => ?_) | with_reducible refine asp_mk (fun _ => ?_) (fun _ => ?_) | with_reducible refine And.intro (by first | omega | rfl | decide | with_unfolding_all rfl) ?_ | simp only [go_sem, Nat.reduceLT, Nat.reduceAdd, Nat.reduceSub, Nat.reduceMul, Nat.reduceLeDiff, ne_eq, Nat.reduceEqDiff, not_false_eq_true, Bool.and_true, Bool.true_and, Nat.succ_ne_self, and_true, Bool.not_true, Bool.not_false, Int.toNat_zero, Int.reduceToNat, Nat.mul_one, Int.toNat_one, Int.reduceNeg, Int.reduceLT, decide_true, decide_false]
          rw [hd]
          simp only [k1, k2, k3, k4, k5, k6, k7, k8, k9, partL, h1, h2, h34, hn, hdd, hx, if_true, Bool.false_eq_true, if_false, oneR, tokA, str, num]
          try rfl
        · by_cases hd34 : ((d.toNat : Nat) : Int) = 34
          · have hnl2 : i + 1 + n < s.length := by
              have := congrArg List.length hx
              simp at this; omega
            simp only [hd34, if_true, num]
            repeat' first | with_reducible refine asq_dmk (fun _ => ?_) (fun _ => ?_) | with_reducible refine asq_ndmk (fun _ => ?_) (fun _ => ?_) | with_reducible refine asq_nmk (fun _ => ?_) (fun _ => ?_) | with_reducible refine asq_mk (fun _ => ?_) (fun _ => ?_) | with_reducible refine asp_dmk (fun _ => ?_) (fun _ => ?_) | with_reducible refine asp_ndmk (fun _ => ?_) (fun _ => ?_) | with_reducible refine asp_nmk (fun _ => ?_) (fun _ => ?_) | with_reducible refine asp_mk (fun _ => ?_) (fun _ => ?_) | with_reducible refine And.intro (by first | omega | rfl | decide | with_unfolding_all rfl) ?_ | simp only [go_sem, Nat.reduceLT, Nat.reduceAdd, Nat.reduceSub, Nat.reduceMul, Nat.reduceLeDiff, ne_eq, Nat.reduceEqDiff, not_false_eq_true, Bool.and_true, Bool.true_and, Nat.succ_ne_self, and_true, Bool.not_true, Bool.not_false, Int.toNat_zero, Int.reduceToNat, Nat.mul_one, Int.toNat_one, e1, hwi, hwe]
            all_goals try (exfalso; omega)
            rw [hd]
            simp only [k1, k2, k3, k4, k5, k6, k7, k8, k9, partL, h1, h2, h34, hn, hdd, hx, hd34, if_true, Bool.false_eq_true, if_false, oneR, tokA, str, num]
            have : i + 1 + n + 1 = i + (n + 2) := by omega
            rw [this]
          · simp only [hd34, if_false, num]
            repeat' first | with_reducible refine asq_dmk (fun _ => ?_) (fun _ => ?_) | with_reducible refine asq_ndmk (fun _ => ?_) (fun _ => ?_) | with_reducible refine asq_nmk (fun _ => ?_) (fun _ => ?_) | with_reducible refine asq_mk (fun _ => ?_) (fun _ => ?_) | with_reducible refine asp_dmk (fun _ => ?_) (fun _ => ?_) | with_reducible refine asp_ndmk (fun _ => ?_) (fun _ => ?_) | with_reducible refine asp_nmk (fun _ => ?_) (fun _ => ?_) | with_reducible refine asp_mk (fun _ => ?_) (fun _ => ?_) | with_reducible refine And.intro (by first | omega | rfl | decide | with_unfolding_all rfl) ?_ | simp only [go_sem, Nat.reduceLT, Nat.reduceAdd, Nat.reduceSub, Nat.reduceMul, Nat.reduceLeDiff, ne_eq, Nat.reduceEqDiff, not_false_eq_true, Bool.and_true, Bool.true_and, Nat.succ_ne_self, and_true, Bool.not_true, Bool.not_false, Int.toNat_zero, Int.reduceToNat, Nat.mul_one, Int.toNat_one, Int.reduceNeg, Int.reduceLT, decide_true, decide_false]
            rw [hd]
            simp only [k1, k2, k3, k4, k5, k6, k7, k8, k9, partL, h1, h2, h34, hn, hdd, hx, hd34, if_true, Bool.false_eq_true, if_false, oneR, tokA, str, num]
            try rfl
      · rename_i h34 h124
        have hwi : IntKind.i64.wrap ((i : Int) + 1) = ((i + 1 : Nat) : Int) := wrap_succ (by omega)
        rw [hd]
        simp only [k1, k2, k3, k4, k5, k6, k7, k8, k9, partL, h1, h2, h34, h124, if_true, Bool.false_eq_true, if_false, oneR, tokA, str, num, hwi]
      · rename_i h34 h124 h125
        have hwi : IntKind.i64.wrap ((i : Int) + 1) = ((i + 1 : Nat) : Int) := wrap_succ (by omega)
        rw [hd]
        simp only [k1, k2, k3, k4, k5, k6, k7, k8, k9, partL, h1, h2, h34, h124, h125, if_true, Bool.false_eq_true, if_false, oneR, tokA, str, num, hwi]
      · rename_i h34 h124 h125
        have hwi : IntKind.i64.wrap ((i : Int) + 1) = ((i + 1 : Nat) : Int) := wrap_succ (by omega)
        rw [hd]
        simp only [k1, k2, k3, k4, k5, k6, k7, k8, k9, partL, h1, h2, h34, h124, h125, if_true, Bool.false_eq_true, if_false, oneR, tokA, str, num, hwi]
        try rfl
    · repeat' first | with_reducible refine asq_dmk (fun _ => ?_) (fun _ => ?_) | with_reducible refine asq_ndmk (fun _ => ?_) (fun _ => ?_) | with_reducible refine asq_nmk (fun _ => ?_) (fun _ => ?_) | with_reducible refine asq_mk (fun _ => ?_) (fun _ => ?_) | with_reducible refine asp_dmk (fun _ => ?_) (fun _ => ?_) | with_reducible refine asp_ndmk (fun _ => ?_) (fun _ => ?_) | with_reducible refine asp_nmk (fun _ => ?_) (fun _ => ?_) | with_reducible refine asp_mk (fun _ => ?_) (fun _ => ?_) | with_reducible refine And.intro (by first | omega | rfl | decide | with_unfolding_all rfl) ?_ | simp only [go_sem, Nat.reduceLT, Nat.reduceAdd, Nat.reduceSub, Nat.reduceMul, Nat.reduceLeDiff, ne_eq, Nat.reduceEqDiff, not_false_eq_true, Bool.and_true, Bool.true_and, Nat.succ_ne_self, and_true, Bool.not_true, Bool.not_false, Int.toNat_zero, Int.reduceToNat, Nat.mul_one, Int.toNat_one, hc0]
      refine (wordEnd36 s i (by omega) hs).mono ?_
      rintro r rfl
      rw [hc0, h1, wordQ_f]
      obtain ⟨n, hn⟩ : ∃ n, runI digI (s.drop i) = n := ⟨_, rfl⟩
      have hnl : n ≤ s.length - i := by have := runI_le digI (s.drop i); simp at this; omega
      have hw : IntKind.i64.wrap (((i + n : Nat) : Int) - (i : Int)) = (n : Int) := by rw [wrap_in (by omega) (by omega)]; omega
      have e1 : i + n - i = n := by omega
      simp only [hn, num]
      repeat' first | with_reducible refine asq_dmk (fun _ => ?_) (fun _ => ?_) | with_reducible refine asq_ndmk (fun _ => ?_) (fun _ => ?_) | with_reducible refine asq_nmk (fun _ => ?_) (fun _ => ?_) | with_reducible refine asq_mk (fun _ => ?_) (fun _ => ?_) | with_reducible refine asp_dmk (fun _ => ?_) (fun _ => ?_) | with_reducible refine asp_ndmk (fun _ => ?_) (fun _ => ?_) | with_reducible refine asp_nmk (fun _ => ?_) (fun _ => ?_) | with_reducible refine asp_mk (fun _ => ?_) (fun _ => ?_) | with_reducible refine And.intro (by first | omega | rfl | decide | with_unfolding_all rfl) ?_ | simp only [go_sem, Nat.reduceLT, Nat.reduceAdd, Nat.reduceSub, Nat.reduceMul, Nat.reduceLeDiff, ne_eq, Nat.reduceEqDiff, not_false_eq_true, Bool.and_true, Bool.true_and, Nat.succ_ne_self, and_true, Bool.not_true, Bool.not_false, Int.toNat_zero, Int.reduceToNat, Nat.mul_one, Int.toNat_one, hw, e1]
      · rename_i h6
        have hc : (6 < n ∨ (1 < n ∧ ((c.toNat : Nat) : Int) = 48)) := by omega
        rw [hd] at hn ⊢
        simp only [partL, h1, h2, hn, hc, if_true, Bool.false_eq_true, if_false, oneR, tokA, str, num]
        try rfl
      · rename_i h6 h11 h48
        have hc : (6 < n ∨ (1 < n ∧ ((c.toNat : Nat) : Int) = 48)) := by omega
        rw [hd] at hn ⊢
        simp only [partL, h1, h2, hn, hc, if_true, Bool.false_eq_true, if_false, oneR, tokA, str, num]
        try rfl
      · rename_i h6 h11 h48
        have hc : ¬ (6 < n ∨ (1 < n ∧ ((c.toNat : Nat) : Int) = 48)) := by omega
        rw [hd] at hn ⊢
        simp only [partL, h1, h2, hn, hc, if_true, Bool.false_eq_true, if_false, oneR, tokA, str, num]
        try rfl
      · rename_i h6 h11
        have hc : ¬ (6 < n ∨ (1 < n ∧ ((c.toNat : Nat) : Int) = 48)) := by omega
        rw [hd] at hn ⊢
        simp only [partL, h1, h2, hn, hc, if_true, Bool.false_eq_true, if_false, oneR, tokA, str, num]
        try rfl
  · repeat' first | with_reducible refine asq_dmk (fun _ => ?_) (fun _ => ?_) | with_reducible refine asq_ndmk (fun _ => ?_) (fun _ => ?_) | with_reducible refine asq_nmk (fun _ => ?_) (fun _ => ?_) | with_reducible refine asq_mk (fun _ => ?_) (fun _ => ?_) | with_reducible refine asp_dmk (fun _ => ?_) (fun _ => ?_) | with_reducible refine asp_ndmk (fun _ => ?_) (fun _ => ?_) | with_reducible refine asp_nmk (fun _ => ?_) (fun _ => ?_) | with_reducible refine asp_mk (fun _ => ?_) (fun _ => ?_) | with_reducible refine And.intro (by first | omega | rfl | decide | with_unfolding_all rfl) ?_ | simp only [go_sem, Nat.reduceLT, Nat.reduceAdd, Nat.reduceSub, Nat.reduceMul, Nat.reduceLeDiff, ne_eq, Nat.reduceEqDiff, not_false_eq_true, Bool.and_true, Bool.true_and, Nat.succ_ne_self, and_true, Bool.not_true, Bool.not_false, Int.toNat_zero, Int.reduceToNat, Nat.mul_one, Int.toNat_one, hc0]
    refine (wordEnd36 s i (by omega) hs).mono ?_
    rintro r rfl
    rw [hc0, h1, wordQ_t]
    obtain ⟨n, hn⟩ : ∃ n, runI nmI (s.drop i) = n := ⟨_, rfl⟩
    have hnl : n ≤ s.length - i := by have := runI_le nmI (s.drop i); simp at this; omega
    have hw : IntKind.i64.wrap (((i + n : Nat) : Int) - (i : Int)) = (n : Int) := by rw [wrap_in (by omega) (by omega)]; omega
    have e1 : i + n - i = n := by omega
    simp only [hn, num]
    repeat' first | with_reducible refine asq_dmk (fun _ => ?_) (fun _ => ?_) | with_reducible refine asq_ndmk (fun _ => ?_) (fun _ => ?_) | with_reducible refine asq_nmk (fun _ => ?_) (fun _ => ?_) | with_reducible refine asq_mk (fun _ => ?_) (fun _ => ?_) | with_reducible refine asp_dmk (fun _ => ?_) (fun _ => ?_) | with_reducible refine asp_ndmk (fun _ => ?_) (fun _ => ?_) | with_reducible refine asp_nmk (fun _ => ?_) (fun _ => ?_) | with_reducible refine asp_mk (fun _ => ?_) (fun _ => ?_) | with_reducible refine And.intro (by first | omega | rfl | decide | with_unfolding_all rfl) ?_ | simp only [go_sem, Nat.reduceLT, Nat.reduceAdd, Nat.reduceSub, Nat.reduceMul, Nat.reduceLeDiff, ne_eq, Nat.reduceEqDiff, not_false_eq_true, Bool.and_true, Bool.true_and, Nat.succ_ne_self, and_true, Bool.not_true, Bool.not_false, Int.toNat_zero, Int.reduceToNat, Nat.mul_one, Int.toNat_one, hw, e1]
    · rename_i h20
      rw [hd] at hn ⊢
      have : 20 < n := by omega
      simp only [partL, h1, hn, this, if_true, if_false, oneR, tokA, str, num]
      try rfl
    · rename_i h20
      rw [hd] at hn ⊢
      have : ¬ 20 < n := by omega
      simp only [partL, h1, hn, this, if_true, if_false, oneR, tokA, str, num]
      try rfl
end Go.Proofs.Ytibdijaacolhkaa
