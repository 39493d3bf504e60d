/- Tokens. -/
import Derived.Test.YtibdijaacolhkaaT
import Derived.Test.YtibdijaacolhkaaA10
import Derived.Test.YtibdijaacolhkaaX5
namespace Go.Proofs.Ytibdijaacolhkaa
open Go.RowKit Go.Proofs
set_option linter.unusedSimpArgs false
set_option linter.unusedVariables false
set_option maxRecDepth 100000
set_option maxHeartbeats 4000000
theorem scan17 (s : List UInt8) (hs : s.length ≤ 1000000) : ACalls Try.prog 17 [str s] (fun r => r = .clo 22 [.elt (.agg [str s])]) := by
  refine calls_short [(1,[1],[])] ttok hmix Try.func17 (by decide) (by decide +kernel) (by simp only [Try.f17, Option.bind_some, comp, isLend, lendOf, lendX, lendC, lendH, Nat.reduceLeDiff, Nat.reduceSub, ne_eq, not_false_eq_true, and_self, cops, cguard, gslot, List.getElem?_toArray, List.getElem?_cons_succ, List.getElem?_cons_zero, vlook, tlook, cutAt_nil, cutAt, firstReg, isCut, mkSeq, Nat.reduceAdd, Nat.reduceEqDiff, reduceIte]; rfl) Try.ntmps17 Try.results17 ⟨_, rfl⟩ rfl ?_
  simp only [List.length_cons, List.length_nil, Nat.reduceAdd, Nat.reduceSub, List.replicate_succ, List.replicate_zero, List.cons_append, List.nil_append, num, str, tru]
  simp only [go_sem, Nat.reduceLT, Nat.reduceAdd, Nat.reduceSub, Nat.reduceMul, Nat.reduceLeDiff, ne_eq, Nat.reduceEqDiff, not_false_eq_true, Bool.and_true, Bool.true_and, Nat.succ_ne_self, and_true, Bool.not_true, Bool.not_false, Int.toNat_zero, Int.reduceToNat, Nat.mul_one, Int.toNat_one]
  repeat' first | with_reducible refine asq_dmk (fun _ => ?_) (fun _ => ?_) | with_reducible refine asq_ndmk (fun _ => ?_) (fun _ => ?_) | with_reducible refine asq_nmk (fun _ => ?_) (fun _ => ?_) | with_reducible refine asq_mk (fun _ => ?_) (fun _ => ?_) | with_reducible refine asp_dmk (fun _ => ?_) (fun _ => ?_) | with_reducible refine asp_ndmk (fun _ => ?_) (fun _ => ?_) | with_reducible refine asp_nmk (fun _ => ?_) (fun _ => ?_) | with_reducible refine asp_mk (fun _ => ?_) (fun _ => ?_) | with_reducible refine And.intro (by first | omega | rfl | decide | with_unfolding_all rfl) ?_ | simp only [go_sem, Nat.reduceLT, Nat.reduceAdd, Nat.reduceSub, Nat.reduceMul, Nat.reduceLeDiff, ne_eq, Nat.reduceEqDiff, not_false_eq_true, Bool.and_true, Bool.true_and, Nat.succ_ne_self, and_true, Bool.not_true, Bool.not_false, Int.toNat_zero, Int.reduceToNat, Nat.mul_one, Int.toNat_one]
def tl : List Tk → AV
  | [] => .nil
  | a :: l => .own 34 3 ((a :: l).map tk)
def tokensR (s : List UInt8) : AV := if 1000 < s.length then .tup [.nil, num 1000, num 90] else
  match (toks s).find? (fun t => decide (t.k = 0)) with
  | some t => .tup [.nil, num (t.a : Nat), num 90]
  | none => .tup [tl (toks s), num 0, num 0]
theorem scanF_len : ∀ (f : Nat) (u : List UInt8) (a : Nat) (g : Option Nat), (scanF f u a g).length ≤ f
  | 0, _, _, _ => by simp [scanF]
  | f + 1, [], _, none => by simp [scanF]
  | f + 1, [], _, some g => by simp [scanF]
  | f + 1, c :: r, a, none => by
    have h1 := scanF_len f r (a + 1) (some a)
    have h2 := scanF_len f ((c :: r).drop (litL (c :: r)).2.1) (a + (litL (c :: r)).2.1) none
    simp only [scanF]
    split
    · simp only [List.length_cons]; omega
    · split
      · simp
      · simp only [List.length_cons]; omega
  | f + 1, c :: r, a, some g => by
    have h1 := scanF_len f r (a + 1) (some g)
    simp only [scanF]
    split
    · omega
    · split
      · simp
      · rename_i k t n _
        have h2 := scanF_len f ((c :: r).drop n) (a + n) (if k = 7 then none else some g)
        simp only [List.length_cons]; omega
theorem toks_len (s : List UInt8) : (toks s).length ≤ s.length + 1 := scanF_len _ _ _ _
theorem find_first {l : List Tk} {k : Nat} {t : Tk} (hk : l[k]? = some t) (ha : ∀ u ∈ l.take k, u.k ≠ 0) (h0 : t.k = 0) : l.find? (fun t => decide (t.k = 0)) = some t := by
  have hlt : k < l.length := (List.getElem?_eq_some_iff.1 hk).1
  have he : l = l.take k ++ t :: l.drop (k + 1) := by
    have := (List.getElem?_eq_some_iff.1 hk).2
    rw [← this, List.getElem_cons_drop, List.take_append_drop]
  rw [he, List.find?_append]
  have : (l.take k).find? (fun t => decide (t.k = 0)) = none := by
    rw [List.find?_eq_none]; intro u hu; simpa using ha u hu
  rw [this]; simp [h0]
theorem take_next {l : List Tk} {k : Nat} {t : Tk} (hk : l[k]? = some t) : l.take (k + 1) = l.take k ++ [t] := by
  rw [List.take_add_one, hk]; rfl
theorem tl_nil : tl [] = .nil := rfl
theorem tl_cons (a : Tk) (l : List Tk) : tl (a :: l) = .own 34 3 (tk a :: l.map tk) := rfl
theorem tl_snoc (l : List Tk) (t : Tk) : tl (l ++ [t]) = .own 34 3 (l.map tk ++ [tk t]) := by
  cases l <;> simp [tl]
theorem tokens10 (s : List UInt8) (hs : s.length ≤ 1000000) : ACalls Try.prog 10 [str s] (fun r => r = tokensR s) := by
  refine calls_shortG [] [] [6,12,13,14,15,16,17,18,19,20,21] ttok hmix Try.func10 (by decide) (by decide +kernel) (by simp only [Try.f10, Option.bind_some, compG, ylook, compY, comp, isLend, lendOf, lendX, lendC, lendH, Nat.reduceLeDiff, Nat.reduceSub, ne_eq, not_false_eq_true, and_self, cops, cguard, gslot, List.getElem?_toArray, List.getElem?_cons_succ, List.getElem?_cons_zero, vlook, tlook, List.take_succ_cons, List.take_zero, List.drop_succ_cons, List.drop_zero, Option.map_some, Nat.reduceEqDiff, if_true, if_false, Nat.succ_ne_self, Nat.reduceAdd, reduceIte, reduceCtorEq, Bool.false_eq_true, cutAt_nil, cutAt, firstReg, isCut, mkSeq, mkSeqG]; rfl) Try.ntmps10 Try.results10 ⟨_, rfl⟩ rfl ?_
  skip
  simp only [List.length_cons, List.length_nil, Nat.reduceAdd, Nat.reduceSub, List.replicate_succ, List.replicate_zero, List.cons_append, List.nil_append, num, str, tru]
  simp (decide := true) only [mkd_eq [6] [1600006] [] [[6], [6], [], [], []], List.zip_cons_cons, List.zip_nil_left, List.zip_nil_right]
  repeat' first | with_reducible refine asq_dmk (fun _ => ?_) (fun _ => ?_) | with_reducible refine asq_ndmk (fun _ => ?_) (fun _ => ?_) | with_reducible refine asq_nmk (fun _ => ?_) (fun _ => ?_) | with_reducible refine asq_mk (fun _ => ?_) (fun _ => ?_) | with_reducible refine asp_dmk (fun _ => ?_) (fun _ => ?_) | with_reducible refine asp_ndmk (fun _ => ?_) (fun _ => ?_) | with_reducible refine asp_nmk (fun _ => ?_) (fun _ => ?_) | with_reducible refine asp_mk (fun _ => ?_) (fun _ => ?_) | with_reducible refine And.intro (by first | omega | rfl | decide | with_unfolding_all rfl) ?_ | simp only [go_sem, Nat.reduceLT, Nat.reduceAdd, Nat.reduceSub, Nat.reduceMul, Nat.reduceLeDiff, ne_eq, Nat.reduceEqDiff, not_false_eq_true, Bool.and_true, Bool.true_and, Nat.succ_ne_self, and_true, Bool.not_true, Bool.not_false, Int.toNat_zero, Int.reduceToNat, Nat.mul_one, Int.toNat_one]
  · rename_i h
    have h1 : 1000 < s.length := by omega
    simp only [tokensR, h1, if_true, num]
  · rename_i h
    have h1 : ¬ 1000 < s.length := by omega
    simp only [tokensR, h1, if_false]
    refine (scan17 s hs).mono ?_
    rintro r rfl
    repeat' first | with_reducible refine asq_dmk (fun _ => ?_) (fun _ => ?_) | with_reducible refine asq_ndmk (fun _ => ?_) (fun _ => ?_) | with_reducible refine asq_nmk (fun _ => ?_) (fun _ => ?_) | with_reducible refine asq_mk (fun _ => ?_) (fun _ => ?_) | with_reducible refine asp_dmk (fun _ => ?_) (fun _ => ?_) | with_reducible refine asp_ndmk (fun _ => ?_) (fun _ => ?_) | with_reducible refine asp_nmk (fun _ => ?_) (fun _ => ?_) | with_reducible refine asp_mk (fun _ => ?_) (fun _ => ?_) | with_reducible refine And.intro (by first | omega | rfl | decide | with_unfolding_all rfl) ?_ | simp only [go_sem, Nat.reduceLT, Nat.reduceAdd, Nat.reduceSub, Nat.reduceMul, Nat.reduceLeDiff, ne_eq, Nat.reduceEqDiff, not_false_eq_true, Bool.and_true, Bool.true_and, Nat.succ_ne_self, and_true, Bool.not_true, Bool.not_false, Int.toNat_zero, Int.reduceToNat, Nat.mul_one, Int.toNat_one]
    refine cwpG_range [false, false, false, false, false, true, true, false, false, false, false, false, true, true, true, true, true, true, true, true, true, true, false] [5] (fun k xs => xs = [.box 23 [tl ((toks s).take k)]] ∧ ∀ t ∈ (toks s).take k, t.k ≠ 0) (Nat.le_refl 23) ?_ (scan22 s hs) ?_ ?_ ?_
    · exact .inl rfl
    · refine ⟨_, ⟨rfl, by simp⟩, ?_⟩
      simp only [hvm_t, hvm_f, hvm_nil, puts_cons, puts_nil, List.set_cons_zero, List.set_cons_succ, num]
      simp only [List.take_zero, tl_nil]
      repeat first | exact Wk.nil | refine Wk.same ?_ | refine wk_any ?_
    · rintro k args xs ⟨t, hk, rfl⟩ ⟨rfl, ha⟩
      refine ⟨rfl, rfl, ?_⟩
      simp only [hvm_t, hvm_f, hvm_nil, puts_cons, puts_nil, List.set_cons_zero, List.set_cons_succ, num]
      have hlk : k < (toks s).length := (List.getElem?_eq_some_iff.1 hk).1
      have hl1 := toks_len s
      have hlt : ((toks s).take k).length = k := by simp; omega
      simp only [tk, tokA, str, num]
      rcases hp : (toks s).take k with _ | ⟨p0, pr⟩ <;> simp only [tl_nil, tl_cons]
      · repeat' first | with_reducible refine asq_dmk (fun _ => ?_) (fun _ => ?_) | with_reducible refine asq_ndmk (fun _ => ?_) (fun _ => ?_) | with_reducible refine asq_nmk (fun _ => ?_) (fun _ => ?_) | with_reducible refine asq_mk (fun _ => ?_) (fun _ => ?_) | with_reducible refine asp_dmk (fun _ => ?_) (fun _ => ?_) | with_reducible refine asp_ndmk (fun _ => ?_) (fun _ => ?_) | with_reducible refine asp_nmk (fun _ => ?_) (fun _ => ?_) | with_reducible refine asp_mk (fun _ => ?_) (fun _ => ?_) | with_reducible refine And.intro (by first | omega | rfl | decide | with_unfolding_all rfl) ?_ | simp only [go_sem, Nat.reduceLT, Nat.reduceAdd, Nat.reduceSub, Nat.reduceMul, Nat.reduceLeDiff, ne_eq, Nat.reduceEqDiff, not_false_eq_true, Bool.and_true, Bool.true_and, Nat.succ_ne_self, and_true, Bool.not_true, Bool.not_false, Int.toNat_zero, Int.reduceToNat, Nat.mul_one, Int.toNat_one, List.length_map]
        · rw [find_first hk ha (by assumption)]
        · have hlen := (List.getElem?_eq_some_iff.1 hk).1
          refine rend_mk _ ⟨rfl, ?_⟩ ?_
          · intro u hu
            rw [take_next hk, List.mem_append] at hu
            rcases hu with hu | hu
            · exact ha u hu
            · rw [List.mem_singleton] at hu; subst hu; assumption
          · simp only [hvm_t, hvm_f, hvm_nil, puts_cons, puts_nil, List.set_cons_zero, List.set_cons_succ, num]
            rw [take_next hk, hp, tl_snoc]
            repeat first | exact Wk.nil | refine Wk.same ?_ | refine wk_any ?_
      · simp only [hp, List.length_cons] at hlt
        repeat' first | with_reducible refine asq_dmk (fun _ => ?_) (fun _ => ?_) | with_reducible refine asq_ndmk (fun _ => ?_) (fun _ => ?_) | with_reducible refine asq_nmk (fun _ => ?_) (fun _ => ?_) | with_reducible refine asq_mk (fun _ => ?_) (fun _ => ?_) | with_reducible refine asp_dmk (fun _ => ?_) (fun _ => ?_) | with_reducible refine asp_ndmk (fun _ => ?_) (fun _ => ?_) | with_reducible refine asp_nmk (fun _ => ?_) (fun _ => ?_) | with_reducible refine asp_mk (fun _ => ?_) (fun _ => ?_) | with_reducible refine And.intro (by first | omega | rfl | decide | with_unfolding_all rfl) ?_ | simp only [go_sem, Nat.reduceLT, Nat.reduceAdd, Nat.reduceSub, Nat.reduceMul, Nat.reduceLeDiff, ne_eq, Nat.reduceEqDiff, not_false_eq_true, Bool.and_true, Bool.true_and, Nat.succ_ne_self, and_true, Bool.not_true, Bool.not_false, Int.toNat_zero, Int.reduceToNat, Nat.mul_one, Int.toNat_one, List.length_map, List.length_cons]
        · rw [find_first hk ha (by assumption)]
        · have hlen := (List.getElem?_eq_some_iff.1 hk).1
          refine rend_mk _ ⟨rfl, ?_⟩ ?_
          · intro u hu
            rw [take_next hk, List.mem_append] at hu
            rcases hu with hu | hu
            · exact ha u hu
            · rw [List.mem_singleton] at hu; subst hu; assumption
          · simp only [hvm_t, hvm_f, hvm_nil, puts_cons, puts_nil, List.set_cons_zero, List.set_cons_succ, num]
            rw [take_next hk, hp, tl_snoc]
            repeat first | exact Wk.nil | refine Wk.same ?_ | refine wk_any ?_
    · rintro xs ⟨rfl, ha⟩
      rw [List.take_length] at ha
      have hf : (toks s).find? (fun t => decide (t.k = 0)) = none := by
        rw [List.find?_eq_none]; intro u hu; simpa using ha u hu
      simp only [hvm_t, hvm_f, hvm_nil, puts_cons, puts_nil, List.set_cons_zero, List.set_cons_succ, num]
      simp only [List.take_length, hf, num]
      cases ht : toks s with
      | nil =>
        simp only [tl_nil, tl_cons]
        repeat' first | with_reducible refine asq_dmk (fun _ => ?_) (fun _ => ?_) | with_reducible refine asq_ndmk (fun _ => ?_) (fun _ => ?_) | with_reducible refine asq_nmk (fun _ => ?_) (fun _ => ?_) | with_reducible refine asq_mk (fun _ => ?_) (fun _ => ?_) | with_reducible refine asp_dmk (fun _ => ?_) (fun _ => ?_) | with_reducible refine asp_ndmk (fun _ => ?_) (fun _ => ?_) | with_reducible refine asp_nmk (fun _ => ?_) (fun _ => ?_) | with_reducible refine asp_mk (fun _ => ?_) (fun _ => ?_) | with_reducible refine And.intro (by first | omega | rfl | decide | with_unfolding_all rfl) ?_ | simp only [go_sem, Nat.reduceLT, Nat.reduceAdd, Nat.reduceSub, Nat.reduceMul, Nat.reduceLeDiff, ne_eq, Nat.reduceEqDiff, not_false_eq_true, Bool.and_true, Bool.true_and, Nat.succ_ne_self, and_true, Bool.not_true, Bool.not_false, Int.toNat_zero, Int.reduceToNat, Nat.mul_one, Int.toNat_one]
      | cons a l =>
        simp only [tl_nil, tl_cons]
        repeat' first | with_reducible refine asq_dmk (fun _ => ?_) (fun _ => ?_) | with_reducible refine asq_ndmk (fun _ => ?_) (fun _ => ?_) | with_reducible refine asq_nmk (fun _ => ?_) (fun _ => ?_) | with_reducible refine asq_mk (fun _ => ?_) (fun _ => ?_) | with_reducible refine asp_dmk (fun _ => ?_) (fun _ => ?_) | with_reducible refine asp_ndmk (fun _ => ?_) (fun _ => ?_) | with_reducible refine asp_nmk (fun _ => ?_) (fun _ => ?_) | with_reducible refine asp_mk (fun _ => ?_) (fun _ => ?_) | with_reducible refine And.intro (by first | omega | rfl | decide | with_unfolding_all rfl) ?_ | simp only [go_sem, Nat.reduceLT, Nat.reduceAdd, Nat.reduceSub, Nat.reduceMul, Nat.reduceLeDiff, ne_eq, Nat.reduceEqDiff, not_false_eq_true, Bool.and_true, Bool.true_and, Nat.succ_ne_self, and_true, Bool.not_true, Bool.not_false, Int.toNat_zero, Int.reduceToNat, Nat.mul_one, Int.toNat_one]
end Go.Proofs.Ytibdijaacolhkaa
