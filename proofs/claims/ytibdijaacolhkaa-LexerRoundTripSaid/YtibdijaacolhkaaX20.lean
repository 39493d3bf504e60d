/- literal, gap, word. -/
import Derived.Test.YtibdijaacolhkaaT
import Derived.Test.YtibdijaacolhkaaA10
import Derived.Test.YtibdijaacolhkaaX14
namespace Go.Proofs.Ytibdijaacolhkaa
open Go.RowKit Go.Proofs
set_option linter.unusedSimpArgs false
set_option linter.unusedVariables false
set_option maxRecDepth 100000
set_option maxHeartbeats 4000000
def pickN (a : Int) (n : Nat) : Nat := (if a < 0 then -(a + 1) else a).toNat % n
theorem pickN_lt {a : Int} {n : Nat} (h : 0 < n) : pickN a n < n := Nat.mod_lt _ h
theorem tmod_nat {x : Int} {n : Nat} (h : 0 ≤ x) : x.tmod (n : Int) = ((x.toNat % n : Nat) : Int) := by
  obtain ⟨m, rfl⟩ := Int.eq_ofNat_of_zero_le h
  rw [Int.toNat_natCast]
  exact Int.ofNat_tmod m n
theorem pick16 (a : Int) (h1 : -9223372036854775808 ≤ a) (h2 : a ≤ 9223372036854775807) (n : Nat) (hn : 0 < n) (hn2 : n ≤ 1000000) : ACalls Try.prog 16 [num a, num n] (fun r => r = num (pickN a n : Nat)) := by
  refine calls_short [] ttok hmix Try.func16 (by decide) (by decide +kernel) (by simp only [Try.f16, Option.bind_some, comp, cops, cguard, gslot, List.getElem?_toArray, List.getElem?_cons_succ, List.getElem?_cons_zero, vlook, tlook, cutAt_nil, cutAt, firstReg, isCut, mkSeq, Nat.reduceAdd, Nat.reduceEqDiff, reduceIte]; rfl) Try.ntmps16 Try.results16 ⟨_, rfl⟩ rfl ?_
  simp only [List.length_cons, List.length_nil, Nat.reduceAdd, Nat.reduceSub, List.replicate_succ, List.replicate_zero, List.cons_append, List.nil_append, num, str, tru]
  have hn0 : ¬ (n : Int) = 0 := by omega
  by_cases ha : a < 0
  · have ea := eq_true ha
    have hw1 : IntKind.i64.wrap (a + 1) = a + 1 := wrap_in (by omega) (by omega)
    have hw2 : IntKind.i64.wrap (0 - (a + 1)) = -(a + 1) := by rw [wrap_in (by omega) (by omega)]; omega
    have hm := tmod_nat (x := -(a + 1)) (n := n) (by omega)
    repeat' first | with_reducible refine asq_dmk (fun _ => ?_) (fun _ => ?_) | with_reducible refine asq_ndmk (fun _ => ?_) (fun _ => ?_) | with_reducible refine asq_nmk (fun _ => ?_) (fun _ => ?_) | with_reducible refine asq_mk (fun _ => ?_) (fun _ => ?_) | with_reducible refine asp_dmk (fun _ => ?_) (fun _ => ?_) | with_reducible refine asp_ndmk (fun _ => ?_) (fun _ => ?_) | with_reducible refine asp_nmk (fun _ => ?_) (fun _ => ?_) | with_reducible refine asp_mk (fun _ => ?_) (fun _ => ?_) | with_reducible refine And.intro (by first | omega | rfl | decide | with_unfolding_all rfl) ?_ | simp only [go_sem, Nat.reduceLT, Nat.reduceAdd, Nat.reduceSub, Nat.reduceMul, Nat.reduceLeDiff, ne_eq, Nat.reduceEqDiff, not_false_eq_true, Bool.and_true, Bool.true_and, Nat.succ_ne_self, and_true, Bool.not_true, Bool.not_false, Int.toNat_zero, Int.reduceToNat, Nat.mul_one, Int.toNat_one, ea, hw1, hw2, hm, decide_true]
    simp only [pickN, ea, if_true]
  · have ea := eq_false ha
    have hm := tmod_nat (x := a) (n := n) (by omega)
    repeat' first | with_reducible refine asq_dmk (fun _ => ?_) (fun _ => ?_) | with_reducible refine asq_ndmk (fun _ => ?_) (fun _ => ?_) | with_reducible refine asq_nmk (fun _ => ?_) (fun _ => ?_) | with_reducible refine asq_mk (fun _ => ?_) (fun _ => ?_) | with_reducible refine asp_dmk (fun _ => ?_) (fun _ => ?_) | with_reducible refine asp_ndmk (fun _ => ?_) (fun _ => ?_) | with_reducible refine asp_nmk (fun _ => ?_) (fun _ => ?_) | with_reducible refine asp_mk (fun _ => ?_) (fun _ => ?_) | with_reducible refine And.intro (by first | omega | rfl | decide | with_unfolding_all rfl) ?_ | simp only [go_sem, Nat.reduceLT, Nat.reduceAdd, Nat.reduceSub, Nat.reduceMul, Nat.reduceLeDiff, ne_eq, Nat.reduceEqDiff, not_false_eq_true, Bool.and_true, Bool.true_and, Nat.succ_ne_self, and_true, Bool.not_true, Bool.not_false, Int.toNat_zero, Int.reduceToNat, Nat.mul_one, Int.toNat_one, ea, hm, decide_false]
    simp only [pickN, ea, if_false]
theorem u8_of {m : Int} (h0 : 0 ≤ m) (h1 : m ≤ 255) : ∃ b : UInt8, m = ((b.toNat : Nat) : Int) := by
  refine ⟨UInt8.ofNat m.toNat, ?_⟩
  rw [UInt8.toNat_ofNat']
  omega
def tokensS (s : List UInt8) : AV := .tup [.sl 3 ((tokL s).1.map tk), num (tokL s).2.1, num (tokL s).2.2]
theorem tokS10 (s : List UInt8) (hs : s.length ≤ 1000000) : ACalls Try.prog 10 [str s] (fun r => r = tokensS s) :=
  (tokW10 s hs).wkr fun r hr => ⟨_, by rw [hr]; exact W1.tup (wk_ownsl (Wk.refl _)), rfl, rfl⟩
def good30 (b : List UInt8) : Prop := (∀ c ∈ b, badc c = false) ∧ b.length ≤ 30
theorem literal13 (s : List UInt8) (hs : s.length ≤ 9223372036854775807) : ACalls Try.prog 13 [str s] (fun r => ∃ b, good30 b ∧ r = str b) := by
  refine calls_short [(3,[],[3])] ttok hmix Try.func13 (by decide) (by decide +kernel) (by simp only [Try.f13, Option.bind_some, comp, cops, cguard, gslot, List.getElem?_toArray, List.getElem?_cons_succ, List.getElem?_cons_zero, vlook, tlook, cutAt_nil, cutAt, firstReg, isCut, mkSeq, Nat.reduceAdd, Nat.reduceEqDiff, reduceIte]; rfl) Try.ntmps13 Try.results13 ⟨str [], [], ⟨by simp, by simp⟩, rfl⟩ rfl ?_
  simp only [List.length_cons, List.length_nil, Nat.reduceAdd, Nat.reduceSub, List.replicate_succ, List.replicate_zero, List.cons_append, List.nil_append, num, str, tru]
  repeat' first | with_reducible refine asq_dmk (fun _ => ?_) (fun _ => ?_) | with_reducible refine asq_ndmk (fun _ => ?_) (fun _ => ?_) | with_reducible refine asq_nmk (fun _ => ?_) (fun _ => ?_) | with_reducible refine asq_mk (fun _ => ?_) (fun _ => ?_) | with_reducible refine asp_dmk (fun _ => ?_) (fun _ => ?_) | with_reducible refine asp_ndmk (fun _ => ?_) (fun _ => ?_) | with_reducible refine asp_nmk (fun _ => ?_) (fun _ => ?_) | with_reducible refine asp_mk (fun _ => ?_) (fun _ => ?_) | with_reducible refine And.intro (by first | omega | rfl | decide | with_unfolding_all rfl) ?_ | simp only [go_sem, Nat.reduceLT, Nat.reduceAdd, Nat.reduceSub, Nat.reduceMul, Nat.reduceLeDiff, ne_eq, Nat.reduceEqDiff, not_false_eq_true, Bool.and_true, Bool.true_and, Nat.succ_ne_self, and_true, Bool.not_true, Bool.not_false, Int.toNat_zero, Int.reduceToNat, Nat.mul_one, Int.toNat_one]
  refine cwp_loop [false, false, false, true, true, true, true, true, true, true, true, true, true, true, true, true, true, true, true, true, true, true, true, true, true, true, true, true, true, true, true, true, true, true, true, true, true, true, false, false] [3, 4] (fun n xs => ∃ (j : Nat) (b : List UInt8), j ≤ s.length ∧ good30 b ∧ j + n = s.length ∧ xs = [.own 5 1 (bytesA b), num j]) ⟨s.length, _, ⟨0, [], by omega, ⟨by simp, by simp⟩, by omega, rfl⟩, ?_⟩ ?_
  · simp only [bytesA_nil]
    simp only [hvm_t, hvm_f, hvm_nil, puts_cons, puts_nil, List.set_cons_zero, List.set_cons_succ, num]
    repeat first | exact Wk.nil | refine Wk.same ?_ | refine wk_any ?_ | refine wk_nilown ?_
  · rintro n xs ⟨j, b, hjl, hg, hn, rfl⟩
    obtain ⟨hg1, hg2⟩ := hg
    simp only [hvm_t, hvm_f, hvm_nil, puts_cons, puts_nil, List.set_cons_zero, List.set_cons_succ, num]
    by_cases hlt : j < s.length ∧ b.length < 30
    · have ej := eq_true (show (j : Int) < (s.length : Int) by omega)
      have ej4 := eq_true (show (b.length : Int) < 30 by omega)
      obtain ⟨c, hc0, hd⟩ := drop_cons hlt.1
      have hw : IntKind.i64.wrap ((j : Int) + 1) = ((j + 1 : Nat) : Int) := wrap_succ (by omega)
      have hsn := bytesA_snoc b c
      repeat' first | with_reducible refine asq_dmk (fun _ => ?_) (fun _ => ?_) | with_reducible refine asq_ndmk (fun _ => ?_) (fun _ => ?_) | with_reducible refine asq_nmk (fun _ => ?_) (fun _ => ?_) | with_reducible refine asq_mk (fun _ => ?_) (fun _ => ?_) | with_reducible refine asp_dmk (fun _ => ?_) (fun _ => ?_) | with_reducible refine asp_ndmk (fun _ => ?_) (fun _ => ?_) | with_reducible refine asp_nmk (fun _ => ?_) (fun _ => ?_) | with_reducible refine asp_mk (fun _ => ?_) (fun _ => ?_) | with_reducible refine And.intro (by first | omega | rfl | decide | with_unfolding_all rfl) ?_ | simp only [go_sem, Nat.reduceLT, Nat.reduceAdd, Nat.reduceSub, Nat.reduceMul, Nat.reduceLeDiff, ne_eq, Nat.reduceEqDiff, not_false_eq_true, Bool.and_true, Bool.true_and, Nat.succ_ne_self, and_true, Bool.not_true, Bool.not_false, Int.toNat_zero, Int.reduceToNat, Nat.mul_one, Int.toNat_one, hc0, hw, ej, ej4, hsn, bytesA_len, decide_true, decide_false]
      all_goals try (exfalso; omega)
      all_goals first
        | (have hb : badc c = false := badc_f (by omega)
           refine lend_mk (n - 1) [.own 5 1 (bytesA (b ++ [c])), num ((j + 1 : Nat) : Int)] (by omega) ⟨j + 1, b ++ [c], by omega, ⟨?_, by simp; omega⟩, by omega, rfl⟩ ?_
           · intro d hd; rcases List.mem_append.1 hd with hd | hd
             · exact hg1 d hd
             · rw [List.mem_singleton] at hd; subst hd; exact hb
           · simp only [hvm_t, hvm_f, hvm_nil, puts_cons, puts_nil, List.set_cons_zero, List.set_cons_succ, num]
             repeat first | exact Wk.nil | refine Wk.same ?_ | refine wk_any ?_
           done)
        | (refine lend_mk (n - 1) [.own 5 1 (bytesA b), num ((j + 1 : Nat) : Int)] (by omega) ⟨j + 1, b, by omega, ⟨hg1, hg2⟩, by omega, rfl⟩ ?_
           simp only [hvm_t, hvm_f, hvm_nil, puts_cons, puts_nil, List.set_cons_zero, List.set_cons_succ, num]
           repeat first | exact Wk.nil | refine Wk.same ?_ | refine wk_any ?_
           done)
    · rcases Nat.lt_or_ge j s.length with hjs | hjs
      · have ej := eq_true (show (j : Int) < (s.length : Int) by omega)
        have ej4 := eq_false (show ¬ (b.length : Int) < 30 by omega)
        repeat' first | with_reducible refine asq_dmk (fun _ => ?_) (fun _ => ?_) | with_reducible refine asq_ndmk (fun _ => ?_) (fun _ => ?_) | with_reducible refine asq_nmk (fun _ => ?_) (fun _ => ?_) | with_reducible refine asq_mk (fun _ => ?_) (fun _ => ?_) | with_reducible refine asp_dmk (fun _ => ?_) (fun _ => ?_) | with_reducible refine asp_ndmk (fun _ => ?_) (fun _ => ?_) | with_reducible refine asp_nmk (fun _ => ?_) (fun _ => ?_) | with_reducible refine asp_mk (fun _ => ?_) (fun _ => ?_) | with_reducible refine And.intro (by first | omega | rfl | decide | with_unfolding_all rfl) ?_ | simp only [go_sem, Nat.reduceLT, Nat.reduceAdd, Nat.reduceSub, Nat.reduceMul, Nat.reduceLeDiff, ne_eq, Nat.reduceEqDiff, not_false_eq_true, Bool.and_true, Bool.true_and, Nat.succ_ne_self, and_true, Bool.not_true, Bool.not_false, Int.toNat_zero, Int.reduceToNat, Nat.mul_one, Int.toNat_one, ej, ej4, bytesA_len, decide_true, decide_false]
        exact ⟨b, ⟨hg1, hg2⟩, rfl⟩
      · have ej := eq_false (show ¬ (j : Int) < (s.length : Int) by omega)
        repeat' first | with_reducible refine asq_dmk (fun _ => ?_) (fun _ => ?_) | with_reducible refine asq_ndmk (fun _ => ?_) (fun _ => ?_) | with_reducible refine asq_nmk (fun _ => ?_) (fun _ => ?_) | with_reducible refine asq_mk (fun _ => ?_) (fun _ => ?_) | with_reducible refine asp_dmk (fun _ => ?_) (fun _ => ?_) | with_reducible refine asp_ndmk (fun _ => ?_) (fun _ => ?_) | with_reducible refine asp_nmk (fun _ => ?_) (fun _ => ?_) | with_reducible refine asp_mk (fun _ => ?_) (fun _ => ?_) | with_reducible refine And.intro (by first | omega | rfl | decide | with_unfolding_all rfl) ?_ | simp only [go_sem, Nat.reduceLT, Nat.reduceAdd, Nat.reduceSub, Nat.reduceMul, Nat.reduceLeDiff, ne_eq, Nat.reduceEqDiff, not_false_eq_true, Bool.and_true, Bool.true_and, Nat.succ_ne_self, and_true, Bool.not_true, Bool.not_false, Int.toNat_zero, Int.reduceToNat, Nat.mul_one, Int.toNat_one, ej, decide_true, decide_false]
        exact ⟨b, ⟨hg1, hg2⟩, rfl⟩
def gapOk (must : Bool) (g : List UInt8) : Prop := (∀ c ∈ g, wsp c = true) ∧ g.length ≤ 2 ∧ (must = true → g ≠ [])
theorem gap20 (a : Int) (h1 : -9223372036854775808 ≤ a) (h2 : a ≤ 9223372036854775807) (must : Bool) : ACalls Try.prog 20 [num a, tru must] (fun r => ∃ g, gapOk must g ∧ r = str g) := by
  refine calls_short [] ttok hmix Try.func20 (by decide) (by decide +kernel) (by simp only [Try.f20, Option.bind_some, comp, cops, cguard, gslot, List.getElem?_toArray, List.getElem?_cons_succ, List.getElem?_cons_zero, vlook, tlook, cutAt_nil, cutAt, firstReg, isCut, mkSeq, Nat.reduceAdd, Nat.reduceEqDiff, reduceIte]; rfl) Try.ntmps20 Try.results20 ⟨str [32], [32], ⟨by simp [wsp], by simp, by simp⟩, rfl⟩ rfl ?_
  simp only [List.length_cons, List.length_nil, Nat.reduceAdd, Nat.reduceSub, List.replicate_succ, List.replicate_zero, List.cons_append, List.nil_append, num, str, tru]
  repeat' first | with_reducible refine asq_dmk (fun _ => ?_) (fun _ => ?_) | with_reducible refine asq_ndmk (fun _ => ?_) (fun _ => ?_) | with_reducible refine asq_nmk (fun _ => ?_) (fun _ => ?_) | with_reducible refine asq_mk (fun _ => ?_) (fun _ => ?_) | with_reducible refine asp_dmk (fun _ => ?_) (fun _ => ?_) | with_reducible refine asp_ndmk (fun _ => ?_) (fun _ => ?_) | with_reducible refine asp_nmk (fun _ => ?_) (fun _ => ?_) | with_reducible refine asp_mk (fun _ => ?_) (fun _ => ?_) | with_reducible refine And.intro (by first | omega | rfl | decide | with_unfolding_all rfl) ?_ | simp only [go_sem, Nat.reduceLT, Nat.reduceAdd, Nat.reduceSub, Nat.reduceMul, Nat.reduceLeDiff, ne_eq, Nat.reduceEqDiff, not_false_eq_true, Bool.and_true, Bool.true_and, Nat.succ_ne_self, and_true, Bool.not_true, Bool.not_false, Int.toNat_zero, Int.reduceToNat, Nat.mul_one, Int.toNat_one]
  refine (pick16 a h1 h2 4 (by omega) (by omega)).mono ?_
  rintro r rfl
  have hkl := pickN_lt (a := a) (n := 4) (by omega)
  generalize pickN a 4 = k at hkl
  simp only [num]
  obtain rfl | rfl | rfl | rfl : k = 0 ∨ k = 1 ∨ k = 2 ∨ k = 3 := by omega
  all_goals cases must
  all_goals repeat' first | with_reducible refine asq_dmk (fun _ => ?_) (fun _ => ?_) | with_reducible refine asq_ndmk (fun _ => ?_) (fun _ => ?_) | with_reducible refine asq_nmk (fun _ => ?_) (fun _ => ?_) | with_reducible refine asq_mk (fun _ => ?_) (fun _ => ?_) | with_reducible refine asp_dmk (fun _ => ?_) (fun _ => ?_) | with_reducible refine asp_ndmk (fun _ => ?_) (fun _ => ?_) | with_reducible refine asp_nmk (fun _ => ?_) (fun _ => ?_) | with_reducible refine asp_mk (fun _ => ?_) (fun _ => ?_) | with_reducible refine And.intro (by first | omega | rfl | decide | with_unfolding_all rfl) ?_ | simp only [go_sem, Nat.reduceLT, Nat.reduceAdd, Nat.reduceSub, Nat.reduceMul, Nat.reduceLeDiff, ne_eq, Nat.reduceEqDiff, not_false_eq_true, Bool.and_true, Bool.true_and, Nat.succ_ne_self, and_true, Bool.not_true, Bool.not_false, Int.toNat_zero, Int.reduceToNat, Nat.mul_one, Int.toNat_one, Int.cast_ofNat_Int, Int.reduceToNat, Int.reduceLT, Int.reduceLE]
  all_goals first
    | exact ⟨[], ⟨by simp, by simp, by simp⟩, rfl⟩
    | exact ⟨[32], ⟨by simp [wsp], by simp, by simp⟩, rfl⟩
    | exact ⟨[10], ⟨by simp [wsp], by simp, by simp⟩, rfl⟩
    | exact ⟨[32, 32], ⟨by simp [wsp], by simp, by simp⟩, rfl⟩
end Go.Proofs.Ytibdijaacolhkaa
