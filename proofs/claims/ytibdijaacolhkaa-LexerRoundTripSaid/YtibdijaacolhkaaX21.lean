/- word. -/
import Derived.Test.YtibdijaacolhkaaT
import Derived.Test.YtibdijaacolhkaaA10
import Derived.Test.YtibdijaacolhkaaX20
namespace Go.Proofs.Ytibdijaacolhkaa
open Go.RowKit Go.Proofs
set_option linter.unusedSimpArgs false
set_option linter.unusedVariables false
set_option maxRecDepth 100000
set_option maxHeartbeats 4000000
def wordN (w : List UInt8) : Prop := ∃ b : List UInt8, w = 110 :: b ∧ (∀ c ∈ b, nmI (c.toNat : Int) = true) ∧ b.length ≤ 6
def wordD (w : List UInt8) : Prop := ∃ b : List UInt8, w = 55 :: b ∧ (∀ c ∈ b, digI (c.toNat : Int) = true) ∧ b.length ≤ 5
def wordS (w : List UInt8) : Prop := (∀ c ∈ w, stI (c.toNat : Int) = true) ∧ w.length ≤ 6
def wordP (w : List UInt8) : Prop := w.length ≤ 6
theorem word21_2 (s : List UInt8) (hs : s.length ≤ 9223372036854775807) : ACalls Try.prog 21 [num 2, str s] (fun r => ∃ w, wordN w ∧ r = str w) := by
  refine calls_short [] ttok hmix Try.func21 (by decide) (by decide +kernel) (by simp only [Try.f21, Option.bind_some, comp, cops, cguard, gslot, List.getElem?_toArray, List.getElem?_cons_succ, List.getElem?_cons_zero, vlook, tlook, cutAt_nil, cutAt, firstReg, isCut, mkSeq, Nat.reduceAdd, Nat.reduceEqDiff, reduceIte]; rfl) Try.ntmps21 Try.results21 ⟨str [110], [110], ⟨[], rfl, by simp, by simp⟩, rfl⟩ rfl ?_
  simp only [List.length_cons, List.length_nil, Nat.reduceAdd, Nat.reduceSub, List.replicate_succ, List.replicate_zero, List.cons_append, List.nil_append, num, str, tru]
  repeat' first | with_reducible refine asq_dmk (fun _ => ?_) (fun _ => ?_) | with_reducible refine asq_ndmk (fun _ => ?_) (fun _ => ?_) | with_reducible refine asq_nmk (fun _ => ?_) (fun _ => ?_) | with_reducible refine asq_mk (fun _ => ?_) (fun _ => ?_) | with_reducible refine asp_dmk (fun _ => ?_) (fun _ => ?_) | with_reducible refine asp_ndmk (fun _ => ?_) (fun _ => ?_) | with_reducible refine asp_nmk (fun _ => ?_) (fun _ => ?_) | with_reducible refine asp_mk (fun _ => ?_) (fun _ => ?_) | with_reducible refine And.intro (by first | omega | rfl | decide | with_unfolding_all rfl) ?_ | simp only [go_sem, Nat.reduceLT, Nat.reduceAdd, Nat.reduceSub, Nat.reduceMul, Nat.reduceLeDiff, ne_eq, Nat.reduceEqDiff, not_false_eq_true, Bool.and_true, Bool.true_and, Nat.succ_ne_self, and_true, Bool.not_true, Bool.not_false, Int.toNat_zero, Int.reduceToNat, Nat.mul_one, Int.toNat_one]
  refine cwp_loop [false, false, false, false, false, true, true, true, true, true, true, true, true, true, true, true, true, true, true, true, true, true, true, true, true, true, true, true, true, true, true, true, true, true, true, true, true, true, true, true, true, true, true, true, true, true, true, true, true, true, true, true, true, true, true, true, true, true, false, false, false, false, false, false, false, false, false, false, false, false, false, false, false, false, false] [5, 6] (fun n xs => ∃ (j : Nat) (b : List UInt8), j ≤ s.length ∧ j ≤ 6 ∧ (∀ c ∈ b, nmI (c.toNat : Int) = true) ∧ b.length ≤ j ∧ j + n = s.length ∧ xs = [.own 5 1 (bytesA b), num j]) ⟨s.length, _, ⟨0, [], by omega, by omega, by simp, by simp, by omega, rfl⟩, ?_⟩ ?_
  · simp only [bytesA_nil]
    simp only [hvm_t, hvm_f, hvm_nil, puts_cons, puts_nil, List.set_cons_zero, List.set_cons_succ, num]
    repeat first | exact Wk.nil | refine Wk.same ?_ | refine wk_any ?_ | refine wk_nilown ?_
  · rintro n xs ⟨j, b, hjl, hj6, hb, hbl, hn, rfl⟩
    simp only [hvm_t, hvm_f, hvm_nil, puts_cons, puts_nil, List.set_cons_zero, List.set_cons_succ, num]
    by_cases hlt : j < s.length ∧ j < 6
    · have ej := eq_true (show (j : Int) < (s.length : Int) by omega)
      have ej6 := eq_true (show (j : Int) < 6 by omega)
      obtain ⟨c, hc0, hd0⟩ := drop_cons hlt.1
      have hw : IntKind.i64.wrap ((j : Int) + 1) = ((j + 1 : Nat) : Int) := wrap_succ (by omega)
      have hm : ((c.toNat : Nat) : Int).tmod 11 = ((c.toNat % 11 : Nat) : Int) := tmod_nat (n := 11) (by omega)
      have hml : c.toNat % 11 < 11 := Nat.mod_lt _ (by decide)
      have hd11 : nmI ((([97, 98, 99, 120, 121, 122, 48, 49, 56, 57, 45] : List UInt8).getD (c.toNat % 11) 0).toNat : Int) = true := by
        generalize c.toNat % 11 = m at hml
        exact (by decide : ∀ m, m < 11 → nmI ((([97, 98, 99, 120, 121, 122, 48, 49, 56, 57, 45] : List UInt8).getD m 0).toNat : Int) = true) m hml
      obtain ⟨d, hd⟩ : ∃ d, ([97, 98, 99, 120, 121, 122, 48, 49, 56, 57, 45] : List UInt8).getD (c.toNat % 11) 0 = d := ⟨_, rfl⟩
      rw [hd] at hd11
      have hsn := bytesA_snoc b d
      repeat' first | with_reducible refine asq_dmk (fun _ => ?_) (fun _ => ?_) | with_reducible refine asq_ndmk (fun _ => ?_) (fun _ => ?_) | with_reducible refine asq_nmk (fun _ => ?_) (fun _ => ?_) | with_reducible refine asq_mk (fun _ => ?_) (fun _ => ?_) | with_reducible refine asp_dmk (fun _ => ?_) (fun _ => ?_) | with_reducible refine asp_ndmk (fun _ => ?_) (fun _ => ?_) | with_reducible refine asp_nmk (fun _ => ?_) (fun _ => ?_) | with_reducible refine asp_mk (fun _ => ?_) (fun _ => ?_) | with_reducible refine And.intro (by first | omega | rfl | decide | with_unfolding_all rfl) ?_ | simp only [go_sem, Nat.reduceLT, Nat.reduceAdd, Nat.reduceSub, Nat.reduceMul, Nat.reduceLeDiff, ne_eq, Nat.reduceEqDiff, not_false_eq_true, Bool.and_true, Bool.true_and, Nat.succ_ne_self, and_true, Bool.not_true, Bool.not_false, Int.toNat_zero, Int.reduceToNat, Nat.mul_one, Int.toNat_one, hc0, hw, ej, ej6, hsn, bytesA_len, decide_true, decide_false, Int.reduceEq, Int.cast_ofNat_Int, hm, hd, Int.toNat_natCast]
      refine lend_mk (n - 1) [.own 5 1 (bytesA (b ++ [d])), num ((j + 1 : Nat) : Int)] (by omega) ⟨j + 1, b ++ [d], by omega, by omega, (fun e he => (List.mem_append.1 he).elim (hb e) (fun he => by rw [List.mem_singleton] at he; subst he; exact hd11)), by simp; omega, by omega, rfl⟩ ?_
      simp only [hvm_t, hvm_f, hvm_nil, puts_cons, puts_nil, List.set_cons_zero, List.set_cons_succ, num]
      repeat first | exact Wk.nil | refine Wk.same ?_ | refine wk_any ?_
    · rcases Nat.lt_or_ge j s.length with hjs | hjs
      · have ej := eq_true (show (j : Int) < (s.length : Int) by omega)
        have ej6 := eq_false (show ¬ (j : Int) < 6 by omega)
        repeat' first | with_reducible refine asq_dmk (fun _ => ?_) (fun _ => ?_) | with_reducible refine asq_ndmk (fun _ => ?_) (fun _ => ?_) | with_reducible refine asq_nmk (fun _ => ?_) (fun _ => ?_) | with_reducible refine asq_mk (fun _ => ?_) (fun _ => ?_) | with_reducible refine asp_dmk (fun _ => ?_) (fun _ => ?_) | with_reducible refine asp_ndmk (fun _ => ?_) (fun _ => ?_) | with_reducible refine asp_nmk (fun _ => ?_) (fun _ => ?_) | with_reducible refine asp_mk (fun _ => ?_) (fun _ => ?_) | with_reducible refine And.intro (by first | omega | rfl | decide | with_unfolding_all rfl) ?_ | simp only [go_sem, Nat.reduceLT, Nat.reduceAdd, Nat.reduceSub, Nat.reduceMul, Nat.reduceLeDiff, ne_eq, Nat.reduceEqDiff, not_false_eq_true, Bool.and_true, Bool.true_and, Nat.succ_ne_self, and_true, Bool.not_true, Bool.not_false, Int.toNat_zero, Int.reduceToNat, Nat.mul_one, Int.toNat_one, ej, ej6, bytesA_len, decide_true, decide_false, Int.reduceEq, Int.cast_ofNat_Int, List.length_take]
        exact ⟨110 :: b, ⟨b, rfl, hb, by omega⟩, rfl⟩
      · have ej := eq_false (show ¬ (j : Int) < (s.length : Int) by omega)
        repeat' first | with_reducible refine asq_dmk (fun _ => ?_) (fun _ => ?_) | with_reducible refine asq_ndmk (fun _ => ?_) (fun _ => ?_) | with_reducible refine asq_nmk (fun _ => ?_) (fun _ => ?_) | with_reducible refine asq_mk (fun _ => ?_) (fun _ => ?_) | with_reducible refine asp_dmk (fun _ => ?_) (fun _ => ?_) | with_reducible refine asp_ndmk (fun _ => ?_) (fun _ => ?_) | with_reducible refine asp_nmk (fun _ => ?_) (fun _ => ?_) | with_reducible refine asp_mk (fun _ => ?_) (fun _ => ?_) | with_reducible refine And.intro (by first | omega | rfl | decide | with_unfolding_all rfl) ?_ | simp only [go_sem, Nat.reduceLT, Nat.reduceAdd, Nat.reduceSub, Nat.reduceMul, Nat.reduceLeDiff, ne_eq, Nat.reduceEqDiff, not_false_eq_true, Bool.and_true, Bool.true_and, Nat.succ_ne_self, and_true, Bool.not_true, Bool.not_false, Int.toNat_zero, Int.reduceToNat, Nat.mul_one, Int.toNat_one, ej, bytesA_len, decide_true, decide_false, Int.reduceEq, Int.cast_ofNat_Int, List.length_take]
        exact ⟨110 :: b, ⟨b, rfl, hb, by omega⟩, rfl⟩
theorem word21_3 (s : List UInt8) (hs : s.length ≤ 9223372036854775807) : ACalls Try.prog 21 [num 3, str s] (fun r => ∃ w, wordD w ∧ r = str w) := by
  refine calls_short [] ttok hmix Try.func21 (by decide) (by decide +kernel) (by simp only [Try.f21, Option.bind_some, comp, cops, cguard, gslot, List.getElem?_toArray, List.getElem?_cons_succ, List.getElem?_cons_zero, vlook, tlook, cutAt_nil, cutAt, firstReg, isCut, mkSeq, Nat.reduceAdd, Nat.reduceEqDiff, reduceIte]; rfl) Try.ntmps21 Try.results21 ⟨str [55], [55], ⟨[], rfl, by simp, by simp⟩, rfl⟩ rfl ?_
  simp only [List.length_cons, List.length_nil, Nat.reduceAdd, Nat.reduceSub, List.replicate_succ, List.replicate_zero, List.cons_append, List.nil_append, num, str, tru]
  repeat' first | with_reducible refine asq_dmk (fun _ => ?_) (fun _ => ?_) | with_reducible refine asq_ndmk (fun _ => ?_) (fun _ => ?_) | with_reducible refine asq_nmk (fun _ => ?_) (fun _ => ?_) | with_reducible refine asq_mk (fun _ => ?_) (fun _ => ?_) | with_reducible refine asp_dmk (fun _ => ?_) (fun _ => ?_) | with_reducible refine asp_ndmk (fun _ => ?_) (fun _ => ?_) | with_reducible refine asp_nmk (fun _ => ?_) (fun _ => ?_) | with_reducible refine asp_mk (fun _ => ?_) (fun _ => ?_) | with_reducible refine And.intro (by first | omega | rfl | decide | with_unfolding_all rfl) ?_ | simp only [go_sem, Nat.reduceLT, Nat.reduceAdd, Nat.reduceSub, Nat.reduceMul, Nat.reduceLeDiff, ne_eq, Nat.reduceEqDiff, not_false_eq_true, Bool.and_true, Bool.true_and, Nat.succ_ne_self, and_true, Bool.not_true, Bool.not_false, Int.toNat_zero, Int.reduceToNat, Nat.mul_one, Int.toNat_one]
  refine cwp_loop [false, false, false, false, false, true, true, true, true, true, true, true, true, true, true, true, true, true, true, true, true, true, true, true, true, true, true, true, true, true, true, true, true, true, true, true, true, true, true, true, true, true, true, true, true, true, true, true, true, true, true, true, true, true, true, true, true, true, false, false, false, false, false, false, false, false, false, false, false, false, false, false, false, false, false] [5, 6] (fun n xs => ∃ (j : Nat) (b : List UInt8), j ≤ s.length ∧ j ≤ 6 ∧ (∀ c ∈ b, digI (c.toNat : Int) = true) ∧ b.length ≤ j ∧ j + n = s.length ∧ xs = [.own 5 1 (bytesA b), num j]) ⟨s.length, _, ⟨0, [], by omega, by omega, by simp, by simp, by omega, rfl⟩, ?_⟩ ?_
  · simp only [bytesA_nil]
    simp only [hvm_t, hvm_f, hvm_nil, puts_cons, puts_nil, List.set_cons_zero, List.set_cons_succ, num]
    repeat first | exact Wk.nil | refine Wk.same ?_ | refine wk_any ?_ | refine wk_nilown ?_
  · rintro n xs ⟨j, b, hjl, hj6, hb, hbl, hn, rfl⟩
    simp only [hvm_t, hvm_f, hvm_nil, puts_cons, puts_nil, List.set_cons_zero, List.set_cons_succ, num]
    by_cases hlt : j < s.length ∧ j < 6
    · have ej := eq_true (show (j : Int) < (s.length : Int) by omega)
      have ej6 := eq_true (show (j : Int) < 6 by omega)
      obtain ⟨c, hc0, hd0⟩ := drop_cons hlt.1
      have hw : IntKind.i64.wrap ((j : Int) + 1) = ((j + 1 : Nat) : Int) := wrap_succ (by omega)
      have hm : ((c.toNat : Nat) : Int).tmod 10 = ((c.toNat % 10 : Nat) : Int) := tmod_nat (n := 10) (by omega)
      have hml : c.toNat % 10 < 10 := Nat.mod_lt _ (by decide)
      obtain ⟨d, hd⟩ : ∃ d : UInt8, 48 + ((c.toNat % 10 : Nat) : Int) = ((d.toNat : Nat) : Int) := u8_of (by omega) (by omega)
      have hwd : IntKind.u8.wrap (48 + ((c.toNat % 10 : Nat) : Int)) = ((d.toNat : Nat) : Int) := by rw [IntKind.wrap_u8]; omega
      have hdd : digI ((d.toNat : Nat) : Int) = true := by simp only [digI, Bool.and_eq_true, decide_eq_true_eq]; omega
      have hsn := bytesA_snoc b d
      repeat' first | with_reducible refine asq_dmk (fun _ => ?_) (fun _ => ?_) | with_reducible refine asq_ndmk (fun _ => ?_) (fun _ => ?_) | with_reducible refine asq_nmk (fun _ => ?_) (fun _ => ?_) | with_reducible refine asq_mk (fun _ => ?_) (fun _ => ?_) | with_reducible refine asp_dmk (fun _ => ?_) (fun _ => ?_) | with_reducible refine asp_ndmk (fun _ => ?_) (fun _ => ?_) | with_reducible refine asp_nmk (fun _ => ?_) (fun _ => ?_) | with_reducible refine asp_mk (fun _ => ?_) (fun _ => ?_) | with_reducible refine And.intro (by first | omega | rfl | decide | with_unfolding_all rfl) ?_ | simp only [go_sem, Nat.reduceLT, Nat.reduceAdd, Nat.reduceSub, Nat.reduceMul, Nat.reduceLeDiff, ne_eq, Nat.reduceEqDiff, not_false_eq_true, Bool.and_true, Bool.true_and, Nat.succ_ne_self, and_true, Bool.not_true, Bool.not_false, Int.toNat_zero, Int.reduceToNat, Nat.mul_one, Int.toNat_one, hc0, hw, ej, ej6, hsn, bytesA_len, decide_true, decide_false, Int.reduceEq, Int.cast_ofNat_Int, hm, hwd, Int.toNat_natCast]
      refine lend_mk (n - 1) [.own 5 1 (bytesA (b ++ [d])), num ((j + 1 : Nat) : Int)] (by omega) ⟨j + 1, b ++ [d], by omega, by omega, (fun e he => (List.mem_append.1 he).elim (hb e) (fun he => by rw [List.mem_singleton] at he; subst he; exact hdd)), by simp; omega, by omega, rfl⟩ ?_
      simp only [hvm_t, hvm_f, hvm_nil, puts_cons, puts_nil, List.set_cons_zero, List.set_cons_succ, num]
      repeat first | exact Wk.nil | refine Wk.same ?_ | refine wk_any ?_
    · have hmin : (min (b.length : Int) 5).toNat = min b.length 5 := by omega
      have htk : (bytesA b).take (min b.length 5) = bytesA (b.take 5) := by
        simp only [bytesA, List.map_take]
        rcases Nat.le_total b.length 5 with h | h
        · rw [Nat.min_eq_left h, List.take_of_length_le (by simp), List.take_of_length_le (by simpa using h)]
        · rw [Nat.min_eq_right h]
      have hml5 : min (b.length : Int) 5 ≤ (b.length : Int) := by omega
      rcases Nat.lt_or_ge j s.length with hjs | hjs
      · have ej := eq_true (show (j : Int) < (s.length : Int) by omega)
        have ej6 := eq_false (show ¬ (j : Int) < 6 by omega)
        repeat' first | with_reducible refine asq_dmk (fun _ => ?_) (fun _ => ?_) | with_reducible refine asq_ndmk (fun _ => ?_) (fun _ => ?_) | with_reducible refine asq_nmk (fun _ => ?_) (fun _ => ?_) | with_reducible refine asq_mk (fun _ => ?_) (fun _ => ?_) | with_reducible refine asp_dmk (fun _ => ?_) (fun _ => ?_) | with_reducible refine asp_ndmk (fun _ => ?_) (fun _ => ?_) | with_reducible refine asp_nmk (fun _ => ?_) (fun _ => ?_) | with_reducible refine asp_mk (fun _ => ?_) (fun _ => ?_) | with_reducible refine And.intro (by first | omega | rfl | decide | with_unfolding_all rfl) ?_ | simp only [go_sem, Nat.reduceLT, Nat.reduceAdd, Nat.reduceSub, Nat.reduceMul, Nat.reduceLeDiff, ne_eq, Nat.reduceEqDiff, not_false_eq_true, Bool.and_true, Bool.true_and, Nat.succ_ne_self, and_true, Bool.not_true, Bool.not_false, Int.toNat_zero, Int.reduceToNat, Nat.mul_one, Int.toNat_one, hmin, htk, ej, ej6, bytesA_len, decide_true, decide_false, Int.reduceEq, Int.cast_ofNat_Int, List.length_take]
        exact ⟨55 :: b.take 5, ⟨b.take 5, rfl, fun c hc => hb c (List.mem_of_mem_take hc), by rw [List.length_take]; omega⟩, rfl⟩
      · have ej := eq_false (show ¬ (j : Int) < (s.length : Int) by omega)
        repeat' first | with_reducible refine asq_dmk (fun _ => ?_) (fun _ => ?_) | with_reducible refine asq_ndmk (fun _ => ?_) (fun _ => ?_) | with_reducible refine asq_nmk (fun _ => ?_) (fun _ => ?_) | with_reducible refine asq_mk (fun _ => ?_) (fun _ => ?_) | with_reducible refine asp_dmk (fun _ => ?_) (fun _ => ?_) | with_reducible refine asp_ndmk (fun _ => ?_) (fun _ => ?_) | with_reducible refine asp_nmk (fun _ => ?_) (fun _ => ?_) | with_reducible refine asp_mk (fun _ => ?_) (fun _ => ?_) | with_reducible refine And.intro (by first | omega | rfl | decide | with_unfolding_all rfl) ?_ | simp only [go_sem, Nat.reduceLT, Nat.reduceAdd, Nat.reduceSub, Nat.reduceMul, Nat.reduceLeDiff, ne_eq, Nat.reduceEqDiff, not_false_eq_true, Bool.and_true, Bool.true_and, Nat.succ_ne_self, and_true, Bool.not_true, Bool.not_false, Int.toNat_zero, Int.reduceToNat, Nat.mul_one, Int.toNat_one, hmin, htk, ej, bytesA_len, decide_true, decide_false, Int.reduceEq, Int.cast_ofNat_Int, List.length_take]
        exact ⟨55 :: b.take 5, ⟨b.take 5, rfl, fun c hc => hb c (List.mem_of_mem_take hc), by rw [List.length_take]; omega⟩, rfl⟩
theorem word21_4 (s : List UInt8) (hs : s.length ≤ 9223372036854775807) : ACalls Try.prog 21 [num 4, str s] (fun r => ∃ w, wordS w ∧ r = str w) := by
  refine calls_short [] ttok hmix Try.func21 (by decide) (by decide +kernel) (by simp only [Try.f21, Option.bind_some, comp, cops, cguard, gslot, List.getElem?_toArray, List.getElem?_cons_succ, List.getElem?_cons_zero, vlook, tlook, cutAt_nil, cutAt, firstReg, isCut, mkSeq, Nat.reduceAdd, Nat.reduceEqDiff, reduceIte]; rfl) Try.ntmps21 Try.results21 ⟨str [], [], ⟨by simp, by simp⟩, rfl⟩ rfl ?_
  simp only [List.length_cons, List.length_nil, Nat.reduceAdd, Nat.reduceSub, List.replicate_succ, List.replicate_zero, List.cons_append, List.nil_append, num, str, tru]
  repeat' first | with_reducible refine asq_dmk (fun _ => ?_) (fun _ => ?_) | with_reducible refine asq_ndmk (fun _ => ?_) (fun _ => ?_) | with_reducible refine asq_nmk (fun _ => ?_) (fun _ => ?_) | with_reducible refine asq_mk (fun _ => ?_) (fun _ => ?_) | with_reducible refine asp_dmk (fun _ => ?_) (fun _ => ?_) | with_reducible refine asp_ndmk (fun _ => ?_) (fun _ => ?_) | with_reducible refine asp_nmk (fun _ => ?_) (fun _ => ?_) | with_reducible refine asp_mk (fun _ => ?_) (fun _ => ?_) | with_reducible refine And.intro (by first | omega | rfl | decide | with_unfolding_all rfl) ?_ | simp only [go_sem, Nat.reduceLT, Nat.reduceAdd, Nat.reduceSub, Nat.reduceMul, Nat.reduceLeDiff, ne_eq, Nat.reduceEqDiff, not_false_eq_true, Bool.and_true, Bool.true_and, Nat.succ_ne_self, and_true, Bool.not_true, Bool.not_false, Int.toNat_zero, Int.reduceToNat, Nat.mul_one, Int.toNat_one]
  refine cwp_loop [false, false, false, false, false, true, true, true, true, true, true, true, true, true, true, true, true, true, true, true, true, true, true, true, true, true, true, true, true, true, true, true, true, true, true, true, true, true, true, true, true, true, true, true, true, true, true, true, true, true, true, true, true, true, true, true, true, true, false, false, false, false, false, false, false, false, false, false, false, false, false, false, false, false, false] [5, 6] (fun n xs => ∃ (j : Nat) (b : List UInt8), j ≤ s.length ∧ j ≤ 6 ∧ (∀ c ∈ b, stI (c.toNat : Int) = true) ∧ b.length ≤ j ∧ j + n = s.length ∧ xs = [.own 5 1 (bytesA b), num j]) ⟨s.length, _, ⟨0, [], by omega, by omega, by simp, by simp, by omega, rfl⟩, ?_⟩ ?_
  · simp only [bytesA_nil]
    simp only [hvm_t, hvm_f, hvm_nil, puts_cons, puts_nil, List.set_cons_zero, List.set_cons_succ, num]
    repeat first | exact Wk.nil | refine Wk.same ?_ | refine wk_any ?_ | refine wk_nilown ?_
  · rintro n xs ⟨j, b, hjl, hj6, hb, hbl, hn, rfl⟩
    simp only [hvm_t, hvm_f, hvm_nil, puts_cons, puts_nil, List.set_cons_zero, List.set_cons_succ, num]
    by_cases hlt : j < s.length ∧ j < 6
    · have ej := eq_true (show (j : Int) < (s.length : Int) by omega)
      have ej6 := eq_true (show (j : Int) < 6 by omega)
      obtain ⟨c, hc0, hd0⟩ := drop_cons hlt.1
      have hw : IntKind.i64.wrap ((j : Int) + 1) = ((j + 1 : Nat) : Int) := wrap_succ (by omega)
      have hsn := bytesA_snoc b c
      repeat' first | with_reducible refine asq_dmk (fun _ => ?_) (fun _ => ?_) | with_reducible refine asq_ndmk (fun _ => ?_) (fun _ => ?_) | with_reducible refine asq_nmk (fun _ => ?_) (fun _ => ?_) | with_reducible refine asq_mk (fun _ => ?_) (fun _ => ?_) | with_reducible refine asp_dmk (fun _ => ?_) (fun _ => ?_) | with_reducible refine asp_ndmk (fun _ => ?_) (fun _ => ?_) | with_reducible refine asp_nmk (fun _ => ?_) (fun _ => ?_) | with_reducible refine asp_mk (fun _ => ?_) (fun _ => ?_) | with_reducible refine And.intro (by first | omega | rfl | decide | with_unfolding_all rfl) ?_ | simp only [go_sem, Nat.reduceLT, Nat.reduceAdd, Nat.reduceSub, Nat.reduceMul, Nat.reduceLeDiff, ne_eq, Nat.reduceEqDiff, not_false_eq_true, Bool.and_true, Bool.true_and, Nat.succ_ne_self, and_true, Bool.not_true, Bool.not_false, Int.toNat_zero, Int.reduceToNat, Nat.mul_one, Int.toNat_one, hc0, hw, ej, ej6, hsn, bytesA_len, decide_true, decide_false, Int.reduceEq, Int.cast_ofNat_Int]
      all_goals first
        | (have hst : stI ((c.toNat : Nat) : Int) = true := by
             simp only [stI, plnI, Bool.and_eq_true, decide_eq_true_eq, Bool.not_eq_eq_eq_not, Bool.not_true, decide_eq_false_iff_not]; omega
           refine lend_mk (n - 1) [.own 5 1 (bytesA (b ++ [c])), num ((j + 1 : Nat) : Int)] (by omega) ⟨j + 1, b ++ [c], by omega, by omega, (fun e he => (List.mem_append.1 he).elim (hb e) (fun he => by rw [List.mem_singleton] at he; subst he; exact hst)), by simp; omega, by omega, rfl⟩ ?_
           simp only [hvm_t, hvm_f, hvm_nil, puts_cons, puts_nil, List.set_cons_zero, List.set_cons_succ, num]
           repeat first | exact Wk.nil | refine Wk.same ?_ | refine wk_any ?_
           done)
        | (refine lend_mk (n - 1) [.own 5 1 (bytesA b), num ((j + 1 : Nat) : Int)] (by omega) ⟨j + 1, b, by omega, by omega, hb, by omega, by omega, rfl⟩ ?_
           simp only [hvm_t, hvm_f, hvm_nil, puts_cons, puts_nil, List.set_cons_zero, List.set_cons_succ, num]
           repeat first | exact Wk.nil | refine Wk.same ?_ | refine wk_any ?_
           done)
    · rcases Nat.lt_or_ge j s.length with hjs | hjs
      · have ej := eq_true (show (j : Int) < (s.length : Int) by omega)
        have ej6 := eq_false (show ¬ (j : Int) < 6 by omega)
        repeat' first | with_reducible refine asq_dmk (fun _ => ?_) (fun _ => ?_) | with_reducible refine asq_ndmk (fun _ => ?_) (fun _ => ?_) | with_reducible refine asq_nmk (fun _ => ?_) (fun _ => ?_) | with_reducible refine asq_mk (fun _ => ?_) (fun _ => ?_) | with_reducible refine asp_dmk (fun _ => ?_) (fun _ => ?_) | with_reducible refine asp_ndmk (fun _ => ?_) (fun _ => ?_) | with_reducible refine asp_nmk (fun _ => ?_) (fun _ => ?_) | with_reducible refine asp_mk (fun _ => ?_) (fun _ => ?_) | with_reducible refine And.intro (by first | omega | rfl | decide | with_unfolding_all rfl) ?_ | simp only [go_sem, Nat.reduceLT, Nat.reduceAdd, Nat.reduceSub, Nat.reduceMul, Nat.reduceLeDiff, ne_eq, Nat.reduceEqDiff, not_false_eq_true, Bool.and_true, Bool.true_and, Nat.succ_ne_self, and_true, Bool.not_true, Bool.not_false, Int.toNat_zero, Int.reduceToNat, Nat.mul_one, Int.toNat_one, ej, ej6, bytesA_len, decide_true, decide_false, Int.reduceEq, Int.cast_ofNat_Int, List.length_take]
        exact ⟨b, ⟨hb, by omega⟩, rfl⟩
      · have ej := eq_false (show ¬ (j : Int) < (s.length : Int) by omega)
        repeat' first | with_reducible refine asq_dmk (fun _ => ?_) (fun _ => ?_) | with_reducible refine asq_ndmk (fun _ => ?_) (fun _ => ?_) | with_reducible refine asq_nmk (fun _ => ?_) (fun _ => ?_) | with_reducible refine asq_mk (fun _ => ?_) (fun _ => ?_) | with_reducible refine asp_dmk (fun _ => ?_) (fun _ => ?_) | with_reducible refine asp_ndmk (fun _ => ?_) (fun _ => ?_) | with_reducible refine asp_nmk (fun _ => ?_) (fun _ => ?_) | with_reducible refine asp_mk (fun _ => ?_) (fun _ => ?_) | with_reducible refine And.intro (by first | omega | rfl | decide | with_unfolding_all rfl) ?_ | simp only [go_sem, Nat.reduceLT, Nat.reduceAdd, Nat.reduceSub, Nat.reduceMul, Nat.reduceLeDiff, ne_eq, Nat.reduceEqDiff, not_false_eq_true, Bool.and_true, Bool.true_and, Nat.succ_ne_self, and_true, Bool.not_true, Bool.not_false, Int.toNat_zero, Int.reduceToNat, Nat.mul_one, Int.toNat_one, ej, bytesA_len, decide_true, decide_false, Int.reduceEq, Int.cast_ofNat_Int, List.length_take]
        exact ⟨b, ⟨hb, by omega⟩, rfl⟩
theorem word21_5 (s : List UInt8) (hs : s.length ≤ 9223372036854775807) : ACalls Try.prog 21 [num 5, str s] (fun r => ∃ w, wordP w ∧ r = str w) := by
  refine calls_short [] ttok hmix Try.func21 (by decide) (by decide +kernel) (by simp only [Try.f21, Option.bind_some, comp, cops, cguard, gslot, List.getElem?_toArray, List.getElem?_cons_succ, List.getElem?_cons_zero, vlook, tlook, cutAt_nil, cutAt, firstReg, isCut, mkSeq, Nat.reduceAdd, Nat.reduceEqDiff, reduceIte]; rfl) Try.ntmps21 Try.results21 ⟨str [], [], by unfold wordP; simp, rfl⟩ rfl ?_
  simp only [List.length_cons, List.length_nil, Nat.reduceAdd, Nat.reduceSub, List.replicate_succ, List.replicate_zero, List.cons_append, List.nil_append, num, str, tru]
  repeat' first | with_reducible refine asq_dmk (fun _ => ?_) (fun _ => ?_) | with_reducible refine asq_ndmk (fun _ => ?_) (fun _ => ?_) | with_reducible refine asq_nmk (fun _ => ?_) (fun _ => ?_) | with_reducible refine asq_mk (fun _ => ?_) (fun _ => ?_) | with_reducible refine asp_dmk (fun _ => ?_) (fun _ => ?_) | with_reducible refine asp_ndmk (fun _ => ?_) (fun _ => ?_) | with_reducible refine asp_nmk (fun _ => ?_) (fun _ => ?_) | with_reducible refine asp_mk (fun _ => ?_) (fun _ => ?_) | with_reducible refine And.intro (by first | omega | rfl | decide | with_unfolding_all rfl) ?_ | simp only [go_sem, Nat.reduceLT, Nat.reduceAdd, Nat.reduceSub, Nat.reduceMul, Nat.reduceLeDiff, ne_eq, Nat.reduceEqDiff, not_false_eq_true, Bool.and_true, Bool.true_and, Nat.succ_ne_self, and_true, Bool.not_true, Bool.not_false, Int.toNat_zero, Int.reduceToNat, Nat.mul_one, Int.toNat_one]
  refine cwp_loop [false, false, false, false, false, true, true, true, true, true, true, true, true, true, true, true, true, true, true, true, true, true, true, true, true, true, true, true, true, true, true, true, true, true, true, true, true, true, true, true, true, true, true, true, true, true, true, true, true, true, true, true, true, true, true, true, true, true, false, false, false, false, false, false, false, false, false, false, false, false, false, false, false, false, false] [5, 6] (fun n xs => ∃ (j : Nat) (b : List UInt8), j ≤ s.length ∧ j ≤ 6 ∧ b.length ≤ j ∧ j + n = s.length ∧ xs = [.own 5 1 (bytesA b), num j]) ⟨s.length, _, ⟨0, [], by omega, by omega, by simp, by omega, rfl⟩, ?_⟩ ?_
  · simp only [bytesA_nil]
    simp only [hvm_t, hvm_f, hvm_nil, puts_cons, puts_nil, List.set_cons_zero, List.set_cons_succ, num]
    repeat first | exact Wk.nil | refine Wk.same ?_ | refine wk_any ?_ | refine wk_nilown ?_
  · rintro n xs ⟨j, b, hjl, hj6, hbl, hn, rfl⟩
    simp only [hvm_t, hvm_f, hvm_nil, puts_cons, puts_nil, List.set_cons_zero, List.set_cons_succ, num]
    by_cases hlt : j < s.length ∧ j < 6
    · have ej := eq_true (show (j : Int) < (s.length : Int) by omega)
      have ej6 := eq_true (show (j : Int) < 6 by omega)
      obtain ⟨c, hc0, hd0⟩ := drop_cons hlt.1
      have hw : IntKind.i64.wrap ((j : Int) + 1) = ((j + 1 : Nat) : Int) := wrap_succ (by omega)
      have hsn := bytesA_snoc b c
      repeat' first | with_reducible refine asq_dmk (fun _ => ?_) (fun _ => ?_) | with_reducible refine asq_ndmk (fun _ => ?_) (fun _ => ?_) | with_reducible refine asq_nmk (fun _ => ?_) (fun _ => ?_) | with_reducible refine asq_mk (fun _ => ?_) (fun _ => ?_) | with_reducible refine asp_dmk (fun _ => ?_) (fun _ => ?_) | with_reducible refine asp_ndmk (fun _ => ?_) (fun _ => ?_) | with_reducible refine asp_nmk (fun _ => ?_) (fun _ => ?_) | with_reducible refine asp_mk (fun _ => ?_) (fun _ => ?_) | with_reducible refine And.intro (by first | omega | rfl | decide | with_unfolding_all rfl) ?_ | simp only [go_sem, Nat.reduceLT, Nat.reduceAdd, Nat.reduceSub, Nat.reduceMul, Nat.reduceLeDiff, ne_eq, Nat.reduceEqDiff, not_false_eq_true, Bool.and_true, Bool.true_and, Nat.succ_ne_self, and_true, Bool.not_true, Bool.not_false, Int.toNat_zero, Int.reduceToNat, Nat.mul_one, Int.toNat_one, hc0, hw, ej, ej6, hsn, bytesA_len, decide_true, decide_false, Int.reduceEq, Int.cast_ofNat_Int]
      refine lend_mk (n - 1) [.own 5 1 (bytesA b), num ((j + 1 : Nat) : Int)] (by omega) ⟨j + 1, b, by omega, by omega, by omega, by omega, rfl⟩ ?_
      simp only [hvm_t, hvm_f, hvm_nil, puts_cons, puts_nil, List.set_cons_zero, List.set_cons_succ, num]
      repeat first | exact Wk.nil | refine Wk.same ?_ | refine wk_any ?_
    · rcases Nat.lt_or_ge j s.length with hjs | hjs
      · have ej := eq_true (show (j : Int) < (s.length : Int) by omega)
        have ej6 := eq_false (show ¬ (j : Int) < 6 by omega)
        repeat' first | with_reducible refine asq_dmk (fun _ => ?_) (fun _ => ?_) | with_reducible refine asq_ndmk (fun _ => ?_) (fun _ => ?_) | with_reducible refine asq_nmk (fun _ => ?_) (fun _ => ?_) | with_reducible refine asq_mk (fun _ => ?_) (fun _ => ?_) | with_reducible refine asp_dmk (fun _ => ?_) (fun _ => ?_) | with_reducible refine asp_ndmk (fun _ => ?_) (fun _ => ?_) | with_reducible refine asp_nmk (fun _ => ?_) (fun _ => ?_) | with_reducible refine asp_mk (fun _ => ?_) (fun _ => ?_) | with_reducible refine And.intro (by first | omega | rfl | decide | with_unfolding_all rfl) ?_ | simp only [go_sem, Nat.reduceLT, Nat.reduceAdd, Nat.reduceSub, Nat.reduceMul, Nat.reduceLeDiff, ne_eq, Nat.reduceEqDiff, not_false_eq_true, Bool.and_true, Bool.true_and, Nat.succ_ne_self, and_true, Bool.not_true, Bool.not_false, Int.toNat_zero, Int.reduceToNat, Nat.mul_one, Int.toNat_one, ej, ej6, bytesA_len, decide_true, decide_false, Int.reduceEq, Int.cast_ofNat_Int, List.length_take]
        exact ⟨b, by unfold wordP; omega, rfl⟩
      · have ej := eq_false (show ¬ (j : Int) < (s.length : Int) by omega)
        repeat' first | with_reducible refine asq_dmk (fun _ => ?_) (fun _ => ?_) | with_reducible refine asq_ndmk (fun _ => ?_) (fun _ => ?_) | with_reducible refine asq_nmk (fun _ => ?_) (fun _ => ?_) | with_reducible refine asq_mk (fun _ => ?_) (fun _ => ?_) | with_reducible refine asp_dmk (fun _ => ?_) (fun _ => ?_) | with_reducible refine asp_ndmk (fun _ => ?_) (fun _ => ?_) | with_reducible refine asp_nmk (fun _ => ?_) (fun _ => ?_) | with_reducible refine asp_mk (fun _ => ?_) (fun _ => ?_) | with_reducible refine And.intro (by first | omega | rfl | decide | with_unfolding_all rfl) ?_ | simp only [go_sem, Nat.reduceLT, Nat.reduceAdd, Nat.reduceSub, Nat.reduceMul, Nat.reduceLeDiff, ne_eq, Nat.reduceEqDiff, not_false_eq_true, Bool.and_true, Bool.true_and, Nat.succ_ne_self, and_true, Bool.not_true, Bool.not_false, Int.toNat_zero, Int.reduceToNat, Nat.mul_one, Int.toNat_one, ej, bytesA_len, decide_true, decide_false, Int.reduceEq, Int.cast_ofNat_Int, List.length_take]
        exact ⟨b, by unfold wordP; omega, rfl⟩
end Go.Proofs.Ytibdijaacolhkaa
