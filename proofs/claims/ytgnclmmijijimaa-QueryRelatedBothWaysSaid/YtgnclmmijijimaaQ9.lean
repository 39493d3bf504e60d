/- The reference: Page; convert. -/
import Derived.Test.YtgnclmmijijimaaT
import Derived.Test.YtgnclmmijijimaaA10
import Derived.Test.YtgnclmmijijimaaQ8
namespace Go.Proofs.Ytgnclmmijijimaa
open Go.RowKit Go.Proofs
set_option linter.unusedSimpArgs false
set_option linter.unusedVariables false
set_option maxRecDepth 100000
set_option maxHeartbeats 4000000
/-- The stories of a page, of what has been looked at. -/
def pgL {α : Type} (O : List α) (p : Int) : List α := if 1 ≤ p then (O.drop (5 * (p - 1).toNat)).take 5 else []
theorem pgL_in {α : Type} {O : List α} {x : α} {p : Int} (h : ((O.length / 5 + 1 : Nat) : Int) = p) : pgL (O ++ [x]) p = pgL O p ++ [x] := by
  subst h
  have h1 : (1 : Int) ≤ ((O.length / 5 + 1 : Nat) : Int) := by omega
  have h2 : (((O.length / 5 + 1 : Nat) : Int) - 1).toNat = O.length / 5 := by omega
  simp only [pgL, h1, if_true, h2]
  have h3 : 5 * (O.length / 5) ≤ O.length := Nat.mul_div_le _ _
  have h4 : O.length < 5 * (O.length / 5) + 5 := by omega
  rw [List.drop_append_of_le_length h3, List.take_of_length_le (by simp; omega), List.take_of_length_le (by simp; omega)]
theorem pgL_out {α : Type} {O : List α} {x : α} {p : Int} (h : ¬ ((O.length / 5 + 1 : Nat) : Int) = p) : pgL (O ++ [x]) p = pgL O p := by
  by_cases hp : 1 ≤ p
  · obtain ⟨q, rfl⟩ : ∃ q : Nat, p = ((q + 1 : Nat) : Int) := ⟨(p - 1).toNat, by omega⟩
    have h2 : (((q + 1 : Nat) : Int) - 1).toNat = q := by omega
    simp only [pgL, hp, if_true, h2]
    rcases Nat.lt_or_ge O.length (5 * q) with hl | hl
    · rw [List.drop_of_length_le (by simp; omega), List.drop_of_length_le (by omega)]
    · rw [List.drop_append_of_le_length hl, List.take_append_of_le_length (by simp; omega)]
  · simp only [pgL, hp, if_false]
theorem pgL_len {α : Type} (O : List α) (p : Int) : (pgL O p).length ≤ 5 := by
  unfold pgL; split
  · rw [List.length_take]; omega
  · simp
theorem refPage21 (L : List Sto) (tm : List AV) (v : List UInt8) (p : Int) (hl : L.length ≤ 100000) (hs : ∀ s ∈ L, StOk s) : ACalls Try.prog 21 [stA L tm, str v, num p] (fun r => r = .tup [.own 3 1 (nums (pgL ((newL v L).reverse.map (·.id)) p)), num (((newL v L).length + 4) / 5 : Nat)]) := by
  simp only [stA]
  refine calls_short [] ttok hmix Try.func21 (by decide) (by decide +kernel) (by simp only [Try.f21, Option.bind_some, comp, cops, cguard, gslot, List.getElem?_toArray, List.getElem?_cons_succ, List.getElem?_cons_zero, vlook, tlook, cutAt_nil, cutAt, firstReg, isCut, mkSeq, Nat.reduceAdd, Nat.reduceEqDiff, reduceIte]; rfl) Try.ntmps21 Try.results21 ⟨_, rfl⟩ rfl ?_
  simp only [List.length_cons, List.length_nil, Nat.reduceAdd, Nat.reduceSub, List.replicate_succ, List.replicate_zero, List.cons_append, List.nil_append, num, str, tru]
  repeat' first | with_reducible refine asq_dmk (fun _ => ?_) (fun _ => ?_) | with_reducible refine asq_ndmk (fun _ => ?_) (fun _ => ?_) | with_reducible refine asq_nmk (fun _ => ?_) (fun _ => ?_) | with_reducible refine asq_mk (fun _ => ?_) (fun _ => ?_) | with_reducible refine asp_dmk (fun _ => ?_) (fun _ => ?_) | with_reducible refine asp_ndmk (fun _ => ?_) (fun _ => ?_) | with_reducible refine asp_nmk (fun _ => ?_) (fun _ => ?_) | with_reducible refine asp_mk (fun _ => ?_) (fun _ => ?_) | with_reducible refine And.intro (by first | omega | rfl | decide | with_unfolding_all rfl) ?_ | simp only [go_sem, Nat.reduceLT, Nat.reduceAdd, Nat.reduceSub, Nat.reduceMul, Nat.reduceLeDiff, ne_eq, Nat.reduceEqDiff, not_false_eq_true, Bool.and_true, Bool.true_and, Nat.succ_ne_self, and_true, Bool.not_true, Bool.not_false, Int.toNat_zero, Int.reduceToNat, Nat.mul_one, Int.toNat_one, decide_true, decide_false, Int.reduceEq, Int.cast_ofNat_Int, Bool.false_eq_true, Bool.not_true, Bool.not_false]
  refine ((oldest37 L tm v hl hs).wk ?_).mono ?_
  · simp only [stA, str]
    repeat first | exact Wk.nil | exact Wk.refl _ | refine wk_agg ?_ ?_ | refine wk_ownsl ?_ | refine wk_nilsl ?_ | refine Wk.same ?_
  rintro r rfl
  obtain ⟨M, hM⟩ : ∃ M, newL v L = M := ⟨_, rfl⟩
  have hMl : M.length ≤ L.length := by rw [← hM]; exact newL_len v L
  simp only [hM]
  have hwi : IntKind.i64.wrap ((M.length : Int) - 1) = (M.length : Int) - 1 := wrap_in (by omega) (by omega)
  obtain ⟨O, hO⟩ : ∃ O, M.reverse = O := ⟨_, rfl⟩
  have hOl : O.length = M.length := by rw [← hO, List.length_reverse]
  simp only [hO]
  repeat' first | with_reducible refine asq_dmk (fun _ => ?_) (fun _ => ?_) | with_reducible refine asq_ndmk (fun _ => ?_) (fun _ => ?_) | with_reducible refine asq_nmk (fun _ => ?_) (fun _ => ?_) | with_reducible refine asq_mk (fun _ => ?_) (fun _ => ?_) | with_reducible refine asp_dmk (fun _ => ?_) (fun _ => ?_) | with_reducible refine asp_ndmk (fun _ => ?_) (fun _ => ?_) | with_reducible refine asp_nmk (fun _ => ?_) (fun _ => ?_) | with_reducible refine asp_mk (fun _ => ?_) (fun _ => ?_) | with_reducible refine And.intro (by first | omega | rfl | decide | with_unfolding_all rfl) ?_ | simp only [go_sem, Nat.reduceLT, Nat.reduceAdd, Nat.reduceSub, Nat.reduceMul, Nat.reduceLeDiff, ne_eq, Nat.reduceEqDiff, not_false_eq_true, Bool.and_true, Bool.true_and, Nat.succ_ne_self, and_true, Bool.not_true, Bool.not_false, Int.toNat_zero, Int.reduceToNat, Nat.mul_one, Int.toNat_one, decide_true, decide_false, Int.reduceEq, Int.cast_ofNat_Int, Bool.false_eq_true, Bool.not_true, Bool.not_false, List.length_map]
  refine cwp_loop [false, false, false, false, false, false, false, false, false, true, true, true, false, false, false, true, true, true, true, true, true, true, true, true, true, true, true, true, true, true, true, true, true, true, true, true, true, false, false] [9, 10, 11] (fun k xs => ∃ (i : Nat), i ≤ O.length ∧ i + k = O.length ∧ xs = [num (((i + 4) / 5 : Nat) : Int), .own 3 1 (nums (pgL ((O.map (·.id)).take i) p)), num i]) ⟨O.length, _, ⟨0, by omega, by omega, rfl⟩, ?_⟩ ?_
  · have e0 : pgL (([] : List Int)) p = [] := by unfold pgL; split <;> simp
    simp only [List.take_zero, e0, nums, List.map_nil]
    simp only [hvm_t, hvm_f, hvm_nil, puts_cons, puts_nil, List.set_cons_zero, List.set_cons_succ, num]
    repeat first | exact Wk.nil | refine wk_nilown ?_ | refine Wk.same ?_ | refine wk_any ?_
  · rintro k xs ⟨i, hil, hk, rfl⟩
    have hpl := pgL_len ((O.map (·.id)).take i) p
    simp only [hvm_t, hvm_f, hvm_nil, puts_cons, puts_nil, List.set_cons_zero, List.set_cons_succ, num]
    rcases Nat.lt_or_ge i O.length with hlt | hge
    · have ej := eq_true (show (i : Int) < (O.length : Int) by omega)
      obtain ⟨s, hx⟩ : ∃ s, O[i]? = some s := ⟨_, List.getElem?_eq_getElem hlt⟩
      have hgx := sto_at hx
      simp only [num, str, tru] at hgx
      have hw : IntKind.i64.wrap ((i : Int) + 1) = ((i + 1 : Nat) : Int) := wrap_succ (by omega)
      have hm : (i : Int).tmod 5 = ((i % 5 : Nat) : Int) := tmod_nat (n := 5) (by omega)
      have htk : (O.map (·.id)).take (i + 1) = (O.map (·.id)).take i ++ [s.id] := by
        rw [List.take_add_one, List.getElem?_map, hx]; rfl
      have htl : ((O.map (·.id)).take i).length = i := by simp; omega
      have hin := pgL_in (O := (O.map (·.id)).take i) (x := s.id) (p := p)
      have hout := pgL_out (O := (O.map (·.id)).take i) (x := s.id) (p := p)
      rw [htl, ← htk] at hin hout
      by_cases h5 : i % 5 = 0
      · have e5 := eq_true (show ((i % 5 : Nat) : Int) = 0 by omega)
        have hwp : IntKind.i64.wrap (((((i + 4) / 5 : Nat) : Int)) + 1) = ((i / 5 + 1 : Nat) : Int) := by rw [wrap_in (by omega) (by omega)]; omega
        have hq : (i + 1 + 4) / 5 = i / 5 + 1 := by omega
        by_cases hp : ((i / 5 + 1 : Nat) : Int) = p
        · have ep := eq_true hp
          have hin' := hin hp
          have hsn : nums (pgL ((O.map (·.id)).take i) p) ++ [AV.raw (.int .i64 s.id)] = nums (pgL ((O.map (·.id)).take (i + 1)) p) := by
            rw [hin']; simp [nums, num]
          repeat' first | with_reducible refine asq_dmk (fun _ => ?_) (fun _ => ?_) | with_reducible refine asq_ndmk (fun _ => ?_) (fun _ => ?_) | with_reducible refine asq_nmk (fun _ => ?_) (fun _ => ?_) | with_reducible refine asq_mk (fun _ => ?_) (fun _ => ?_) | with_reducible refine asp_dmk (fun _ => ?_) (fun _ => ?_) | with_reducible refine asp_ndmk (fun _ => ?_) (fun _ => ?_) | with_reducible refine asp_nmk (fun _ => ?_) (fun _ => ?_) | with_reducible refine asp_mk (fun _ => ?_) (fun _ => ?_) | with_reducible refine And.intro (by first | omega | rfl | decide | with_unfolding_all rfl) ?_ | simp only [go_sem, Nat.reduceLT, Nat.reduceAdd, Nat.reduceSub, Nat.reduceMul, Nat.reduceLeDiff, ne_eq, Nat.reduceEqDiff, not_false_eq_true, Bool.and_true, Bool.true_and, Nat.succ_ne_self, and_true, Bool.not_true, Bool.not_false, Int.toNat_zero, Int.reduceToNat, Nat.mul_one, Int.toNat_one, decide_true, decide_false, Int.reduceEq, Int.cast_ofNat_Int, Bool.false_eq_true, Bool.not_true, Bool.not_false, ej, hgx, hw, hm, e5, hwp, ep, hsn, nums_length, List.length_map]
          refine lend_mk (k - 1) [num (((i + 1 + 4) / 5 : Nat) : Int), .own 3 1 (nums (pgL ((O.map (·.id)).take (i + 1)) p)), num ((i + 1 : Nat) : Int)] (by omega) ⟨i + 1, by omega, by omega, rfl⟩ ?_
          rw [hq]
          simp only [hvm_t, hvm_f, hvm_nil, puts_cons, puts_nil, List.set_cons_zero, List.set_cons_succ, num]
          repeat first | exact Wk.nil | refine Wk.same ?_ | refine wk_any ?_
        · have ep := eq_false hp
          repeat' first | with_reducible refine asq_dmk (fun _ => ?_) (fun _ => ?_) | with_reducible refine asq_ndmk (fun _ => ?_) (fun _ => ?_) | with_reducible refine asq_nmk (fun _ => ?_) (fun _ => ?_) | with_reducible refine asq_mk (fun _ => ?_) (fun _ => ?_) | with_reducible refine asp_dmk (fun _ => ?_) (fun _ => ?_) | with_reducible refine asp_ndmk (fun _ => ?_) (fun _ => ?_) | with_reducible refine asp_nmk (fun _ => ?_) (fun _ => ?_) | with_reducible refine asp_mk (fun _ => ?_) (fun _ => ?_) | with_reducible refine And.intro (by first | omega | rfl | decide | with_unfolding_all rfl) ?_ | simp only [go_sem, Nat.reduceLT, Nat.reduceAdd, Nat.reduceSub, Nat.reduceMul, Nat.reduceLeDiff, ne_eq, Nat.reduceEqDiff, not_false_eq_true, Bool.and_true, Bool.true_and, Nat.succ_ne_self, and_true, Bool.not_true, Bool.not_false, Int.toNat_zero, Int.reduceToNat, Nat.mul_one, Int.toNat_one, decide_true, decide_false, Int.reduceEq, Int.cast_ofNat_Int, Bool.false_eq_true, Bool.not_true, Bool.not_false, ej, hgx, hw, hm, e5, hwp, ep, nums_length, List.length_map]
          refine lend_mk (k - 1) [num (((i + 1 + 4) / 5 : Nat) : Int), .own 3 1 (nums (pgL ((O.map (·.id)).take (i + 1)) p)), num ((i + 1 : Nat) : Int)] (by omega) ⟨i + 1, by omega, by omega, rfl⟩ ?_
          rw [hq, hout hp]
          simp only [hvm_t, hvm_f, hvm_nil, puts_cons, puts_nil, List.set_cons_zero, List.set_cons_succ, num]
          repeat first | exact Wk.nil | refine Wk.same ?_ | refine wk_any ?_
      · have e5 := eq_false (show ¬ ((i % 5 : Nat) : Int) = 0 by omega)
        have hwp : (((i + 4) / 5 : Nat) : Int) = ((i / 5 + 1 : Nat) : Int) := by omega
        have hq : (i + 1 + 4) / 5 = i / 5 + 1 := by omega
        by_cases hp : ((i / 5 + 1 : Nat) : Int) = p
        · have ep := eq_true hp
          have hin' := hin hp
          have hsn : nums (pgL ((O.map (·.id)).take i) p) ++ [AV.raw (.int .i64 s.id)] = nums (pgL ((O.map (·.id)).take (i + 1)) p) := by
            rw [hin']; simp [nums, num]
          repeat' first | with_reducible refine asq_dmk (fun _ => ?_) (fun _ => ?_) | with_reducible refine asq_ndmk (fun _ => ?_) (fun _ => ?_) | with_reducible refine asq_nmk (fun _ => ?_) (fun _ => ?_) | with_reducible refine asq_mk (fun _ => ?_) (fun _ => ?_) | with_reducible refine asp_dmk (fun _ => ?_) (fun _ => ?_) | with_reducible refine asp_ndmk (fun _ => ?_) (fun _ => ?_) | with_reducible refine asp_nmk (fun _ => ?_) (fun _ => ?_) | with_reducible refine asp_mk (fun _ => ?_) (fun _ => ?_) | with_reducible refine And.intro (by first | omega | rfl | decide | with_unfolding_all rfl) ?_ | simp only [go_sem, Nat.reduceLT, Nat.reduceAdd, Nat.reduceSub, Nat.reduceMul, Nat.reduceLeDiff, ne_eq, Nat.reduceEqDiff, not_false_eq_true, Bool.and_true, Bool.true_and, Nat.succ_ne_self, and_true, Bool.not_true, Bool.not_false, Int.toNat_zero, Int.reduceToNat, Nat.mul_one, Int.toNat_one, decide_true, decide_false, Int.reduceEq, Int.cast_ofNat_Int, Bool.false_eq_true, Bool.not_true, Bool.not_false, ej, hgx, hw, hm, e5, hwp, ep, hsn, nums_length, List.length_map]
          refine lend_mk (k - 1) [num (((i + 1 + 4) / 5 : Nat) : Int), .own 3 1 (nums (pgL ((O.map (·.id)).take (i + 1)) p)), num ((i + 1 : Nat) : Int)] (by omega) ⟨i + 1, by omega, by omega, rfl⟩ ?_
          rw [hq]
          simp only [hvm_t, hvm_f, hvm_nil, puts_cons, puts_nil, List.set_cons_zero, List.set_cons_succ, num]
          repeat first | exact Wk.nil | refine Wk.same ?_ | refine wk_any ?_
        · have ep := eq_false hp
          repeat' first | with_reducible refine asq_dmk (fun _ => ?_) (fun _ => ?_) | with_reducible refine asq_ndmk (fun _ => ?_) (fun _ => ?_) | with_reducible refine asq_nmk (fun _ => ?_) (fun _ => ?_) | with_reducible refine asq_mk (fun _ => ?_) (fun _ => ?_) | with_reducible refine asp_dmk (fun _ => ?_) (fun _ => ?_) | with_reducible refine asp_ndmk (fun _ => ?_) (fun _ => ?_) | with_reducible refine asp_nmk (fun _ => ?_) (fun _ => ?_) | with_reducible refine asp_mk (fun _ => ?_) (fun _ => ?_) | with_reducible refine And.intro (by first | omega | rfl | decide | with_unfolding_all rfl) ?_ | simp only [go_sem, Nat.reduceLT, Nat.reduceAdd, Nat.reduceSub, Nat.reduceMul, Nat.reduceLeDiff, ne_eq, Nat.reduceEqDiff, not_false_eq_true, Bool.and_true, Bool.true_and, Nat.succ_ne_self, and_true, Bool.not_true, Bool.not_false, Int.toNat_zero, Int.reduceToNat, Nat.mul_one, Int.toNat_one, decide_true, decide_false, Int.reduceEq, Int.cast_ofNat_Int, Bool.false_eq_true, Bool.not_true, Bool.not_false, ej, hgx, hw, hm, e5, hwp, ep, nums_length, List.length_map]
          refine lend_mk (k - 1) [num (((i + 1 + 4) / 5 : Nat) : Int), .own 3 1 (nums (pgL ((O.map (·.id)).take (i + 1)) p)), num ((i + 1 : Nat) : Int)] (by omega) ⟨i + 1, by omega, by omega, rfl⟩ ?_
          rw [hq, hout hp]
          simp only [hvm_t, hvm_f, hvm_nil, puts_cons, puts_nil, List.set_cons_zero, List.set_cons_succ, num]
          repeat first | exact Wk.nil | refine Wk.same ?_ | refine wk_any ?_
    · have ej := eq_false (show ¬ (i : Int) < (O.length : Int) by omega)
      repeat' first | with_reducible refine asq_dmk (fun _ => ?_) (fun _ => ?_) | with_reducible refine asq_ndmk (fun _ => ?_) (fun _ => ?_) | with_reducible refine asq_nmk (fun _ => ?_) (fun _ => ?_) | with_reducible refine asq_mk (fun _ => ?_) (fun _ => ?_) | with_reducible refine asp_dmk (fun _ => ?_) (fun _ => ?_) | with_reducible refine asp_ndmk (fun _ => ?_) (fun _ => ?_) | with_reducible refine asp_nmk (fun _ => ?_) (fun _ => ?_) | with_reducible refine asp_mk (fun _ => ?_) (fun _ => ?_) | with_reducible refine And.intro (by first | omega | rfl | decide | with_unfolding_all rfl) ?_ | simp only [go_sem, Nat.reduceLT, Nat.reduceAdd, Nat.reduceSub, Nat.reduceMul, Nat.reduceLeDiff, ne_eq, Nat.reduceEqDiff, not_false_eq_true, Bool.and_true, Bool.true_and, Nat.succ_ne_self, and_true, Bool.not_true, Bool.not_false, Int.toNat_zero, Int.reduceToNat, Nat.mul_one, Int.toNat_one, decide_true, decide_false, Int.reduceEq, Int.cast_ofNat_Int, Bool.false_eq_true, Bool.not_true, Bool.not_false, ej, List.length_map]
      rw [List.take_of_length_le (by simp; omega), show i = M.length by omega, ← hO]
theorem qY_at {l : List (Sto × Nat)} {j : Nat} {s : Sto} {i : Nat} (h : l[j]? = some (s, i)) : (l.map qY).getD j .any = .agg [num s.id, str s.au, .sl 1 (s.tp.map str), .sl 5 s.ed, num s.pu, .nil, tru s.re, tru s.tk, num (i : Int)] := by simp [h, qY, qst]
theorem convert35 (XS : List (Sto × Nat)) (n : Int) (hl : XS.length ≤ 1000000) : ACalls Try.prog 35 [.sl 9 (XS.map qY), num n, .raw (.func (.func 36) #[] #[])] (fun r => r = .own 3 1 (nums ((XS.map (·.1.id)).take n.toNat))) := by
  refine calls_short [] ttok hmix Try.func35 (by decide) (by decide +kernel) (by simp only [Try.f35, Option.bind_some, comp, cops, cguard, gslot, List.getElem?_toArray, List.getElem?_cons_succ, List.getElem?_cons_zero, vlook, tlook, cutAt_nil, cutAt, firstReg, isCut, mkSeq, Nat.reduceAdd, Nat.reduceEqDiff, reduceIte]; rfl) Try.ntmps35 Try.results35 ⟨_, rfl⟩ rfl ?_
  simp only [List.length_cons, List.length_nil, Nat.reduceAdd, Nat.reduceSub, List.replicate_succ, List.replicate_zero, List.cons_append, List.nil_append, num, str, tru]
  repeat' first | with_reducible refine asq_dmk (fun _ => ?_) (fun _ => ?_) | with_reducible refine asq_ndmk (fun _ => ?_) (fun _ => ?_) | with_reducible refine asq_nmk (fun _ => ?_) (fun _ => ?_) | with_reducible refine asq_mk (fun _ => ?_) (fun _ => ?_) | with_reducible refine asp_dmk (fun _ => ?_) (fun _ => ?_) | with_reducible refine asp_ndmk (fun _ => ?_) (fun _ => ?_) | with_reducible refine asp_nmk (fun _ => ?_) (fun _ => ?_) | with_reducible refine asp_mk (fun _ => ?_) (fun _ => ?_) | with_reducible refine And.intro (by first | omega | rfl | decide | with_unfolding_all rfl) ?_ | simp only [go_sem, Nat.reduceLT, Nat.reduceAdd, Nat.reduceSub, Nat.reduceMul, Nat.reduceLeDiff, ne_eq, Nat.reduceEqDiff, not_false_eq_true, Bool.and_true, Bool.true_and, Nat.succ_ne_self, and_true, Bool.not_true, Bool.not_false, Int.toNat_zero, Int.reduceToNat, Nat.mul_one, Int.toNat_one, decide_true, decide_false, Int.reduceEq, Int.cast_ofNat_Int, Bool.false_eq_true, Bool.not_true, Bool.not_false]
  refine cwp_loop [false, false, false, false, false, false, false, true, true, true, true, true, true, true, true, true, true, true, true, true, true, true, true, true, true, true, true, true, true, false] [7, 8] (fun k xs => ∃ (j : Nat), j ≤ XS.length ∧ j ≤ n.toNat ∧ j + k = XS.length ∧ xs = [.own 3 1 (nums ((XS.map (·.1.id)).take j)), num j]) ⟨XS.length, _, ⟨0, by omega, by omega, by omega, rfl⟩, ?_⟩ ?_
  · simp only [List.take_zero, nums, List.map_nil]
    simp only [hvm_t, hvm_f, hvm_nil, puts_cons, puts_nil, List.set_cons_zero, List.set_cons_succ, num]
    repeat first | exact Wk.nil | refine wk_nilown ?_ | refine Wk.same ?_ | refine wk_any ?_
  · rintro k xs ⟨j, hjl, hjn, hk, rfl⟩
    have hol : ((XS.map (·.1.id)).take j).length = j := by simp; omega
    simp only [hvm_t, hvm_f, hvm_nil, puts_cons, puts_nil, List.set_cons_zero, List.set_cons_succ, num]
    rcases Nat.lt_or_ge j n.toNat with hjt | hjg
    · have en := eq_true (show (j : Int) < n by omega)
      rcases Nat.lt_or_ge j XS.length with hlt | hge
      · have ej := eq_true (show (j : Int) < (XS.length : Int) by omega)
        obtain ⟨x, hx⟩ : ∃ x, XS[j]? = some x := ⟨_, List.getElem?_eq_getElem hlt⟩
        obtain ⟨s, i⟩ := x
        have hgx := qY_at hx
        simp only [num, str, tru] at hgx
        have hw : IntKind.i64.wrap ((j : Int) + 1) = ((j + 1 : Nat) : Int) := wrap_succ (by omega)
        have hsn : nums ((XS.map (·.1.id)).take j) ++ [AV.raw (.int .i64 s.id)] = nums ((XS.map (·.1.id)).take (j + 1)) := by
          rw [List.take_add_one, List.getElem?_map, hx]; simp [nums, num]
        repeat' first | with_reducible refine asq_dmk (fun _ => ?_) (fun _ => ?_) | with_reducible refine asq_ndmk (fun _ => ?_) (fun _ => ?_) | with_reducible refine asq_nmk (fun _ => ?_) (fun _ => ?_) | with_reducible refine asq_mk (fun _ => ?_) (fun _ => ?_) | with_reducible refine asp_dmk (fun _ => ?_) (fun _ => ?_) | with_reducible refine asp_ndmk (fun _ => ?_) (fun _ => ?_) | with_reducible refine asp_nmk (fun _ => ?_) (fun _ => ?_) | with_reducible refine asp_mk (fun _ => ?_) (fun _ => ?_) | with_reducible refine And.intro (by first | omega | rfl | decide | with_unfolding_all rfl) ?_ | simp only [go_sem, Nat.reduceLT, Nat.reduceAdd, Nat.reduceSub, Nat.reduceMul, Nat.reduceLeDiff, ne_eq, Nat.reduceEqDiff, not_false_eq_true, Bool.and_true, Bool.true_and, Nat.succ_ne_self, and_true, Bool.not_true, Bool.not_false, Int.toNat_zero, Int.reduceToNat, Nat.mul_one, Int.toNat_one, decide_true, decide_false, Int.reduceEq, Int.cast_ofNat_Int, Bool.false_eq_true, Bool.not_true, Bool.not_false, en, ej, hgx, hw, List.length_map]
        refine ((identity36 s i).wk ?_).mono ?_
        · simp only [qst, num, str, tru]
          repeat first | exact Wk.nil | exact Wk.refl _ | refine wk_agg ?_ ?_ | refine wk_ownsl ?_ | refine wk_nilsl ?_ | refine Wk.same ?_
        rintro r rfl
        simp only [num]
        repeat' first | with_reducible refine asq_dmk (fun _ => ?_) (fun _ => ?_) | with_reducible refine asq_ndmk (fun _ => ?_) (fun _ => ?_) | with_reducible refine asq_nmk (fun _ => ?_) (fun _ => ?_) | with_reducible refine asq_mk (fun _ => ?_) (fun _ => ?_) | with_reducible refine asp_dmk (fun _ => ?_) (fun _ => ?_) | with_reducible refine asp_ndmk (fun _ => ?_) (fun _ => ?_) | with_reducible refine asp_nmk (fun _ => ?_) (fun _ => ?_) | with_reducible refine asp_mk (fun _ => ?_) (fun _ => ?_) | with_reducible refine And.intro (by first | omega | rfl | decide | with_unfolding_all rfl) ?_ | simp only [go_sem, Nat.reduceLT, Nat.reduceAdd, Nat.reduceSub, Nat.reduceMul, Nat.reduceLeDiff, ne_eq, Nat.reduceEqDiff, not_false_eq_true, Bool.and_true, Bool.true_and, Nat.succ_ne_self, and_true, Bool.not_true, Bool.not_false, Int.toNat_zero, Int.reduceToNat, Nat.mul_one, Int.toNat_one, decide_true, decide_false, Int.reduceEq, Int.cast_ofNat_Int, Bool.false_eq_true, Bool.not_true, Bool.not_false, en, ej, hgx, hw, hol, hsn, nums_length, List.length_map]
        refine lend_mk (k - 1) [.own 3 1 (nums ((XS.map (·.1.id)).take (j + 1))), num ((j + 1 : Nat) : Int)] (by omega) ⟨j + 1, by omega, by omega, by omega, rfl⟩ ?_
        simp only [hvm_t, hvm_f, hvm_nil, puts_cons, puts_nil, List.set_cons_zero, List.set_cons_succ, num]
        repeat first | exact Wk.nil | refine Wk.same ?_ | refine wk_any ?_
      · have ej := eq_false (show ¬ (j : Int) < (XS.length : Int) by omega)
        repeat' first | with_reducible refine asq_dmk (fun _ => ?_) (fun _ => ?_) | with_reducible refine asq_ndmk (fun _ => ?_) (fun _ => ?_) | with_reducible refine asq_nmk (fun _ => ?_) (fun _ => ?_) | with_reducible refine asq_mk (fun _ => ?_) (fun _ => ?_) | with_reducible refine asp_dmk (fun _ => ?_) (fun _ => ?_) | with_reducible refine asp_ndmk (fun _ => ?_) (fun _ => ?_) | with_reducible refine asp_nmk (fun _ => ?_) (fun _ => ?_) | with_reducible refine asp_mk (fun _ => ?_) (fun _ => ?_) | with_reducible refine And.intro (by first | omega | rfl | decide | with_unfolding_all rfl) ?_ | simp only [go_sem, Nat.reduceLT, Nat.reduceAdd, Nat.reduceSub, Nat.reduceMul, Nat.reduceLeDiff, ne_eq, Nat.reduceEqDiff, not_false_eq_true, Bool.and_true, Bool.true_and, Nat.succ_ne_self, and_true, Bool.not_true, Bool.not_false, Int.toNat_zero, Int.reduceToNat, Nat.mul_one, Int.toNat_one, decide_true, decide_false, Int.reduceEq, Int.cast_ofNat_Int, Bool.false_eq_true, Bool.not_true, Bool.not_false, en, ej, List.length_map]
        rw [List.take_of_length_le (by simp; omega), List.take_of_length_le (by simp; omega)]
    · have en := eq_false (show ¬ (j : Int) < n by omega)
      repeat' first | with_reducible refine asq_dmk (fun _ => ?_) (fun _ => ?_) | with_reducible refine asq_ndmk (fun _ => ?_) (fun _ => ?_) | with_reducible refine asq_nmk (fun _ => ?_) (fun _ => ?_) | with_reducible refine asq_mk (fun _ => ?_) (fun _ => ?_) | with_reducible refine asp_dmk (fun _ => ?_) (fun _ => ?_) | with_reducible refine asp_ndmk (fun _ => ?_) (fun _ => ?_) | with_reducible refine asp_nmk (fun _ => ?_) (fun _ => ?_) | with_reducible refine asp_mk (fun _ => ?_) (fun _ => ?_) | with_reducible refine And.intro (by first | omega | rfl | decide | with_unfolding_all rfl) ?_ | simp only [go_sem, Nat.reduceLT, Nat.reduceAdd, Nat.reduceSub, Nat.reduceMul, Nat.reduceLeDiff, ne_eq, Nat.reduceEqDiff, not_false_eq_true, Bool.and_true, Bool.true_and, Nat.succ_ne_self, and_true, Bool.not_true, Bool.not_false, Int.toNat_zero, Int.reduceToNat, Nat.mul_one, Int.toNat_one, decide_true, decide_false, Int.reduceEq, Int.cast_ofNat_Int, Bool.false_eq_true, Bool.not_true, Bool.not_false, en, List.length_map]
      rw [show j = n.toNat by omega]
end Go.Proofs.Ytgnclmmijijimaa
