/- The law LexerOffsets. -/
import Derived.Test.YtibdijaacolhkaaT
import Derived.Test.YtibdijaacolhkaaA10
import Derived.Test.YtibdijaacolhkaaX15
namespace Go.Proofs.Ytibdijaacolhkaa
open Go.RowKit Go.Proofs
set_option linter.unusedSimpArgs false
set_option linter.unusedVariables false
set_option maxRecDepth 100000
set_option maxHeartbeats 4000000
def insB (g : Option Nat) : Bool := match g with
  | none => false
  | some _ => true
theorem tk_at {l : List Tk} {j : Nat} {x : Tk} (hx : l[j]? = some x) : (l.map tk).getD j .any = .agg [.raw (.int .i64 x.k), .raw (.string ⟨x.t.toArray⟩), .raw (.int .i64 (x.a : Nat))] := by simp [hx, tk, tokA, num, str]
theorem law7 (s : List UInt8) (hs : s.length ≤ 9223372036854775807) : ACalls Try.prog 7 [str s] (fun r => r = tru true) := by
  refine calls_short [] ttok hmix Try.func7 (by decide) (by decide +kernel) (by simp only [Try.f7, Option.bind_some, comp, cops, cguard, gslot, List.getElem?_toArray, List.getElem?_cons_succ, List.getElem?_cons_zero, vlook, tlook]; rfl) Try.ntmps7 Try.results7 ⟨_, rfl⟩ rfl ?_
  simp only [List.length_cons, List.length_nil, Nat.reduceAdd, Nat.reduceSub, List.replicate_succ, List.replicate_zero, List.cons_append, List.nil_append, num, str, tru]
  repeat' first | with_reducible refine asq_dmk (fun _ => ?_) (fun _ => ?_) | with_reducible refine asq_ndmk (fun _ => ?_) (fun _ => ?_) | with_reducible refine asq_nmk (fun _ => ?_) (fun _ => ?_) | with_reducible refine asq_mk (fun _ => ?_) (fun _ => ?_) | with_reducible refine asp_dmk (fun _ => ?_) (fun _ => ?_) | with_reducible refine asp_ndmk (fun _ => ?_) (fun _ => ?_) | with_reducible refine asp_nmk (fun _ => ?_) (fun _ => ?_) | with_reducible refine asp_mk (fun _ => ?_) (fun _ => ?_) | with_reducible refine And.intro (by first | omega | rfl | decide | with_unfolding_all rfl) ?_ | simp only [go_sem, Nat.reduceLT, Nat.reduceAdd, Nat.reduceSub, Nat.reduceMul, Nat.reduceLeDiff, ne_eq, Nat.reduceEqDiff, not_false_eq_true, Bool.and_true, Bool.true_and, Nat.succ_ne_self, and_true, Bool.not_true, Bool.not_false, Int.toNat_zero, Int.reduceToNat, Nat.mul_one, Int.toNat_one]
  refine sane9.mono ?_
  rintro r rfl
  simp only [tru]
  repeat' first | with_reducible refine asq_dmk (fun _ => ?_) (fun _ => ?_) | with_reducible refine asq_ndmk (fun _ => ?_) (fun _ => ?_) | with_reducible refine asq_nmk (fun _ => ?_) (fun _ => ?_) | with_reducible refine asq_mk (fun _ => ?_) (fun _ => ?_) | with_reducible refine asp_dmk (fun _ => ?_) (fun _ => ?_) | with_reducible refine asp_ndmk (fun _ => ?_) (fun _ => ?_) | with_reducible refine asp_nmk (fun _ => ?_) (fun _ => ?_) | with_reducible refine asp_mk (fun _ => ?_) (fun _ => ?_) | with_reducible refine And.intro (by first | omega | rfl | decide | with_unfolding_all rfl) ?_ | simp only [go_sem, Nat.reduceLT, Nat.reduceAdd, Nat.reduceSub, Nat.reduceMul, Nat.reduceLeDiff, ne_eq, Nat.reduceEqDiff, not_false_eq_true, Bool.and_true, Bool.true_and, Nat.succ_ne_self, and_true, Bool.not_true, Bool.not_false, Int.toNat_zero, Int.reduceToNat, Nat.mul_one, Int.toNat_one]
  have hc : (List.take (min (s.length : Int) 1000).toNat s).length ≤ 1000 := cut_len (s := s) (n := 1000)
  generalize List.take (min (s.length : Int) 1000).toNat s = t at hc
  refine (tokW10 t (by omega)).mono ?_
  rintro r rfl
  rcases tokL_cases t with ⟨x, hx⟩ | ⟨hx, hl1, hk⟩
  · simp only [tokensW, hx, num, List.map_nil]
    repeat' first | with_reducible refine asq_dmk (fun _ => ?_) (fun _ => ?_) | with_reducible refine asq_ndmk (fun _ => ?_) (fun _ => ?_) | with_reducible refine asq_nmk (fun _ => ?_) (fun _ => ?_) | with_reducible refine asq_mk (fun _ => ?_) (fun _ => ?_) | with_reducible refine asp_dmk (fun _ => ?_) (fun _ => ?_) | with_reducible refine asp_ndmk (fun _ => ?_) (fun _ => ?_) | with_reducible refine asp_nmk (fun _ => ?_) (fun _ => ?_) | with_reducible refine asp_mk (fun _ => ?_) (fun _ => ?_) | with_reducible refine And.intro (by first | omega | rfl | decide | with_unfolding_all rfl) ?_ | simp only [go_sem, Nat.reduceLT, Nat.reduceAdd, Nat.reduceSub, Nat.reduceMul, Nat.reduceLeDiff, ne_eq, Nat.reduceEqDiff, not_false_eq_true, Bool.and_true, Bool.true_and, Nat.succ_ne_self, and_true, Bool.not_true, Bool.not_false, Int.toNat_zero, Int.reduceToNat, Nat.mul_one, Int.toNat_one, Int.reduceEq, decide_false, decide_true, Int.cast_ofNat_Int, List.length_nil]
  · have htl := toks_len t
    simp only [tokensW, hx, num]
    repeat' first | with_reducible refine asq_dmk (fun _ => ?_) (fun _ => ?_) | with_reducible refine asq_ndmk (fun _ => ?_) (fun _ => ?_) | with_reducible refine asq_nmk (fun _ => ?_) (fun _ => ?_) | with_reducible refine asq_mk (fun _ => ?_) (fun _ => ?_) | with_reducible refine asp_dmk (fun _ => ?_) (fun _ => ?_) | with_reducible refine asp_ndmk (fun _ => ?_) (fun _ => ?_) | with_reducible refine asp_nmk (fun _ => ?_) (fun _ => ?_) | with_reducible refine asp_mk (fun _ => ?_) (fun _ => ?_) | with_reducible refine And.intro (by first | omega | rfl | decide | with_unfolding_all rfl) ?_ | simp only [go_sem, Nat.reduceLT, Nat.reduceAdd, Nat.reduceSub, Nat.reduceMul, Nat.reduceLeDiff, ne_eq, Nat.reduceEqDiff, not_false_eq_true, Bool.and_true, Bool.true_and, Nat.succ_ne_self, and_true, Bool.not_true, Bool.not_false, Int.toNat_zero, Int.reduceToNat, Nat.mul_one, Int.toNat_one, Int.reduceEq, decide_false, decide_true, Int.cast_ofNat_Int, List.length_nil]
    refine cwp_loop [false, false, true, false, false, true, false, false, true, true, true, true, true, true, false, false, false, false, false, false, false, false, false, false, false, false, false, false, false, false, false, false, false, false, true, true, true, true, true, true, true, true, true, true, true, true, true, true, true, true, true, true, true, true, true, true, true, true, true, true, true, true, true, true, true, true, true, true, true, true, true, true, true, true, true, true, true, true, true, true, true, true, true, true, true, true, true, true, true, true, true, true, true, true, true, true, true, true, true, true, true, true, true, true, true, true, true, true, true, true, true, true, true, true, true, true, true, true, true, true, true, true, true, true, true, true, true, true, true, true, true, true, true, true, true, true, true, false, false, false, false, false, false, false, false, false, false, false] [2, 5, 8, 9, 10] (fun n xs => ∃ (j e : Nat) (g : Option Nat) (pre : List Tk), j ≤ (toks t).length ∧ e ≤ t.length ∧ j + n = (toks t).length ∧ pre.length = j ∧ toks t = pre ++ sc (t.drop e) e g ∧ xs = [tru false, .sl 3 ((toks t).map tk), num e, tru (insB g), num j]) ⟨(toks t).length, _, ⟨0, 0, none, [], by omega, by omega, by omega, rfl, rfl, rfl⟩, ?_⟩ ?_
    · simp only [insB, tru]
      simp only [hvm_t, hvm_f, hvm_nil, puts_cons, puts_nil, List.set_cons_zero, List.set_cons_succ, num]
      repeat first | exact Wk.nil | refine wk_ownsl ?_ | refine Wk.same ?_ | refine wk_any ?_
    · rintro n xs ⟨j, e, g, pre, hjl, hel, hn, hpl, he, rfl⟩
      simp only [tru]
      simp only [hvm_t, hvm_f, hvm_nil, puts_cons, puts_nil, List.set_cons_zero, List.set_cons_succ, num]
      rcases Nat.lt_or_ge j (toks t).length with hlt | hge
      · have ej := eq_true (show (j : Int) < ((toks t).length : Int) by omega)
        obtain ⟨x, rest, hsc⟩ : ∃ x rest, sc (t.drop e) e g = x :: rest := by
          cases h : sc (t.drop e) e g with
          | nil =>
            rw [h, List.append_nil] at he
            rw [he] at hlt
            omega
          | cons x rest => exact ⟨x, rest, rfl⟩
        rw [hsc] at he
        have hx : (toks t)[j]? = some x := by rw [he, ← hpl]; simp
        have hk0 : x.k ≠ 0 := hk x (List.mem_of_getElem? hx)
        have hgx := tk_at hx
        obtain ⟨m, i1, i2, i3, i4, i5, i6, i7, g', i8, i9⟩ := sc_first _ _ e g x rest (Nat.le_refl _) hsc hk0
        rw [List.length_drop] at i1 i6
        have hw : IntKind.i64.wrap ((j : Int) + 1) = ((j + 1 : Nat) : Int) := wrap_succ (by omega)
        have e1 := eq_false (show ¬ (x.a : Int) < (e : Int) by omega)
        have e2 := eq_false (show ¬ (t.length : Int) ≤ (x.a : Int) by omega)
        repeat' first | with_reducible refine asq_dmk (fun _ => ?_) (fun _ => ?_) | with_reducible refine asq_ndmk (fun _ => ?_) (fun _ => ?_) | with_reducible refine asq_nmk (fun _ => ?_) (fun _ => ?_) | with_reducible refine asq_mk (fun _ => ?_) (fun _ => ?_) | with_reducible refine asp_dmk (fun _ => ?_) (fun _ => ?_) | with_reducible refine asp_ndmk (fun _ => ?_) (fun _ => ?_) | with_reducible refine asp_nmk (fun _ => ?_) (fun _ => ?_) | with_reducible refine asp_mk (fun _ => ?_) (fun _ => ?_) | with_reducible refine And.intro (by first | omega | rfl | decide | with_unfolding_all rfl) ?_ | simp only [go_sem, Nat.reduceLT, Nat.reduceAdd, Nat.reduceSub, Nat.reduceMul, Nat.reduceLeDiff, ne_eq, Nat.reduceEqDiff, not_false_eq_true, Bool.and_true, Bool.true_and, Nat.succ_ne_self, and_true, Bool.not_true, Bool.not_false, Int.toNat_zero, Int.reduceToNat, Nat.mul_one, Int.toNat_one, ej, e1, e2, hgx, List.length_map, decide_true, decide_false]
        have hxa : x.a ≤ 1000 := by omega
        refine cwp_loop [false, false, false, false, false, false, false, false, false, false, false, false, true, false, false, false, false, false, false, false, false, false, false, false, false, false, false, false, false, false, false, false, false, false, false, false, false, false, false, false, false, false, false, false, false, false, false, false, false, false, false, false, false, false, false, false, true, true, true, true, true, true, true, true, true, true, true, true, true, true, true, true, true, true, true, true, false, false, false, false, false, false, false, false, false, false, false, false, false, false, false, false, false, false, false, false, false, false, false, false, false, false, false, false, false, false, false, false, false, false, false, false, false, false, false, false, false, false, false, false, false, false, false, false, false, false, false, false, false, false, false, false, false, false, false, false, false, false, false, false, false, false, false, false, false, false, false, false] [12] (fun n2 xs => ∃ (k : Nat), e ≤ k ∧ k ≤ x.a ∧ k + n2 = x.a ∧ xs = [num k]) ⟨x.a - e, _, ⟨e, by omega, by omega, by omega, rfl⟩, ?_⟩ ?_

        · simp only [hvm_t, hvm_f, hvm_nil, puts_cons, puts_nil, List.set_cons_zero, List.set_cons_succ, num]
          repeat first | exact Wk.nil | refine Wk.same ?_ | refine wk_any ?_
        · rintro n2 xs2 ⟨k, hk1, hk2, hk3, rfl⟩
          simp only [hvm_t, hvm_f, hvm_nil, puts_cons, puts_nil, List.set_cons_zero, List.set_cons_succ, num]
          rcases Nat.lt_or_ge k x.a with hk4 | hk4
          · have ek := eq_true (show (k : Int) < (x.a : Int) by omega)
            obtain ⟨g0, rfl⟩ : ∃ g0, g = some g0 := by
              cases g with
              | none => have := i4 rfl; omega
              | some g0 => exact ⟨g0, rfl⟩
            obtain ⟨c, hc0, hcw⟩ : ∃ c, t.getD k 0 = c ∧ wsp c = true := by
              refine ⟨_, rfl, i3 _ ?_⟩
              have hkt : k < t.length := by omega
              refine List.mem_of_getElem? (i := k - e) ?_
              rw [List.getElem?_take_of_lt (by omega), List.getElem?_drop, show e + (k - e) = k by omega, List.getElem?_eq_getElem hkt]
              simp [hkt]
            have hwk : IntKind.i64.wrap ((k : Int) + 1) = ((k + 1 : Nat) : Int) := wrap_succ (by omega)
            simp only [wsp, Bool.or_eq_true, decide_eq_true_eq] at hcw
            repeat' first | with_reducible refine asq_dmk (fun _ => ?_) (fun _ => ?_) | with_reducible refine asq_ndmk (fun _ => ?_) (fun _ => ?_) | with_reducible refine asq_nmk (fun _ => ?_) (fun _ => ?_) | with_reducible refine asq_mk (fun _ => ?_) (fun _ => ?_) | with_reducible refine asp_dmk (fun _ => ?_) (fun _ => ?_) | with_reducible refine asp_ndmk (fun _ => ?_) (fun _ => ?_) | with_reducible refine asp_nmk (fun _ => ?_) (fun _ => ?_) | with_reducible refine asp_mk (fun _ => ?_) (fun _ => ?_) | with_reducible refine And.intro (by first | omega | rfl | decide | with_unfolding_all rfl) ?_ | simp only [go_sem, Nat.reduceLT, Nat.reduceAdd, Nat.reduceSub, Nat.reduceMul, Nat.reduceLeDiff, ne_eq, Nat.reduceEqDiff, not_false_eq_true, Bool.and_true, Bool.true_and, Nat.succ_ne_self, and_true, Bool.not_true, Bool.not_false, Int.toNat_zero, Int.reduceToNat, Nat.mul_one, Int.toNat_one, ek, hwk, hc0, insB, decide_true, decide_false]
            all_goals try (exfalso; omega)
            all_goals (refine lend_mk (n2 - 1) [num ((k + 1 : Nat) : Int)] (by omega) ⟨k + 1, by omega, by omega, by omega, rfl⟩ ?_; simp only [hvm_t, hvm_f, hvm_nil, puts_cons, puts_nil, List.set_cons_zero, List.set_cons_succ, num]; repeat first | exact Wk.nil | refine Wk.same ?_ | refine wk_any ?_)
          · have ek := eq_false (show ¬ (k : Int) < (x.a : Int) by omega)
            obtain rfl : k = x.a := by omega
            have hRl : (repT x).length ≤ 1000 := by omega
            have hw2 : IntKind.i64.wrap ((x.a : Int) + ((repT x).length : Int)) = ((x.a + (repT x).length : Nat) : Int) := by rw [wrap_in (by omega) (by omega)]; omega
            have hsub : IntKind.i64.wrap ((t.length : Int) - (x.a : Int)) = ((t.length - x.a : Nat) : Int) := by rw [wrap_in (by omega) (by omega)]; omega
            have egt := eq_false (show ¬ ((t.length - x.a : Nat) : Int) < ((repT x).length : Int) by omega)
            have hs1 : x.a + (repT x).length - x.a = (repT x).length := by omega
            have i7' : (t.drop x.a).take (repT x).length = repT x := by have h := i7; rw [List.drop_drop, ← i2] at h; exact h
            have hnext : toks t = (pre ++ [x]) ++ sc (t.drop (x.a + (repT x).length)) (x.a + (repT x).length) g' := by
              rw [he, i8, List.drop_drop, show e + (m + (repT x).length) = x.a + (repT x).length by omega, ← i2]; simp
            by_cases k1 : x.k = 1
            · have q1 := eq_true (show x.k = 1 by omega)
              have q4 := eq_false (show ¬ x.k = 4 by omega)
              have q6 := eq_false (show ¬ x.k = 6 by omega)
              have q7 := eq_false (show ¬ x.k = 7 by omega)
              have hR : escL x.t = repT x := by simp only [repT, q1, q4, if_true, if_false]
              have hxt : x.t.length ≤ 1000 := by have := escL_len' x.t; rw [hR] at this; omega
              obtain rfl : g = none := i5.1 (by omega)
              obtain rfl : g' = none := i9.2 (by omega)
              repeat' first | with_reducible refine asq_dmk (fun _ => ?_) (fun _ => ?_) | with_reducible refine asq_ndmk (fun _ => ?_) (fun _ => ?_) | with_reducible refine asq_nmk (fun _ => ?_) (fun _ => ?_) | with_reducible refine asq_mk (fun _ => ?_) (fun _ => ?_) | with_reducible refine asp_dmk (fun _ => ?_) (fun _ => ?_) | with_reducible refine asp_ndmk (fun _ => ?_) (fun _ => ?_) | with_reducible refine asp_nmk (fun _ => ?_) (fun _ => ?_) | with_reducible refine asp_mk (fun _ => ?_) (fun _ => ?_) | with_reducible refine And.intro (by first | omega | rfl | decide | with_unfolding_all rfl) ?_ | simp only [go_sem, Nat.reduceLT, Nat.reduceAdd, Nat.reduceSub, Nat.reduceMul, Nat.reduceLeDiff, ne_eq, Nat.reduceEqDiff, not_false_eq_true, Bool.and_true, Bool.true_and, Nat.succ_ne_self, and_true, Bool.not_true, Bool.not_false, Int.toNat_zero, Int.reduceToNat, Nat.mul_one, Int.toNat_one, ek, q1, q4, q6, q7, hR, hw, hw2, hsub, egt, hs1, i7', insB, decide_true, decide_false, Int.toNat_natCast, Bool.not_true, Bool.not_false, bne_self_eq_false, Bool.false_beq, Bool.true_beq]
              refine (escaped14 x.t (by omega)).mono ?_
              rintro r rfl
              simp only [str]
              repeat' first | with_reducible refine asq_dmk (fun _ => ?_) (fun _ => ?_) | with_reducible refine asq_ndmk (fun _ => ?_) (fun _ => ?_) | with_reducible refine asq_nmk (fun _ => ?_) (fun _ => ?_) | with_reducible refine asq_mk (fun _ => ?_) (fun _ => ?_) | with_reducible refine asp_dmk (fun _ => ?_) (fun _ => ?_) | with_reducible refine asp_ndmk (fun _ => ?_) (fun _ => ?_) | with_reducible refine asp_nmk (fun _ => ?_) (fun _ => ?_) | with_reducible refine asp_mk (fun _ => ?_) (fun _ => ?_) | with_reducible refine And.intro (by first | omega | rfl | decide | with_unfolding_all rfl) ?_ | simp only [go_sem, Nat.reduceLT, Nat.reduceAdd, Nat.reduceSub, Nat.reduceMul, Nat.reduceLeDiff, ne_eq, Nat.reduceEqDiff, not_false_eq_true, Bool.and_true, Bool.true_and, Nat.succ_ne_self, and_true, Bool.not_true, Bool.not_false, Int.toNat_zero, Int.reduceToNat, Nat.mul_one, Int.toNat_one, ek, q1, q4, q6, q7, hR, hw, hw2, hsub, egt, hs1, i7', insB, decide_true, decide_false, Int.toNat_natCast, Bool.not_true, Bool.not_false, bne_self_eq_false, Bool.false_beq, Bool.true_beq]
              all_goals try (exfalso; omega)
              all_goals (refine lend_mk (n - 1) [tru false, .sl 3 ((toks t).map tk), num ((x.a + (repT x).length : Nat) : Int), tru (insB none), num ((j + 1 : Nat) : Int)] (by omega) ⟨j + 1, x.a + (repT x).length, none, pre ++ [x], by omega, by omega, by omega, by simp [hpl], hnext, rfl⟩ ?_; simp only [insB, tru]; simp only [hvm_t, hvm_f, hvm_nil, puts_cons, puts_nil, List.set_cons_zero, List.set_cons_succ, num]; repeat first | exact Wk.nil | refine Wk.same ?_ | refine wk_any ?_)
            · by_cases k4 : x.k = 4
              · have q1 := eq_false (show ¬ x.k = 1 by omega)
                have q4 := eq_true (show x.k = 4 by omega)
                have q6 := eq_false (show ¬ x.k = 6 by omega)
                have q7 := eq_false (show ¬ x.k = 7 by omega)
                have hR : 34 :: (x.t ++ [34]) = repT x := by simp only [repT, q1, q4, if_true, if_false]
                have hxt : x.t.length ≤ 1000 := by have := congrArg List.length hR; simp only [List.length_cons, List.length_append, List.length_nil] at this; omega
                obtain ⟨g0, rfl⟩ : ∃ g0, g = some g0 := by
                  cases g with
                  | none => have := i5.2 rfl; omega
                  | some g0 => exact ⟨g0, rfl⟩
                obtain ⟨g1, rfl⟩ : ∃ g1, g' = some g1 := by
                  cases g' with
                  | none => have := i9.1 rfl; omega
                  | some g0 => exact ⟨g0, rfl⟩
                repeat' first | with_reducible refine asq_dmk (fun _ => ?_) (fun _ => ?_) | with_reducible refine asq_ndmk (fun _ => ?_) (fun _ => ?_) | with_reducible refine asq_nmk (fun _ => ?_) (fun _ => ?_) | with_reducible refine asq_mk (fun _ => ?_) (fun _ => ?_) | with_reducible refine asp_dmk (fun _ => ?_) (fun _ => ?_) | with_reducible refine asp_ndmk (fun _ => ?_) (fun _ => ?_) | with_reducible refine asp_nmk (fun _ => ?_) (fun _ => ?_) | with_reducible refine asp_mk (fun _ => ?_) (fun _ => ?_) | with_reducible refine And.intro (by first | omega | rfl | decide | with_unfolding_all rfl) ?_ | simp only [go_sem, Nat.reduceLT, Nat.reduceAdd, Nat.reduceSub, Nat.reduceMul, Nat.reduceLeDiff, ne_eq, Nat.reduceEqDiff, not_false_eq_true, Bool.and_true, Bool.true_and, Nat.succ_ne_self, and_true, Bool.not_true, Bool.not_false, Int.toNat_zero, Int.reduceToNat, Nat.mul_one, Int.toNat_one, ek, q1, q4, q6, q7, hR, hw, hw2, hsub, egt, hs1, i7', insB, decide_true, decide_false, Int.toNat_natCast, Bool.not_true, Bool.not_false, bne_self_eq_false, Bool.false_beq, Bool.true_beq]
                all_goals try (exfalso; omega)
                all_goals (refine lend_mk (n - 1) [tru false, .sl 3 ((toks t).map tk), num ((x.a + (repT x).length : Nat) : Int), tru (insB (some g1)), num ((j + 1 : Nat) : Int)] (by omega) ⟨j + 1, x.a + (repT x).length, (some g1), pre ++ [x], by omega, by omega, by omega, by simp [hpl], hnext, rfl⟩ ?_; simp only [insB, tru]; simp only [hvm_t, hvm_f, hvm_nil, puts_cons, puts_nil, List.set_cons_zero, List.set_cons_succ, num]; repeat first | exact Wk.nil | refine Wk.same ?_ | refine wk_any ?_)
              · by_cases k6 : x.k = 6
                · have q1 := eq_false (show ¬ x.k = 1 by omega)
                  have q4 := eq_false (show ¬ x.k = 4 by omega)
                  have q6 := eq_true (show x.k = 6 by omega)
                  have q7 := eq_false (show ¬ x.k = 7 by omega)
                  have hR : x.t = repT x := by simp only [repT, q1, q4, if_true, if_false]
                  have hxt : x.t.length ≤ 1000 := by rw [hR]; omega
                  obtain rfl : g = none := i5.1 (by omega)
                  obtain ⟨g1, rfl⟩ : ∃ g1, g' = some g1 := by
                    cases g' with
                    | none => have := i9.1 rfl; omega
                    | some g0 => exact ⟨g0, rfl⟩
                  repeat' first | with_reducible refine asq_dmk (fun _ => ?_) (fun _ => ?_) | with_reducible refine asq_ndmk (fun _ => ?_) (fun _ => ?_) | with_reducible refine asq_nmk (fun _ => ?_) (fun _ => ?_) | with_reducible refine asq_mk (fun _ => ?_) (fun _ => ?_) | with_reducible refine asp_dmk (fun _ => ?_) (fun _ => ?_) | with_reducible refine asp_ndmk (fun _ => ?_) (fun _ => ?_) | with_reducible refine asp_nmk (fun _ => ?_) (fun _ => ?_) | with_reducible refine asp_mk (fun _ => ?_) (fun _ => ?_) | with_reducible refine And.intro (by first | omega | rfl | decide | with_unfolding_all rfl) ?_ | simp only [go_sem, Nat.reduceLT, Nat.reduceAdd, Nat.reduceSub, Nat.reduceMul, Nat.reduceLeDiff, ne_eq, Nat.reduceEqDiff, not_false_eq_true, Bool.and_true, Bool.true_and, Nat.succ_ne_self, and_true, Bool.not_true, Bool.not_false, Int.toNat_zero, Int.reduceToNat, Nat.mul_one, Int.toNat_one, ek, q1, q4, q6, q7, hR, hw, hw2, hsub, egt, hs1, i7', insB, decide_true, decide_false, Int.toNat_natCast, Bool.not_true, Bool.not_false, bne_self_eq_false, Bool.false_beq, Bool.true_beq]
                  all_goals try (exfalso; omega)
                  all_goals (refine lend_mk (n - 1) [tru false, .sl 3 ((toks t).map tk), num ((x.a + (repT x).length : Nat) : Int), tru (insB (some g1)), num ((j + 1 : Nat) : Int)] (by omega) ⟨j + 1, x.a + (repT x).length, (some g1), pre ++ [x], by omega, by omega, by omega, by simp [hpl], hnext, rfl⟩ ?_; simp only [insB, tru]; simp only [hvm_t, hvm_f, hvm_nil, puts_cons, puts_nil, List.set_cons_zero, List.set_cons_succ, num]; repeat first | exact Wk.nil | refine Wk.same ?_ | refine wk_any ?_)
                · by_cases k7 : x.k = 7
                  · have q1 := eq_false (show ¬ x.k = 1 by omega)
                    have q4 := eq_false (show ¬ x.k = 4 by omega)
                    have q6 := eq_false (show ¬ x.k = 6 by omega)
                    have q7 := eq_true (show x.k = 7 by omega)
                    have hR : x.t = repT x := by simp only [repT, q1, q4, if_true, if_false]
                    have hxt : x.t.length ≤ 1000 := by rw [hR]; omega
                    obtain ⟨g0, rfl⟩ : ∃ g0, g = some g0 := by
                      cases g with
                      | none => have := i5.2 rfl; omega
                      | some g0 => exact ⟨g0, rfl⟩
                    obtain rfl : g' = none := i9.2 (by omega)
                    repeat' first | with_reducible refine asq_dmk (fun _ => ?_) (fun _ => ?_) | with_reducible refine asq_ndmk (fun _ => ?_) (fun _ => ?_) | with_reducible refine asq_nmk (fun _ => ?_) (fun _ => ?_) | with_reducible refine asq_mk (fun _ => ?_) (fun _ => ?_) | with_reducible refine asp_dmk (fun _ => ?_) (fun _ => ?_) | with_reducible refine asp_ndmk (fun _ => ?_) (fun _ => ?_) | with_reducible refine asp_nmk (fun _ => ?_) (fun _ => ?_) | with_reducible refine asp_mk (fun _ => ?_) (fun _ => ?_) | with_reducible refine And.intro (by first | omega | rfl | decide | with_unfolding_all rfl) ?_ | simp only [go_sem, Nat.reduceLT, Nat.reduceAdd, Nat.reduceSub, Nat.reduceMul, Nat.reduceLeDiff, ne_eq, Nat.reduceEqDiff, not_false_eq_true, Bool.and_true, Bool.true_and, Nat.succ_ne_self, and_true, Bool.not_true, Bool.not_false, Int.toNat_zero, Int.reduceToNat, Nat.mul_one, Int.toNat_one, ek, q1, q4, q6, q7, hR, hw, hw2, hsub, egt, hs1, i7', insB, decide_true, decide_false, Int.toNat_natCast, Bool.not_true, Bool.not_false, bne_self_eq_false, Bool.false_beq, Bool.true_beq]
                    all_goals try (exfalso; omega)
                    all_goals (refine lend_mk (n - 1) [tru false, .sl 3 ((toks t).map tk), num ((x.a + (repT x).length : Nat) : Int), tru (insB none), num ((j + 1 : Nat) : Int)] (by omega) ⟨j + 1, x.a + (repT x).length, none, pre ++ [x], by omega, by omega, by omega, by simp [hpl], hnext, rfl⟩ ?_; simp only [insB, tru]; simp only [hvm_t, hvm_f, hvm_nil, puts_cons, puts_nil, List.set_cons_zero, List.set_cons_succ, num]; repeat first | exact Wk.nil | refine Wk.same ?_ | refine wk_any ?_)
                  · have q1 := eq_false (show ¬ x.k = 1 by omega)
                    have q4 := eq_false (show ¬ x.k = 4 by omega)
                    have q6 := eq_false (show ¬ x.k = 6 by omega)
                    have q7 := eq_false (show ¬ x.k = 7 by omega)
                    have hR : x.t = repT x := by simp only [repT, q1, q4, if_true, if_false]
                    have hxt : x.t.length ≤ 1000 := by rw [hR]; omega
                    obtain ⟨g0, rfl⟩ : ∃ g0, g = some g0 := by
                      cases g with
                      | none => have := i5.2 rfl; omega
                      | some g0 => exact ⟨g0, rfl⟩
                    obtain ⟨g1, rfl⟩ : ∃ g1, g' = some g1 := by
                      cases g' with
                      | none => have := i9.1 rfl; omega
                      | some g0 => exact ⟨g0, rfl⟩
                    repeat' first | with_reducible refine asq_dmk (fun _ => ?_) (fun _ => ?_) | with_reducible refine asq_ndmk (fun _ => ?_) (fun _ => ?_) | with_reducible refine asq_nmk (fun _ => ?_) (fun _ => ?_) | with_reducible refine asq_mk (fun _ => ?_) (fun _ => ?_) | with_reducible refine asp_dmk (fun _ => ?_) (fun _ => ?_) | with_reducible refine asp_ndmk (fun _ => ?_) (fun _ => ?_) | with_reducible refine asp_nmk (fun _ => ?_) (fun _ => ?_) | with_reducible refine asp_mk (fun _ => ?_) (fun _ => ?_) | with_reducible refine And.intro (by first | omega | rfl | decide | with_unfolding_all rfl) ?_ | simp only [go_sem, Nat.reduceLT, Nat.reduceAdd, Nat.reduceSub, Nat.reduceMul, Nat.reduceLeDiff, ne_eq, Nat.reduceEqDiff, not_false_eq_true, Bool.and_true, Bool.true_and, Nat.succ_ne_self, and_true, Bool.not_true, Bool.not_false, Int.toNat_zero, Int.reduceToNat, Nat.mul_one, Int.toNat_one, ek, q1, q4, q6, q7, hR, hw, hw2, hsub, egt, hs1, i7', insB, decide_true, decide_false, Int.toNat_natCast, Bool.not_true, Bool.not_false, bne_self_eq_false, Bool.false_beq, Bool.true_beq]
                    all_goals try (exfalso; omega)
                    all_goals (refine lend_mk (n - 1) [tru false, .sl 3 ((toks t).map tk), num ((x.a + (repT x).length : Nat) : Int), tru (insB (some g1)), num ((j + 1 : Nat) : Int)] (by omega) ⟨j + 1, x.a + (repT x).length, (some g1), pre ++ [x], by omega, by omega, by omega, by simp [hpl], hnext, rfl⟩ ?_; simp only [insB, tru]; simp only [hvm_t, hvm_f, hvm_nil, puts_cons, puts_nil, List.set_cons_zero, List.set_cons_succ, num]; repeat first | exact Wk.nil | refine Wk.same ?_ | refine wk_any ?_)
      · have ej := eq_false (show ¬ (j : Int) < ((toks t).length : Int) by omega)
        have hsc : sc (t.drop e) e g = [] := by
          have := congrArg List.length he
          rw [List.length_append] at this
          exact List.eq_nil_of_length_eq_zero (by omega)
        obtain ⟨hd, rfl⟩ := sc_empty _ _ _ _ (Nat.le_refl _) hsc
        have hee : e = t.length := by
          have := congrArg List.length hd
          rw [List.length_drop] at this
          simp at this; omega
        subst hee
        repeat' first | with_reducible refine asq_dmk (fun _ => ?_) (fun _ => ?_) | with_reducible refine asq_ndmk (fun _ => ?_) (fun _ => ?_) | with_reducible refine asq_nmk (fun _ => ?_) (fun _ => ?_) | with_reducible refine asq_mk (fun _ => ?_) (fun _ => ?_) | with_reducible refine asp_dmk (fun _ => ?_) (fun _ => ?_) | with_reducible refine asp_ndmk (fun _ => ?_) (fun _ => ?_) | with_reducible refine asp_nmk (fun _ => ?_) (fun _ => ?_) | with_reducible refine asp_mk (fun _ => ?_) (fun _ => ?_) | with_reducible refine And.intro (by first | omega | rfl | decide | with_unfolding_all rfl) ?_ | simp only [go_sem, Nat.reduceLT, Nat.reduceAdd, Nat.reduceSub, Nat.reduceMul, Nat.reduceLeDiff, ne_eq, Nat.reduceEqDiff, not_false_eq_true, Bool.and_true, Bool.true_and, Nat.succ_ne_self, and_true, Bool.not_true, Bool.not_false, Int.toNat_zero, Int.reduceToNat, Nat.mul_one, Int.toNat_one, ej, List.length_map, decide_true, decide_false, insB]
theorem lawA7 (xs : List AV) (h : OfA Try.prog [9] xs) : ACalls Try.prog 7 xs (fun r => r = tru true) := by
  obtain ⟨_, y, _, rfl, h1, h⟩ := OfA_cons h
  obtain rfl := OfA_nil h
  obtain ⟨s, rfl, hs⟩ := OfE_str Try.underlying9 h1
  exact law7 s hs
end Go.Proofs.Ytibdijaacolhkaa
