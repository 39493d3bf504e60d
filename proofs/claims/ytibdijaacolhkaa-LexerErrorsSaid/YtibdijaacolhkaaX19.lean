/- The law LexerErrors, walked. -/
import Derived.Test.YtibdijaacolhkaaT
import Derived.Test.YtibdijaacolhkaaA10
import Derived.Test.YtibdijaacolhkaaX18
namespace Go.Proofs.Ytibdijaacolhkaa
open Go.RowKit Go.Proofs
set_option linter.unusedSimpArgs false
set_option linter.unusedVariables false
set_option maxRecDepth 100000
set_option maxHeartbeats 4000000
def pickN (a : Int) (n : Nat) : Nat := (if a < 0 then -(a + 1) else a).toNat % n
theorem pickN_lt {a : Int} {n : Nat} (h : 0 < n) : pickN a n < n := Nat.mod_lt _ h
theorem tmod_nat {x : Int} {n : Nat} (h : 0 ≤ x) : x.tmod (n : Int) = ((x.toNat % n : Nat) : Int) := by
  obtain ⟨m, rfl⟩ := Int.eq_ofNat_of_zero_le h
  rw [Int.toNat_natCast]
  exact Int.ofNat_tmod m n
theorem pick16 (a : Int) (h1 : -9223372036854775808 ≤ a) (h2 : a ≤ 9223372036854775807) (n : Nat) (hn : 0 < n) (hn2 : n ≤ 1000000) : ACalls Try.prog 16 [num a, num n] (fun r => r = num (pickN a n : Nat)) := by
  refine calls_short [] ttok hmix Try.func16 (by decide) (by decide +kernel) (by simp only [Try.f16, Option.bind_some, comp, cops, cguard, gslot, List.getElem?_toArray, List.getElem?_cons_succ, List.getElem?_cons_zero, vlook, tlook]; rfl) Try.ntmps16 Try.results16 ⟨_, rfl⟩ rfl ?_
  simp only [List.length_cons, List.length_nil, Nat.reduceAdd, Nat.reduceSub, List.replicate_succ, List.replicate_zero, List.cons_append, List.nil_append, num, str, tru]
  have hn0 : ¬ (n : Int) = 0 := by omega
  by_cases ha : a < 0
  · have ea := eq_true ha
    have hw1 : IntKind.i64.wrap (a + 1) = a + 1 := wrap_in (by omega) (by omega)
    have hw2 : IntKind.i64.wrap (0 - (a + 1)) = -(a + 1) := by rw [wrap_in (by omega) (by omega)]; omega
    have hm := tmod_nat (x := -(a + 1)) (n := n) (by omega)
    repeat' first | with_reducible refine asq_dmk (fun _ => ?_) (fun _ => ?_) | with_reducible refine asq_ndmk (fun _ => ?_) (fun _ => ?_) | with_reducible refine asq_nmk (fun _ => ?_) (fun _ => ?_) | with_reducible refine asq_mk (fun _ => ?_) (fun _ => ?_) | with_reducible refine asp_dmk (fun _ => ?_) (fun _ => ?_) | with_reducible refine asp_ndmk (fun _ => ?_) (fun _ => ?_) | with_reducible refine asp_nmk (fun _ => ?_) (fun _ => ?_) | with_reducible refine asp_mk (fun _ => ?_) (fun _ => ?_) | with_reducible refine And.intro (by first | omega | rfl | decide | with_unfolding_all rfl) ?_ | simp only [go_sem, Nat.reduceLT, Nat.reduceAdd, Nat.reduceSub, Nat.reduceMul, Nat.reduceLeDiff, ne_eq, Nat.reduceEqDiff, not_false_eq_true, Bool.and_true, Bool.true_and, Nat.succ_ne_self, and_true, Bool.not_true, Bool.not_false, Int.toNat_zero, Int.reduceToNat, Nat.mul_one, Int.toNat_one, ea, hw1, hw2, hm, decide_true]
    simp only [pickN, ea, if_true]
  · have ea := eq_false ha
    have hm := tmod_nat (x := a) (n := n) (by omega)
    repeat' first | with_reducible refine asq_dmk (fun _ => ?_) (fun _ => ?_) | with_reducible refine asq_ndmk (fun _ => ?_) (fun _ => ?_) | with_reducible refine asq_nmk (fun _ => ?_) (fun _ => ?_) | with_reducible refine asq_mk (fun _ => ?_) (fun _ => ?_) | with_reducible refine asp_dmk (fun _ => ?_) (fun _ => ?_) | with_reducible refine asp_ndmk (fun _ => ?_) (fun _ => ?_) | with_reducible refine asp_nmk (fun _ => ?_) (fun _ => ?_) | with_reducible refine asp_mk (fun _ => ?_) (fun _ => ?_) | with_reducible refine And.intro (by first | omega | rfl | decide | with_unfolding_all rfl) ?_ | simp only [go_sem, Nat.reduceLT, Nat.reduceAdd, Nat.reduceSub, Nat.reduceMul, Nat.reduceLeDiff, ne_eq, Nat.reduceEqDiff, not_false_eq_true, Bool.and_true, Bool.true_and, Nat.succ_ne_self, and_true, Bool.not_true, Bool.not_false, Int.toNat_zero, Int.reduceToNat, Nat.mul_one, Int.toNat_one, ea, hm, decide_false]
    simp only [pickN, ea, if_false]
theorem sc_bound : ∀ (l : List Tk) (u : List UInt8) (a : Nat) (g : Option Nat), sc u a g = l → (∀ x ∈ l, x.k ≠ 0) → ∀ x ∈ l, x.a ≤ a + u.length ∧ x.t.length ≤ u.length
  | [], _, _, _, _, _, x, hx => by cases hx
  | y :: l, u, a, g, h, h0, x, hx => by
    obtain ⟨m, i1, i2, i3, i4, i5, i6, i7, g', i8, i9⟩ := sc_first _ u a g y l (Nat.le_refl _) h (h0 y (by simp))
    have hr : y.t.length ≤ (repT y).length := by
      unfold repT
      split
      · exact escL_len' _
      · split
        · simp; omega
        · exact Nat.le_refl _
    rcases List.mem_cons.1 hx with rfl | hx
    · exact ⟨by omega, by omega⟩
    · have := sc_bound l _ _ g' i8.symm (fun z hz => h0 z (by simp [hz])) x hx
      rw [List.length_drop] at this
      omega
theorem u8_of {m : Int} (h0 : 0 ≤ m) (h1 : m ≤ 255) : ∃ b : UInt8, m = ((b.toNat : Nat) : Int) := by
  refine ⟨UInt8.ofNat m.toNat, ?_⟩
  rw [UInt8.toNat_ofNat']
  omega
def tokensS (s : List UInt8) : AV := .tup [.sl 3 ((tokL s).1.map tk), num (tokL s).2.1, num (tokL s).2.2]
theorem tokS10 (s : List UInt8) (hs : s.length ≤ 1000000) : ACalls Try.prog 10 [str s] (fun r => r = tokensS s) :=
  (tokW10 s hs).wkr fun r hr => ⟨_, by rw [hr]; exact W1.tup (wk_ownsl (Wk.refl _)), rfl, rfl⟩
theorem law8a (s : List UInt8) (hs : s.length ≤ 9223372036854775807) (at_ : Int) (ha1 : -9223372036854775808 ≤ at_) (ha2 : at_ ≤ 9223372036854775807) (c : UInt8) (b : UInt8) (hb : badc b = true) (hbv0 : b = c) (q10' : ¬ ((c.toNat : Nat) : Int) = 10) (q32' : ¬ 32 ≤ ((c.toNat : Nat) : Int)) :
    ACalls Try.prog 8 [str s, num at_, .raw (.int .u8 ((c.toNat : Nat) : Int))] (fun r => r = tru true) := by
  subst hbv0
  have q10 := eq_false (show ¬ ((b.toNat : Nat) : Int) = 10 by omega)
  have q32 := eq_false (show ¬ 32 ≤ ((b.toNat : Nat) : Int) by omega)
  refine calls_short [] ttok hmix Try.func8 (by decide) (by decide +kernel) (by simp only [Try.f8, Option.bind_some, comp, cops, cguard, gslot, List.getElem?_toArray, List.getElem?_cons_succ, List.getElem?_cons_zero, vlook, tlook]; rfl) Try.ntmps8 Try.results8 ⟨_, rfl⟩ rfl ?_
  simp only [List.length_cons, List.length_nil, Nat.reduceAdd, Nat.reduceSub, List.replicate_succ, List.replicate_zero, List.cons_append, List.nil_append, num, str, tru]
  simp (decide := true) only [mkd_eq [12, 15, 9] [] [] [[57, 9], [15], [59, 57], [59], [], [], [63], [64, 63, 9], [63, 15], [66, 64, 63], [66, 63], [63], [12, 63], [63], [63], [72], [72, 12], [74, 72, 9], [72, 15], [76, 74, 72], [76, 72], [72], [72], [80, 72, 9], [72, 15], [82, 80, 72], [82, 72], [72], [72], [72], [72], [72]], List.zip_cons_cons, List.zip_nil_left, List.zip_nil_right]
  simp (decide := true) only [mkd_eq [12, 8] [] [] [[8], [12], [], [], [], [], [], [8], [12], [], [], [], [94], [94], [94], [94], [], [], []], List.zip_cons_cons, List.zip_nil_left, List.zip_nil_right]
  repeat' first | with_reducible refine asq_dmk (fun _ => ?_) (fun _ => ?_) | with_reducible refine asq_ndmk (fun _ => ?_) (fun _ => ?_) | with_reducible refine asq_nmk (fun _ => ?_) (fun _ => ?_) | with_reducible refine asq_mk (fun _ => ?_) (fun _ => ?_) | with_reducible refine asp_dmk (fun _ => ?_) (fun _ => ?_) | with_reducible refine asp_ndmk (fun _ => ?_) (fun _ => ?_) | with_reducible refine asp_nmk (fun _ => ?_) (fun _ => ?_) | with_reducible refine asp_mk (fun _ => ?_) (fun _ => ?_) | with_reducible refine And.intro (by first | omega | rfl | decide | with_unfolding_all rfl) ?_ | simp only [go_sem, Nat.reduceLT, Nat.reduceAdd, Nat.reduceSub, Nat.reduceMul, Nat.reduceLeDiff, ne_eq, Nat.reduceEqDiff, not_false_eq_true, Bool.and_true, Bool.true_and, Nat.succ_ne_self, and_true, Bool.not_true, Bool.not_false, Int.toNat_zero, Int.reduceToNat, Nat.mul_one, Int.toNat_one]
  refine sane9.mono ?_
  rintro r rfl
  simp only [tru]
  repeat' first | with_reducible refine asq_dmk (fun _ => ?_) (fun _ => ?_) | with_reducible refine asq_ndmk (fun _ => ?_) (fun _ => ?_) | with_reducible refine asq_nmk (fun _ => ?_) (fun _ => ?_) | with_reducible refine asq_mk (fun _ => ?_) (fun _ => ?_) | with_reducible refine asp_dmk (fun _ => ?_) (fun _ => ?_) | with_reducible refine asp_ndmk (fun _ => ?_) (fun _ => ?_) | with_reducible refine asp_nmk (fun _ => ?_) (fun _ => ?_) | with_reducible refine asp_mk (fun _ => ?_) (fun _ => ?_) | with_reducible refine And.intro (by first | omega | rfl | decide | with_unfolding_all rfl) ?_ | simp only [go_sem, Nat.reduceLT, Nat.reduceAdd, Nat.reduceSub, Nat.reduceMul, Nat.reduceLeDiff, ne_eq, Nat.reduceEqDiff, not_false_eq_true, Bool.and_true, Bool.true_and, Nat.succ_ne_self, and_true, Bool.not_true, Bool.not_false, Int.toNat_zero, Int.reduceToNat, Nat.mul_one, Int.toNat_one]
  have hc : (List.take (min (s.length : Int) 600).toNat s).length ≤ 600 := cut_len (s := s) (n := 600)
  generalize List.take (min (s.length : Int) 600).toNat s = t at hc
  refine (tokW10 t (by omega)).mono ?_
  rintro r rfl
  rcases tokL_cases t with ⟨x, hx⟩ | ⟨hx, hl1, hk⟩
  · simp only [tokensW, hx, num, List.map_nil]
    repeat' first | with_reducible refine asq_dmk (fun _ => ?_) (fun _ => ?_) | with_reducible refine asq_ndmk (fun _ => ?_) (fun _ => ?_) | with_reducible refine asq_nmk (fun _ => ?_) (fun _ => ?_) | with_reducible refine asq_mk (fun _ => ?_) (fun _ => ?_) | with_reducible refine asp_dmk (fun _ => ?_) (fun _ => ?_) | with_reducible refine asp_ndmk (fun _ => ?_) (fun _ => ?_) | with_reducible refine asp_nmk (fun _ => ?_) (fun _ => ?_) | with_reducible refine asp_mk (fun _ => ?_) (fun _ => ?_) | with_reducible refine And.intro (by first | omega | rfl | decide | with_unfolding_all rfl) ?_ | simp only [go_sem, Nat.reduceLT, Nat.reduceAdd, Nat.reduceSub, Nat.reduceMul, Nat.reduceLeDiff, ne_eq, Nat.reduceEqDiff, not_false_eq_true, Bool.and_true, Bool.true_and, Nat.succ_ne_self, and_true, Bool.not_true, Bool.not_false, Int.toNat_zero, Int.reduceToNat, Nat.mul_one, Int.toNat_one, Int.reduceEq, decide_false, decide_true, Int.cast_ofNat_Int, List.length_nil]
  · have htl := toks_len t
    simp only [tokensW, hx, num]
    have hwl : IntKind.i64.wrap ((t.length : Int) + 1) = ((t.length + 1 : Nat) : Int) := wrap_succ (by omega)
    repeat' first | with_reducible refine asq_dmk (fun _ => ?_) (fun _ => ?_) | with_reducible refine asq_ndmk (fun _ => ?_) (fun _ => ?_) | with_reducible refine asq_nmk (fun _ => ?_) (fun _ => ?_) | with_reducible refine asq_mk (fun _ => ?_) (fun _ => ?_) | with_reducible refine asp_dmk (fun _ => ?_) (fun _ => ?_) | with_reducible refine asp_ndmk (fun _ => ?_) (fun _ => ?_) | with_reducible refine asp_nmk (fun _ => ?_) (fun _ => ?_) | with_reducible refine asp_mk (fun _ => ?_) (fun _ => ?_) | with_reducible refine And.intro (by first | omega | rfl | decide | with_unfolding_all rfl) ?_ | simp only [go_sem, Nat.reduceLT, Nat.reduceAdd, Nat.reduceSub, Nat.reduceMul, Nat.reduceLeDiff, ne_eq, Nat.reduceEqDiff, not_false_eq_true, Bool.and_true, Bool.true_and, Nat.succ_ne_self, and_true, Bool.not_true, Bool.not_false, Int.toNat_zero, Int.reduceToNat, Nat.mul_one, Int.toNat_one, Int.reduceEq, decide_false, decide_true, Int.cast_ofNat_Int, List.length_nil, hwl]
    refine (pick16 at_ ha1 ha2 (t.length + 1) (by omega) (by omega)).mono ?_
    rintro r rfl
    have hkl := pickN_lt (a := at_) (n := t.length + 1) (by omega)
    generalize pickN at_ (t.length + 1) = k at hkl
    simp only [num]
    repeat' first | with_reducible refine asq_dmk (fun _ => ?_) (fun _ => ?_) | with_reducible refine asq_ndmk (fun _ => ?_) (fun _ => ?_) | with_reducible refine asq_nmk (fun _ => ?_) (fun _ => ?_) | with_reducible refine asq_mk (fun _ => ?_) (fun _ => ?_) | with_reducible refine asp_dmk (fun _ => ?_) (fun _ => ?_) | with_reducible refine asp_ndmk (fun _ => ?_) (fun _ => ?_) | with_reducible refine asp_nmk (fun _ => ?_) (fun _ => ?_) | with_reducible refine asp_mk (fun _ => ?_) (fun _ => ?_) | with_reducible refine And.intro (by first | omega | rfl | decide | with_unfolding_all rfl) ?_ | simp only [go_sem, Nat.reduceLT, Nat.reduceAdd, Nat.reduceSub, Nat.reduceMul, Nat.reduceLeDiff, ne_eq, Nat.reduceEqDiff, not_false_eq_true, Bool.and_true, Bool.true_and, Nat.succ_ne_self, and_true, Bool.not_true, Bool.not_false, Int.toNat_zero, Int.reduceToNat, Nat.mul_one, Int.toNat_one, q10, q32, decide_true, decide_false]
    refine cwp_loop [false, false, false, false, false, false, false, false, false, true, false, false, false, true, true, true, false, false, false, false, false, false, false, false, false, false, false, false, false, false, false, false, false, false, false, false, false, false, false, false, true, true, true, true, true, true, true, true, true, true, true, true, true, true, true, true, true, true, true, true, true, true, true, true, true, true, true, true, true, true, true, true, true, true, true, true, true, true, true, true, true, true, true, true, true, true, true, true, true, true, true, true, true, true, false, false, false, false, false, false, false, false, false, false, false, false, false, false, false, false, false, false, false, false, false, false, false, false, false, false, false, false, false, false, false] [9, 13, 14, 15] (fun n xs => ∃ (j : Nat), j ≤ (toks t).length ∧ j + n = (toks t).length ∧ xs = [.sl 3 ((toks t).map tk), .raw (.int .u8 ((b.toNat : Nat) : Int)), num ((((toks t).take j).foldl (want1 k) k : Nat) : Int), num j]) ⟨(toks t).length, _, ⟨0, by omega, by omega, rfl⟩, ?_⟩ ?_
    · simp only [List.take_zero, List.foldl_nil]
      simp only [hvm_t, hvm_f, hvm_nil, puts_cons, puts_nil, List.set_cons_zero, List.set_cons_succ, num]
      repeat first | exact Wk.nil | refine wk_ownsl ?_ | refine Wk.same ?_ | refine wk_any ?_
    · rintro n xs ⟨j, hjl, hn, rfl⟩
      simp only [hvm_t, hvm_f, hvm_nil, puts_cons, puts_nil, List.set_cons_zero, List.set_cons_succ, num]
      rcases Nat.lt_or_ge j (toks t).length with hlt | hge
      · have ej := eq_true (show (j : Int) < ((toks t).length : Int) by omega)
        obtain ⟨x, hx⟩ : ∃ x, (toks t)[j]? = some x := ⟨_, List.getElem?_eq_getElem hlt⟩
        have hgx := tk_at hx
        have hxb := sc_bound (toks t) t 0 none rfl hk x (List.mem_of_getElem? hx)
        have hfold : ((toks t).take (j + 1)).foldl (want1 k) k = want1 k (((toks t).take j).foldl (want1 k) k) x := by
          rw [List.take_add_one, hx, List.foldl_append]; rfl
        have hw : IntKind.i64.wrap ((j : Int) + 1) = ((j + 1 : Nat) : Int) := wrap_succ (by omega)
        have hwa : IntKind.i64.wrap ((x.a : Int) + 1) = ((x.a + 1 : Nat) : Int) := wrap_succ (by omega)
        have hwb : IntKind.i64.wrap (((x.a + 1 : Nat) : Int) + (x.t.length : Int)) = ((x.a + 1 + x.t.length : Nat) : Int) := by rw [wrap_in (by omega) (by omega)]; omega
        by_cases hk4 : x.k = 4
        · by_cases hk5 : x.a < k
          · by_cases hk6 : k ≤ x.a + 1 + x.t.length
            · have z0 := eq_true (show x.k = 4 by omega)
              have z1 := eq_true (show (x.a : Int) < (k : Int) by omega)
              have z2 := eq_true (show (k : Int) ≤ ((x.a + 1 + x.t.length : Nat) : Int) by omega)
              have hnx : ((toks t).take (j + 1)).foldl (want1 k) k = x.a := by rw [hfold, want1, if_pos (by omega)]
              repeat' first | with_reducible refine asq_dmk (fun _ => ?_) (fun _ => ?_) | with_reducible refine asq_ndmk (fun _ => ?_) (fun _ => ?_) | with_reducible refine asq_nmk (fun _ => ?_) (fun _ => ?_) | with_reducible refine asq_mk (fun _ => ?_) (fun _ => ?_) | with_reducible refine asp_dmk (fun _ => ?_) (fun _ => ?_) | with_reducible refine asp_ndmk (fun _ => ?_) (fun _ => ?_) | with_reducible refine asp_nmk (fun _ => ?_) (fun _ => ?_) | with_reducible refine asp_mk (fun _ => ?_) (fun _ => ?_) | with_reducible refine And.intro (by first | omega | rfl | decide | with_unfolding_all rfl) ?_ | simp only [go_sem, Nat.reduceLT, Nat.reduceAdd, Nat.reduceSub, Nat.reduceMul, Nat.reduceLeDiff, ne_eq, Nat.reduceEqDiff, not_false_eq_true, Bool.and_true, Bool.true_and, Nat.succ_ne_self, and_true, Bool.not_true, Bool.not_false, Int.toNat_zero, Int.reduceToNat, Nat.mul_one, Int.toNat_one, ej, hw, hgx, hwa, hwb, z0, z1, z2, List.length_map, decide_true, decide_false, Bool.false_eq_true]
              all_goals try (exfalso; omega)
              all_goals (refine lend_mk (n - 1) [.sl 3 ((toks t).map tk), .raw (.int .u8 ((b.toNat : Nat) : Int)), num ((((toks t).take (j + 1)).foldl (want1 k) k : Nat) : Int), num ((j + 1 : Nat) : Int)] (by omega) ⟨j + 1, by omega, by omega, rfl⟩ ?_; rw [hnx]; simp only [hvm_t, hvm_f, hvm_nil, puts_cons, puts_nil, List.set_cons_zero, List.set_cons_succ, num]; repeat first | exact Wk.nil | refine Wk.same ?_ | refine wk_any ?_)
            · have z0 := eq_true (show x.k = 4 by omega)
              have z1 := eq_true (show (x.a : Int) < (k : Int) by omega)
              have z2 := eq_false (show ¬ (k : Int) ≤ ((x.a + 1 + x.t.length : Nat) : Int) by omega)
              have hnx : ((toks t).take (j + 1)).foldl (want1 k) k = ((toks t).take j).foldl (want1 k) k := by rw [hfold, want1, if_neg (by omega)]
              repeat' first | with_reducible refine asq_dmk (fun _ => ?_) (fun _ => ?_) | with_reducible refine asq_ndmk (fun _ => ?_) (fun _ => ?_) | with_reducible refine asq_nmk (fun _ => ?_) (fun _ => ?_) | with_reducible refine asq_mk (fun _ => ?_) (fun _ => ?_) | with_reducible refine asp_dmk (fun _ => ?_) (fun _ => ?_) | with_reducible refine asp_ndmk (fun _ => ?_) (fun _ => ?_) | with_reducible refine asp_nmk (fun _ => ?_) (fun _ => ?_) | with_reducible refine asp_mk (fun _ => ?_) (fun _ => ?_) | with_reducible refine And.intro (by first | omega | rfl | decide | with_unfolding_all rfl) ?_ | simp only [go_sem, Nat.reduceLT, Nat.reduceAdd, Nat.reduceSub, Nat.reduceMul, Nat.reduceLeDiff, ne_eq, Nat.reduceEqDiff, not_false_eq_true, Bool.and_true, Bool.true_and, Nat.succ_ne_self, and_true, Bool.not_true, Bool.not_false, Int.toNat_zero, Int.reduceToNat, Nat.mul_one, Int.toNat_one, ej, hw, hgx, hwa, hwb, z0, z1, z2, List.length_map, decide_true, decide_false, Bool.false_eq_true]
              all_goals try (exfalso; omega)
              all_goals (refine lend_mk (n - 1) [.sl 3 ((toks t).map tk), .raw (.int .u8 ((b.toNat : Nat) : Int)), num ((((toks t).take (j + 1)).foldl (want1 k) k : Nat) : Int), num ((j + 1 : Nat) : Int)] (by omega) ⟨j + 1, by omega, by omega, rfl⟩ ?_; rw [hnx]; simp only [hvm_t, hvm_f, hvm_nil, puts_cons, puts_nil, List.set_cons_zero, List.set_cons_succ, num]; repeat first | exact Wk.nil | refine Wk.same ?_ | refine wk_any ?_)
          · have z0 := eq_true (show x.k = 4 by omega)
            have z1 := eq_false (show ¬ (x.a : Int) < (k : Int) by omega)
            have hnx : ((toks t).take (j + 1)).foldl (want1 k) k = ((toks t).take j).foldl (want1 k) k := by rw [hfold, want1, if_neg (by omega)]
            repeat' first | with_reducible refine asq_dmk (fun _ => ?_) (fun _ => ?_) | with_reducible refine asq_ndmk (fun _ => ?_) (fun _ => ?_) | with_reducible refine asq_nmk (fun _ => ?_) (fun _ => ?_) | with_reducible refine asq_mk (fun _ => ?_) (fun _ => ?_) | with_reducible refine asp_dmk (fun _ => ?_) (fun _ => ?_) | with_reducible refine asp_ndmk (fun _ => ?_) (fun _ => ?_) | with_reducible refine asp_nmk (fun _ => ?_) (fun _ => ?_) | with_reducible refine asp_mk (fun _ => ?_) (fun _ => ?_) | with_reducible refine And.intro (by first | omega | rfl | decide | with_unfolding_all rfl) ?_ | simp only [go_sem, Nat.reduceLT, Nat.reduceAdd, Nat.reduceSub, Nat.reduceMul, Nat.reduceLeDiff, ne_eq, Nat.reduceEqDiff, not_false_eq_true, Bool.and_true, Bool.true_and, Nat.succ_ne_self, and_true, Bool.not_true, Bool.not_false, Int.toNat_zero, Int.reduceToNat, Nat.mul_one, Int.toNat_one, ej, hw, hgx, hwa, hwb, z0, z1, List.length_map, decide_true, decide_false, Bool.false_eq_true]
            all_goals try (exfalso; omega)
            all_goals (refine lend_mk (n - 1) [.sl 3 ((toks t).map tk), .raw (.int .u8 ((b.toNat : Nat) : Int)), num ((((toks t).take (j + 1)).foldl (want1 k) k : Nat) : Int), num ((j + 1 : Nat) : Int)] (by omega) ⟨j + 1, by omega, by omega, rfl⟩ ?_; rw [hnx]; simp only [hvm_t, hvm_f, hvm_nil, puts_cons, puts_nil, List.set_cons_zero, List.set_cons_succ, num]; repeat first | exact Wk.nil | refine Wk.same ?_ | refine wk_any ?_)
        · have z0 := eq_false (show ¬ x.k = 4 by omega)
          have hnx : ((toks t).take (j + 1)).foldl (want1 k) k = ((toks t).take j).foldl (want1 k) k := by rw [hfold, want1, if_neg (by omega)]
          repeat' first | with_reducible refine asq_dmk (fun _ => ?_) (fun _ => ?_) | with_reducible refine asq_ndmk (fun _ => ?_) (fun _ => ?_) | with_reducible refine asq_nmk (fun _ => ?_) (fun _ => ?_) | with_reducible refine asq_mk (fun _ => ?_) (fun _ => ?_) | with_reducible refine asp_dmk (fun _ => ?_) (fun _ => ?_) | with_reducible refine asp_ndmk (fun _ => ?_) (fun _ => ?_) | with_reducible refine asp_nmk (fun _ => ?_) (fun _ => ?_) | with_reducible refine asp_mk (fun _ => ?_) (fun _ => ?_) | with_reducible refine And.intro (by first | omega | rfl | decide | with_unfolding_all rfl) ?_ | simp only [go_sem, Nat.reduceLT, Nat.reduceAdd, Nat.reduceSub, Nat.reduceMul, Nat.reduceLeDiff, ne_eq, Nat.reduceEqDiff, not_false_eq_true, Bool.and_true, Bool.true_and, Nat.succ_ne_self, and_true, Bool.not_true, Bool.not_false, Int.toNat_zero, Int.reduceToNat, Nat.mul_one, Int.toNat_one, ej, hw, hgx, hwa, hwb, z0, List.length_map, decide_true, decide_false, Bool.false_eq_true]
          all_goals try (exfalso; omega)
          all_goals (refine lend_mk (n - 1) [.sl 3 ((toks t).map tk), .raw (.int .u8 ((b.toNat : Nat) : Int)), num ((((toks t).take (j + 1)).foldl (want1 k) k : Nat) : Int), num ((j + 1 : Nat) : Int)] (by omega) ⟨j + 1, by omega, by omega, rfl⟩ ?_; rw [hnx]; simp only [hvm_t, hvm_f, hvm_nil, puts_cons, puts_nil, List.set_cons_zero, List.set_cons_succ, num]; repeat first | exact Wk.nil | refine Wk.same ?_ | refine wk_any ?_)
      · have ej := eq_false (show ¬ (j : Int) < ((toks t).length : Int) by omega)
        obtain rfl : j = (toks t).length := by omega
        rw [List.take_length]
        have hfin := tokL_ins hb hc hk (i := k) (by omega)
        have hb1 : [AV.raw (.int .u8 ((b.toNat : Nat) : Int))] = bytesA [b] := rfl
        have hbv : List.map view (bytesA [b]) = bytesA [b] := rfl
        have hdt : (t.drop k).take (t.length - k) = t.drop k := List.take_of_length_le (by simp)
        have hcat : t.take k ++ [b] ++ t.drop k = t.take k ++ b :: t.drop k := by simp
        have hcl : (t.take k ++ b :: t.drop k).length ≤ 1000000 := by simp; omega
        repeat' first | with_reducible refine asq_dmk (fun _ => ?_) (fun _ => ?_) | with_reducible refine asq_ndmk (fun _ => ?_) (fun _ => ?_) | with_reducible refine asq_nmk (fun _ => ?_) (fun _ => ?_) | with_reducible refine asq_mk (fun _ => ?_) (fun _ => ?_) | with_reducible refine asp_dmk (fun _ => ?_) (fun _ => ?_) | with_reducible refine asp_ndmk (fun _ => ?_) (fun _ => ?_) | with_reducible refine asp_nmk (fun _ => ?_) (fun _ => ?_) | with_reducible refine asp_mk (fun _ => ?_) (fun _ => ?_) | with_reducible refine And.intro (by first | omega | rfl | decide | with_unfolding_all rfl) ?_ | simp only [go_sem, Nat.reduceLT, Nat.reduceAdd, Nat.reduceSub, Nat.reduceMul, Nat.reduceLeDiff, ne_eq, Nat.reduceEqDiff, not_false_eq_true, Bool.and_true, Bool.true_and, Nat.succ_ne_self, and_true, Bool.not_true, Bool.not_false, Int.toNat_zero, Int.reduceToNat, Nat.mul_one, Int.toNat_one, ej, hb1, hbv, hdt, hcat, Int.toNat_natCast, List.length_map, List.length_append, List.length_take, List.length_drop, decide_true, decide_false]
        refine (tokS10 _ hcl).mono ?_
        rintro r rfl
        simp only [tokensS, hfin, num, List.map_nil]
        have hww : (((wantT k (toks t) : Nat) : Int) = (((toks t).foldl (want1 k) k : Nat) : Int)) = True := eq_true rfl
        repeat' first | with_reducible refine asq_dmk (fun _ => ?_) (fun _ => ?_) | with_reducible refine asq_ndmk (fun _ => ?_) (fun _ => ?_) | with_reducible refine asq_nmk (fun _ => ?_) (fun _ => ?_) | with_reducible refine asq_mk (fun _ => ?_) (fun _ => ?_) | with_reducible refine asp_dmk (fun _ => ?_) (fun _ => ?_) | with_reducible refine asp_ndmk (fun _ => ?_) (fun _ => ?_) | with_reducible refine asp_nmk (fun _ => ?_) (fun _ => ?_) | with_reducible refine asp_mk (fun _ => ?_) (fun _ => ?_) | with_reducible refine And.intro (by first | omega | rfl | decide | with_unfolding_all rfl) ?_ | simp only [go_sem, Nat.reduceLT, Nat.reduceAdd, Nat.reduceSub, Nat.reduceMul, Nat.reduceLeDiff, ne_eq, Nat.reduceEqDiff, not_false_eq_true, Bool.and_true, Bool.true_and, Nat.succ_ne_self, and_true, Bool.not_true, Bool.not_false, Int.toNat_zero, Int.reduceToNat, Nat.mul_one, Int.toNat_one, hww, decide_true, decide_false, Int.reduceEq, Int.cast_ofNat_Int, List.length_nil]
theorem law8b (s : List UInt8) (hs : s.length ≤ 9223372036854775807) (at_ : Int) (ha1 : -9223372036854775808 ≤ at_) (ha2 : at_ ≤ 9223372036854775807) (c : UInt8) (b : UInt8) (hb : badc b = true) (hbv0 : b = c) (q10' : ¬ ((c.toNat : Nat) : Int) = 10) (q32' : 32 ≤ ((c.toNat : Nat) : Int)) (q126' : ¬ ((c.toNat : Nat) : Int) ≤ 126) :
    ACalls Try.prog 8 [str s, num at_, .raw (.int .u8 ((c.toNat : Nat) : Int))] (fun r => r = tru true) := by
  subst hbv0
  have q10 := eq_false (show ¬ ((b.toNat : Nat) : Int) = 10 by omega)
  have q32 := eq_true (show 32 ≤ ((b.toNat : Nat) : Int) by omega)
  have q126 := eq_false (show ¬ ((b.toNat : Nat) : Int) ≤ 126 by omega)
  refine calls_short [] ttok hmix Try.func8 (by decide) (by decide +kernel) (by simp only [Try.f8, Option.bind_some, comp, cops, cguard, gslot, List.getElem?_toArray, List.getElem?_cons_succ, List.getElem?_cons_zero, vlook, tlook]; rfl) Try.ntmps8 Try.results8 ⟨_, rfl⟩ rfl ?_
  simp only [List.length_cons, List.length_nil, Nat.reduceAdd, Nat.reduceSub, List.replicate_succ, List.replicate_zero, List.cons_append, List.nil_append, num, str, tru]
  simp (decide := true) only [mkd_eq [12, 15, 9] [] [] [[57, 9], [15], [59, 57], [59], [], [], [63], [64, 63, 9], [63, 15], [66, 64, 63], [66, 63], [63], [12, 63], [63], [63], [72], [72, 12], [74, 72, 9], [72, 15], [76, 74, 72], [76, 72], [72], [72], [80, 72, 9], [72, 15], [82, 80, 72], [82, 72], [72], [72], [72], [72], [72]], List.zip_cons_cons, List.zip_nil_left, List.zip_nil_right]
  simp (decide := true) only [mkd_eq [12, 8] [] [] [[8], [12], [], [], [], [], [], [8], [12], [], [], [], [94], [94], [94], [94], [], [], []], List.zip_cons_cons, List.zip_nil_left, List.zip_nil_right]
  repeat' first | with_reducible refine asq_dmk (fun _ => ?_) (fun _ => ?_) | with_reducible refine asq_ndmk (fun _ => ?_) (fun _ => ?_) | with_reducible refine asq_nmk (fun _ => ?_) (fun _ => ?_) | with_reducible refine asq_mk (fun _ => ?_) (fun _ => ?_) | with_reducible refine asp_dmk (fun _ => ?_) (fun _ => ?_) | with_reducible refine asp_ndmk (fun _ => ?_) (fun _ => ?_) | with_reducible refine asp_nmk (fun _ => ?_) (fun _ => ?_) | with_reducible refine asp_mk (fun _ => ?_) (fun _ => ?_) | with_reducible refine And.intro (by first | omega | rfl | decide | with_unfolding_all rfl) ?_ | simp only [go_sem, Nat.reduceLT, Nat.reduceAdd, Nat.reduceSub, Nat.reduceMul, Nat.reduceLeDiff, ne_eq, Nat.reduceEqDiff, not_false_eq_true, Bool.and_true, Bool.true_and, Nat.succ_ne_self, and_true, Bool.not_true, Bool.not_false, Int.toNat_zero, Int.reduceToNat, Nat.mul_one, Int.toNat_one]
  refine sane9.mono ?_
  rintro r rfl
  simp only [tru]
  repeat' first | with_reducible refine asq_dmk (fun _ => ?_) (fun _ => ?_) | with_reducible refine asq_ndmk (fun _ => ?_) (fun _ => ?_) | with_reducible refine asq_nmk (fun _ => ?_) (fun _ => ?_) | with_reducible refine asq_mk (fun _ => ?_) (fun _ => ?_) | with_reducible refine asp_dmk (fun _ => ?_) (fun _ => ?_) | with_reducible refine asp_ndmk (fun _ => ?_) (fun _ => ?_) | with_reducible refine asp_nmk (fun _ => ?_) (fun _ => ?_) | with_reducible refine asp_mk (fun _ => ?_) (fun _ => ?_) | with_reducible refine And.intro (by first | omega | rfl | decide | with_unfolding_all rfl) ?_ | simp only [go_sem, Nat.reduceLT, Nat.reduceAdd, Nat.reduceSub, Nat.reduceMul, Nat.reduceLeDiff, ne_eq, Nat.reduceEqDiff, not_false_eq_true, Bool.and_true, Bool.true_and, Nat.succ_ne_self, and_true, Bool.not_true, Bool.not_false, Int.toNat_zero, Int.reduceToNat, Nat.mul_one, Int.toNat_one]
  have hc : (List.take (min (s.length : Int) 600).toNat s).length ≤ 600 := cut_len (s := s) (n := 600)
  generalize List.take (min (s.length : Int) 600).toNat s = t at hc
  refine (tokW10 t (by omega)).mono ?_
  rintro r rfl
  rcases tokL_cases t with ⟨x, hx⟩ | ⟨hx, hl1, hk⟩
  · simp only [tokensW, hx, num, List.map_nil]
    repeat' first | with_reducible refine asq_dmk (fun _ => ?_) (fun _ => ?_) | with_reducible refine asq_ndmk (fun _ => ?_) (fun _ => ?_) | with_reducible refine asq_nmk (fun _ => ?_) (fun _ => ?_) | with_reducible refine asq_mk (fun _ => ?_) (fun _ => ?_) | with_reducible refine asp_dmk (fun _ => ?_) (fun _ => ?_) | with_reducible refine asp_ndmk (fun _ => ?_) (fun _ => ?_) | with_reducible refine asp_nmk (fun _ => ?_) (fun _ => ?_) | with_reducible refine asp_mk (fun _ => ?_) (fun _ => ?_) | with_reducible refine And.intro (by first | omega | rfl | decide | with_unfolding_all rfl) ?_ | simp only [go_sem, Nat.reduceLT, Nat.reduceAdd, Nat.reduceSub, Nat.reduceMul, Nat.reduceLeDiff, ne_eq, Nat.reduceEqDiff, not_false_eq_true, Bool.and_true, Bool.true_and, Nat.succ_ne_self, and_true, Bool.not_true, Bool.not_false, Int.toNat_zero, Int.reduceToNat, Nat.mul_one, Int.toNat_one, Int.reduceEq, decide_false, decide_true, Int.cast_ofNat_Int, List.length_nil]
  · have htl := toks_len t
    simp only [tokensW, hx, num]
    have hwl : IntKind.i64.wrap ((t.length : Int) + 1) = ((t.length + 1 : Nat) : Int) := wrap_succ (by omega)
    repeat' first | with_reducible refine asq_dmk (fun _ => ?_) (fun _ => ?_) | with_reducible refine asq_ndmk (fun _ => ?_) (fun _ => ?_) | with_reducible refine asq_nmk (fun _ => ?_) (fun _ => ?_) | with_reducible refine asq_mk (fun _ => ?_) (fun _ => ?_) | with_reducible refine asp_dmk (fun _ => ?_) (fun _ => ?_) | with_reducible refine asp_ndmk (fun _ => ?_) (fun _ => ?_) | with_reducible refine asp_nmk (fun _ => ?_) (fun _ => ?_) | with_reducible refine asp_mk (fun _ => ?_) (fun _ => ?_) | with_reducible refine And.intro (by first | omega | rfl | decide | with_unfolding_all rfl) ?_ | simp only [go_sem, Nat.reduceLT, Nat.reduceAdd, Nat.reduceSub, Nat.reduceMul, Nat.reduceLeDiff, ne_eq, Nat.reduceEqDiff, not_false_eq_true, Bool.and_true, Bool.true_and, Nat.succ_ne_self, and_true, Bool.not_true, Bool.not_false, Int.toNat_zero, Int.reduceToNat, Nat.mul_one, Int.toNat_one, Int.reduceEq, decide_false, decide_true, Int.cast_ofNat_Int, List.length_nil, hwl]
    refine (pick16 at_ ha1 ha2 (t.length + 1) (by omega) (by omega)).mono ?_
    rintro r rfl
    have hkl := pickN_lt (a := at_) (n := t.length + 1) (by omega)
    generalize pickN at_ (t.length + 1) = k at hkl
    simp only [num]
    repeat' first | with_reducible refine asq_dmk (fun _ => ?_) (fun _ => ?_) | with_reducible refine asq_ndmk (fun _ => ?_) (fun _ => ?_) | with_reducible refine asq_nmk (fun _ => ?_) (fun _ => ?_) | with_reducible refine asq_mk (fun _ => ?_) (fun _ => ?_) | with_reducible refine asp_dmk (fun _ => ?_) (fun _ => ?_) | with_reducible refine asp_ndmk (fun _ => ?_) (fun _ => ?_) | with_reducible refine asp_nmk (fun _ => ?_) (fun _ => ?_) | with_reducible refine asp_mk (fun _ => ?_) (fun _ => ?_) | with_reducible refine And.intro (by first | omega | rfl | decide | with_unfolding_all rfl) ?_ | simp only [go_sem, Nat.reduceLT, Nat.reduceAdd, Nat.reduceSub, Nat.reduceMul, Nat.reduceLeDiff, ne_eq, Nat.reduceEqDiff, not_false_eq_true, Bool.and_true, Bool.true_and, Nat.succ_ne_self, and_true, Bool.not_true, Bool.not_false, Int.toNat_zero, Int.reduceToNat, Nat.mul_one, Int.toNat_one, q10, q32, q126, decide_true, decide_false]
    refine cwp_loop [false, false, false, false, false, false, false, false, false, true, false, false, false, true, true, true, false, false, false, false, false, false, false, false, false, false, false, false, false, false, false, false, false, false, false, false, false, false, false, false, true, true, true, true, true, true, true, true, true, true, true, true, true, true, true, true, true, true, true, true, true, true, true, true, true, true, true, true, true, true, true, true, true, true, true, true, true, true, true, true, true, true, true, true, true, true, true, true, true, true, true, true, true, true, false, false, false, false, false, false, false, false, false, false, false, false, false, false, false, false, false, false, false, false, false, false, false, false, false, false, false, false, false, false, false] [9, 13, 14, 15] (fun n xs => ∃ (j : Nat), j ≤ (toks t).length ∧ j + n = (toks t).length ∧ xs = [.sl 3 ((toks t).map tk), .raw (.int .u8 ((b.toNat : Nat) : Int)), num ((((toks t).take j).foldl (want1 k) k : Nat) : Int), num j]) ⟨(toks t).length, _, ⟨0, by omega, by omega, rfl⟩, ?_⟩ ?_
    · simp only [List.take_zero, List.foldl_nil]
      simp only [hvm_t, hvm_f, hvm_nil, puts_cons, puts_nil, List.set_cons_zero, List.set_cons_succ, num]
      repeat first | exact Wk.nil | refine wk_ownsl ?_ | refine Wk.same ?_ | refine wk_any ?_
    · rintro n xs ⟨j, hjl, hn, rfl⟩
      simp only [hvm_t, hvm_f, hvm_nil, puts_cons, puts_nil, List.set_cons_zero, List.set_cons_succ, num]
      rcases Nat.lt_or_ge j (toks t).length with hlt | hge
      · have ej := eq_true (show (j : Int) < ((toks t).length : Int) by omega)
        obtain ⟨x, hx⟩ : ∃ x, (toks t)[j]? = some x := ⟨_, List.getElem?_eq_getElem hlt⟩
        have hgx := tk_at hx
        have hxb := sc_bound (toks t) t 0 none rfl hk x (List.mem_of_getElem? hx)
        have hfold : ((toks t).take (j + 1)).foldl (want1 k) k = want1 k (((toks t).take j).foldl (want1 k) k) x := by
          rw [List.take_add_one, hx, List.foldl_append]; rfl
        have hw : IntKind.i64.wrap ((j : Int) + 1) = ((j + 1 : Nat) : Int) := wrap_succ (by omega)
        have hwa : IntKind.i64.wrap ((x.a : Int) + 1) = ((x.a + 1 : Nat) : Int) := wrap_succ (by omega)
        have hwb : IntKind.i64.wrap (((x.a + 1 : Nat) : Int) + (x.t.length : Int)) = ((x.a + 1 + x.t.length : Nat) : Int) := by rw [wrap_in (by omega) (by omega)]; omega
        by_cases hk4 : x.k = 4
        · by_cases hk5 : x.a < k
          · by_cases hk6 : k ≤ x.a + 1 + x.t.length
            · have z0 := eq_true (show x.k = 4 by omega)
              have z1 := eq_true (show (x.a : Int) < (k : Int) by omega)
              have z2 := eq_true (show (k : Int) ≤ ((x.a + 1 + x.t.length : Nat) : Int) by omega)
              have hnx : ((toks t).take (j + 1)).foldl (want1 k) k = x.a := by rw [hfold, want1, if_pos (by omega)]
              repeat' first | with_reducible refine asq_dmk (fun _ => ?_) (fun _ => ?_) | with_reducible refine asq_ndmk (fun _ => ?_) (fun _ => ?_) | with_reducible refine asq_nmk (fun _ => ?_) (fun _ => ?_) | with_reducible refine asq_mk (fun _ => ?_) (fun _ => ?_) | with_reducible refine asp_dmk (fun _ => ?_) (fun _ => ?_) | with_reducible refine asp_ndmk (fun _ => ?_) (fun _ => ?_) | with_reducible refine asp_nmk (fun _ => ?_) (fun _ => ?_) | with_reducible refine asp_mk (fun _ => ?_) (fun _ => ?_) | with_reducible refine And.intro (by first | omega | rfl | decide | with_unfolding_all rfl) ?_ | simp only [go_sem, Nat.reduceLT, Nat.reduceAdd, Nat.reduceSub, Nat.reduceMul, Nat.reduceLeDiff, ne_eq, Nat.reduceEqDiff, not_false_eq_true, Bool.and_true, Bool.true_and, Nat.succ_ne_self, and_true, Bool.not_true, Bool.not_false, Int.toNat_zero, Int.reduceToNat, Nat.mul_one, Int.toNat_one, ej, hw, hgx, hwa, hwb, z0, z1, z2, List.length_map, decide_true, decide_false, Bool.false_eq_true]
              all_goals try (exfalso; omega)
              all_goals (refine lend_mk (n - 1) [.sl 3 ((toks t).map tk), .raw (.int .u8 ((b.toNat : Nat) : Int)), num ((((toks t).take (j + 1)).foldl (want1 k) k : Nat) : Int), num ((j + 1 : Nat) : Int)] (by omega) ⟨j + 1, by omega, by omega, rfl⟩ ?_; rw [hnx]; simp only [hvm_t, hvm_f, hvm_nil, puts_cons, puts_nil, List.set_cons_zero, List.set_cons_succ, num]; repeat first | exact Wk.nil | refine Wk.same ?_ | refine wk_any ?_)
            · have z0 := eq_true (show x.k = 4 by omega)
              have z1 := eq_true (show (x.a : Int) < (k : Int) by omega)
              have z2 := eq_false (show ¬ (k : Int) ≤ ((x.a + 1 + x.t.length : Nat) : Int) by omega)
              have hnx : ((toks t).take (j + 1)).foldl (want1 k) k = ((toks t).take j).foldl (want1 k) k := by rw [hfold, want1, if_neg (by omega)]
              repeat' first | with_reducible refine asq_dmk (fun _ => ?_) (fun _ => ?_) | with_reducible refine asq_ndmk (fun _ => ?_) (fun _ => ?_) | with_reducible refine asq_nmk (fun _ => ?_) (fun _ => ?_) | with_reducible refine asq_mk (fun _ => ?_) (fun _ => ?_) | with_reducible refine asp_dmk (fun _ => ?_) (fun _ => ?_) | with_reducible refine asp_ndmk (fun _ => ?_) (fun _ => ?_) | with_reducible refine asp_nmk (fun _ => ?_) (fun _ => ?_) | with_reducible refine asp_mk (fun _ => ?_) (fun _ => ?_) | with_reducible refine And.intro (by first | omega | rfl | decide | with_unfolding_all rfl) ?_ | simp only [go_sem, Nat.reduceLT, Nat.reduceAdd, Nat.reduceSub, Nat.reduceMul, Nat.reduceLeDiff, ne_eq, Nat.reduceEqDiff, not_false_eq_true, Bool.and_true, Bool.true_and, Nat.succ_ne_self, and_true, Bool.not_true, Bool.not_false, Int.toNat_zero, Int.reduceToNat, Nat.mul_one, Int.toNat_one, ej, hw, hgx, hwa, hwb, z0, z1, z2, List.length_map, decide_true, decide_false, Bool.false_eq_true]
              all_goals try (exfalso; omega)
              all_goals (refine lend_mk (n - 1) [.sl 3 ((toks t).map tk), .raw (.int .u8 ((b.toNat : Nat) : Int)), num ((((toks t).take (j + 1)).foldl (want1 k) k : Nat) : Int), num ((j + 1 : Nat) : Int)] (by omega) ⟨j + 1, by omega, by omega, rfl⟩ ?_; rw [hnx]; simp only [hvm_t, hvm_f, hvm_nil, puts_cons, puts_nil, List.set_cons_zero, List.set_cons_succ, num]; repeat first | exact Wk.nil | refine Wk.same ?_ | refine wk_any ?_)
          · have z0 := eq_true (show x.k = 4 by omega)
            have z1 := eq_false (show ¬ (x.a : Int) < (k : Int) by omega)
            have hnx : ((toks t).take (j + 1)).foldl (want1 k) k = ((toks t).take j).foldl (want1 k) k := by rw [hfold, want1, if_neg (by omega)]
            repeat' first | with_reducible refine asq_dmk (fun _ => ?_) (fun _ => ?_) | with_reducible refine asq_ndmk (fun _ => ?_) (fun _ => ?_) | with_reducible refine asq_nmk (fun _ => ?_) (fun _ => ?_) | with_reducible refine asq_mk (fun _ => ?_) (fun _ => ?_) | with_reducible refine asp_dmk (fun _ => ?_) (fun _ => ?_) | with_reducible refine asp_ndmk (fun _ => ?_) (fun _ => ?_) | with_reducible refine asp_nmk (fun _ => ?_) (fun _ => ?_) | with_reducible refine asp_mk (fun _ => ?_) (fun _ => ?_) | with_reducible refine And.intro (by first | omega | rfl | decide | with_unfolding_all rfl) ?_ | simp only [go_sem, Nat.reduceLT, Nat.reduceAdd, Nat.reduceSub, Nat.reduceMul, Nat.reduceLeDiff, ne_eq, Nat.reduceEqDiff, not_false_eq_true, Bool.and_true, Bool.true_and, Nat.succ_ne_self, and_true, Bool.not_true, Bool.not_false, Int.toNat_zero, Int.reduceToNat, Nat.mul_one, Int.toNat_one, ej, hw, hgx, hwa, hwb, z0, z1, List.length_map, decide_true, decide_false, Bool.false_eq_true]
            all_goals try (exfalso; omega)
            all_goals (refine lend_mk (n - 1) [.sl 3 ((toks t).map tk), .raw (.int .u8 ((b.toNat : Nat) : Int)), num ((((toks t).take (j + 1)).foldl (want1 k) k : Nat) : Int), num ((j + 1 : Nat) : Int)] (by omega) ⟨j + 1, by omega, by omega, rfl⟩ ?_; rw [hnx]; simp only [hvm_t, hvm_f, hvm_nil, puts_cons, puts_nil, List.set_cons_zero, List.set_cons_succ, num]; repeat first | exact Wk.nil | refine Wk.same ?_ | refine wk_any ?_)
        · have z0 := eq_false (show ¬ x.k = 4 by omega)
          have hnx : ((toks t).take (j + 1)).foldl (want1 k) k = ((toks t).take j).foldl (want1 k) k := by rw [hfold, want1, if_neg (by omega)]
          repeat' first | with_reducible refine asq_dmk (fun _ => ?_) (fun _ => ?_) | with_reducible refine asq_ndmk (fun _ => ?_) (fun _ => ?_) | with_reducible refine asq_nmk (fun _ => ?_) (fun _ => ?_) | with_reducible refine asq_mk (fun _ => ?_) (fun _ => ?_) | with_reducible refine asp_dmk (fun _ => ?_) (fun _ => ?_) | with_reducible refine asp_ndmk (fun _ => ?_) (fun _ => ?_) | with_reducible refine asp_nmk (fun _ => ?_) (fun _ => ?_) | with_reducible refine asp_mk (fun _ => ?_) (fun _ => ?_) | with_reducible refine And.intro (by first | omega | rfl | decide | with_unfolding_all rfl) ?_ | simp only [go_sem, Nat.reduceLT, Nat.reduceAdd, Nat.reduceSub, Nat.reduceMul, Nat.reduceLeDiff, ne_eq, Nat.reduceEqDiff, not_false_eq_true, Bool.and_true, Bool.true_and, Nat.succ_ne_self, and_true, Bool.not_true, Bool.not_false, Int.toNat_zero, Int.reduceToNat, Nat.mul_one, Int.toNat_one, ej, hw, hgx, hwa, hwb, z0, List.length_map, decide_true, decide_false, Bool.false_eq_true]
          all_goals try (exfalso; omega)
          all_goals (refine lend_mk (n - 1) [.sl 3 ((toks t).map tk), .raw (.int .u8 ((b.toNat : Nat) : Int)), num ((((toks t).take (j + 1)).foldl (want1 k) k : Nat) : Int), num ((j + 1 : Nat) : Int)] (by omega) ⟨j + 1, by omega, by omega, rfl⟩ ?_; rw [hnx]; simp only [hvm_t, hvm_f, hvm_nil, puts_cons, puts_nil, List.set_cons_zero, List.set_cons_succ, num]; repeat first | exact Wk.nil | refine Wk.same ?_ | refine wk_any ?_)
      · have ej := eq_false (show ¬ (j : Int) < ((toks t).length : Int) by omega)
        obtain rfl : j = (toks t).length := by omega
        rw [List.take_length]
        have hfin := tokL_ins hb hc hk (i := k) (by omega)
        have hb1 : [AV.raw (.int .u8 ((b.toNat : Nat) : Int))] = bytesA [b] := rfl
        have hbv : List.map view (bytesA [b]) = bytesA [b] := rfl
        have hdt : (t.drop k).take (t.length - k) = t.drop k := List.take_of_length_le (by simp)
        have hcat : t.take k ++ [b] ++ t.drop k = t.take k ++ b :: t.drop k := by simp
        have hcl : (t.take k ++ b :: t.drop k).length ≤ 1000000 := by simp; omega
        repeat' first | with_reducible refine asq_dmk (fun _ => ?_) (fun _ => ?_) | with_reducible refine asq_ndmk (fun _ => ?_) (fun _ => ?_) | with_reducible refine asq_nmk (fun _ => ?_) (fun _ => ?_) | with_reducible refine asq_mk (fun _ => ?_) (fun _ => ?_) | with_reducible refine asp_dmk (fun _ => ?_) (fun _ => ?_) | with_reducible refine asp_ndmk (fun _ => ?_) (fun _ => ?_) | with_reducible refine asp_nmk (fun _ => ?_) (fun _ => ?_) | with_reducible refine asp_mk (fun _ => ?_) (fun _ => ?_) | with_reducible refine And.intro (by first | omega | rfl | decide | with_unfolding_all rfl) ?_ | simp only [go_sem, Nat.reduceLT, Nat.reduceAdd, Nat.reduceSub, Nat.reduceMul, Nat.reduceLeDiff, ne_eq, Nat.reduceEqDiff, not_false_eq_true, Bool.and_true, Bool.true_and, Nat.succ_ne_self, and_true, Bool.not_true, Bool.not_false, Int.toNat_zero, Int.reduceToNat, Nat.mul_one, Int.toNat_one, ej, hb1, hbv, hdt, hcat, Int.toNat_natCast, List.length_map, List.length_append, List.length_take, List.length_drop, decide_true, decide_false]
        refine (tokS10 _ hcl).mono ?_
        rintro r rfl
        simp only [tokensS, hfin, num, List.map_nil]
        have hww : (((wantT k (toks t) : Nat) : Int) = (((toks t).foldl (want1 k) k : Nat) : Int)) = True := eq_true rfl
        repeat' first | with_reducible refine asq_dmk (fun _ => ?_) (fun _ => ?_) | with_reducible refine asq_ndmk (fun _ => ?_) (fun _ => ?_) | with_reducible refine asq_nmk (fun _ => ?_) (fun _ => ?_) | with_reducible refine asq_mk (fun _ => ?_) (fun _ => ?_) | with_reducible refine asp_dmk (fun _ => ?_) (fun _ => ?_) | with_reducible refine asp_ndmk (fun _ => ?_) (fun _ => ?_) | with_reducible refine asp_nmk (fun _ => ?_) (fun _ => ?_) | with_reducible refine asp_mk (fun _ => ?_) (fun _ => ?_) | with_reducible refine And.intro (by first | omega | rfl | decide | with_unfolding_all rfl) ?_ | simp only [go_sem, Nat.reduceLT, Nat.reduceAdd, Nat.reduceSub, Nat.reduceMul, Nat.reduceLeDiff, ne_eq, Nat.reduceEqDiff, not_false_eq_true, Bool.and_true, Bool.true_and, Nat.succ_ne_self, and_true, Bool.not_true, Bool.not_false, Int.toNat_zero, Int.reduceToNat, Nat.mul_one, Int.toNat_one, hww, decide_true, decide_false, Int.reduceEq, Int.cast_ofNat_Int, List.length_nil]
theorem law8c (s : List UInt8) (hs : s.length ≤ 9223372036854775807) (at_ : Int) (ha1 : -9223372036854775808 ≤ at_) (ha2 : at_ ≤ 9223372036854775807) (c : UInt8) (b : UInt8) (hb : badc b = true) (hbv0 : b = 7) (q10' : ((c.toNat : Nat) : Int) = 10) :
    ACalls Try.prog 8 [str s, num at_, .raw (.int .u8 ((c.toNat : Nat) : Int))] (fun r => r = tru true) := by
  have hb7' : (7 : Int) = ((b.toNat : Nat) : Int) := by rw [hbv0]; rfl
  have q10 := eq_true (show ((c.toNat : Nat) : Int) = 10 by omega)
  refine calls_short [] ttok hmix Try.func8 (by decide) (by decide +kernel) (by simp only [Try.f8, Option.bind_some, comp, cops, cguard, gslot, List.getElem?_toArray, List.getElem?_cons_succ, List.getElem?_cons_zero, vlook, tlook]; rfl) Try.ntmps8 Try.results8 ⟨_, rfl⟩ rfl ?_
  simp only [List.length_cons, List.length_nil, Nat.reduceAdd, Nat.reduceSub, List.replicate_succ, List.replicate_zero, List.cons_append, List.nil_append, num, str, tru]
  simp (decide := true) only [mkd_eq [12, 15, 9] [] [] [[57, 9], [15], [59, 57], [59], [], [], [63], [64, 63, 9], [63, 15], [66, 64, 63], [66, 63], [63], [12, 63], [63], [63], [72], [72, 12], [74, 72, 9], [72, 15], [76, 74, 72], [76, 72], [72], [72], [80, 72, 9], [72, 15], [82, 80, 72], [82, 72], [72], [72], [72], [72], [72]], List.zip_cons_cons, List.zip_nil_left, List.zip_nil_right]
  simp (decide := true) only [mkd_eq [12, 8] [] [] [[8], [12], [], [], [], [], [], [8], [12], [], [], [], [94], [94], [94], [94], [], [], []], List.zip_cons_cons, List.zip_nil_left, List.zip_nil_right]
  repeat' first | with_reducible refine asq_dmk (fun _ => ?_) (fun _ => ?_) | with_reducible refine asq_ndmk (fun _ => ?_) (fun _ => ?_) | with_reducible refine asq_nmk (fun _ => ?_) (fun _ => ?_) | with_reducible refine asq_mk (fun _ => ?_) (fun _ => ?_) | with_reducible refine asp_dmk (fun _ => ?_) (fun _ => ?_) | with_reducible refine asp_ndmk (fun _ => ?_) (fun _ => ?_) | with_reducible refine asp_nmk (fun _ => ?_) (fun _ => ?_) | with_reducible refine asp_mk (fun _ => ?_) (fun _ => ?_) | with_reducible refine And.intro (by first | omega | rfl | decide | with_unfolding_all rfl) ?_ | simp only [go_sem, Nat.reduceLT, Nat.reduceAdd, Nat.reduceSub, Nat.reduceMul, Nat.reduceLeDiff, ne_eq, Nat.reduceEqDiff, not_false_eq_true, Bool.and_true, Bool.true_and, Nat.succ_ne_self, and_true, Bool.not_true, Bool.not_false, Int.toNat_zero, Int.reduceToNat, Nat.mul_one, Int.toNat_one]
  refine sane9.mono ?_
  rintro r rfl
  simp only [tru]
  repeat' first | with_reducible refine asq_dmk (fun _ => ?_) (fun _ => ?_) | with_reducible refine asq_ndmk (fun _ => ?_) (fun _ => ?_) | with_reducible refine asq_nmk (fun _ => ?_) (fun _ => ?_) | with_reducible refine asq_mk (fun _ => ?_) (fun _ => ?_) | with_reducible refine asp_dmk (fun _ => ?_) (fun _ => ?_) | with_reducible refine asp_ndmk (fun _ => ?_) (fun _ => ?_) | with_reducible refine asp_nmk (fun _ => ?_) (fun _ => ?_) | with_reducible refine asp_mk (fun _ => ?_) (fun _ => ?_) | with_reducible refine And.intro (by first | omega | rfl | decide | with_unfolding_all rfl) ?_ | simp only [go_sem, Nat.reduceLT, Nat.reduceAdd, Nat.reduceSub, Nat.reduceMul, Nat.reduceLeDiff, ne_eq, Nat.reduceEqDiff, not_false_eq_true, Bool.and_true, Bool.true_and, Nat.succ_ne_self, and_true, Bool.not_true, Bool.not_false, Int.toNat_zero, Int.reduceToNat, Nat.mul_one, Int.toNat_one]
  have hc : (List.take (min (s.length : Int) 600).toNat s).length ≤ 600 := cut_len (s := s) (n := 600)
  generalize List.take (min (s.length : Int) 600).toNat s = t at hc
  refine (tokW10 t (by omega)).mono ?_
  rintro r rfl
  rcases tokL_cases t with ⟨x, hx⟩ | ⟨hx, hl1, hk⟩
  · simp only [tokensW, hx, num, List.map_nil]
    repeat' first | with_reducible refine asq_dmk (fun _ => ?_) (fun _ => ?_) | with_reducible refine asq_ndmk (fun _ => ?_) (fun _ => ?_) | with_reducible refine asq_nmk (fun _ => ?_) (fun _ => ?_) | with_reducible refine asq_mk (fun _ => ?_) (fun _ => ?_) | with_reducible refine asp_dmk (fun _ => ?_) (fun _ => ?_) | with_reducible refine asp_ndmk (fun _ => ?_) (fun _ => ?_) | with_reducible refine asp_nmk (fun _ => ?_) (fun _ => ?_) | with_reducible refine asp_mk (fun _ => ?_) (fun _ => ?_) | with_reducible refine And.intro (by first | omega | rfl | decide | with_unfolding_all rfl) ?_ | simp only [go_sem, Nat.reduceLT, Nat.reduceAdd, Nat.reduceSub, Nat.reduceMul, Nat.reduceLeDiff, ne_eq, Nat.reduceEqDiff, not_false_eq_true, Bool.and_true, Bool.true_and, Nat.succ_ne_self, and_true, Bool.not_true, Bool.not_false, Int.toNat_zero, Int.reduceToNat, Nat.mul_one, Int.toNat_one, Int.reduceEq, decide_false, decide_true, Int.cast_ofNat_Int, List.length_nil]
  · have htl := toks_len t
    simp only [tokensW, hx, num]
    have hwl : IntKind.i64.wrap ((t.length : Int) + 1) = ((t.length + 1 : Nat) : Int) := wrap_succ (by omega)
    repeat' first | with_reducible refine asq_dmk (fun _ => ?_) (fun _ => ?_) | with_reducible refine asq_ndmk (fun _ => ?_) (fun _ => ?_) | with_reducible refine asq_nmk (fun _ => ?_) (fun _ => ?_) | with_reducible refine asq_mk (fun _ => ?_) (fun _ => ?_) | with_reducible refine asp_dmk (fun _ => ?_) (fun _ => ?_) | with_reducible refine asp_ndmk (fun _ => ?_) (fun _ => ?_) | with_reducible refine asp_nmk (fun _ => ?_) (fun _ => ?_) | with_reducible refine asp_mk (fun _ => ?_) (fun _ => ?_) | with_reducible refine And.intro (by first | omega | rfl | decide | with_unfolding_all rfl) ?_ | simp only [go_sem, Nat.reduceLT, Nat.reduceAdd, Nat.reduceSub, Nat.reduceMul, Nat.reduceLeDiff, ne_eq, Nat.reduceEqDiff, not_false_eq_true, Bool.and_true, Bool.true_and, Nat.succ_ne_self, and_true, Bool.not_true, Bool.not_false, Int.toNat_zero, Int.reduceToNat, Nat.mul_one, Int.toNat_one, Int.reduceEq, decide_false, decide_true, Int.cast_ofNat_Int, List.length_nil, hwl]
    refine (pick16 at_ ha1 ha2 (t.length + 1) (by omega) (by omega)).mono ?_
    rintro r rfl
    have hkl := pickN_lt (a := at_) (n := t.length + 1) (by omega)
    generalize pickN at_ (t.length + 1) = k at hkl
    simp only [num]
    repeat' first | with_reducible refine asq_dmk (fun _ => ?_) (fun _ => ?_) | with_reducible refine asq_ndmk (fun _ => ?_) (fun _ => ?_) | with_reducible refine asq_nmk (fun _ => ?_) (fun _ => ?_) | with_reducible refine asq_mk (fun _ => ?_) (fun _ => ?_) | with_reducible refine asp_dmk (fun _ => ?_) (fun _ => ?_) | with_reducible refine asp_ndmk (fun _ => ?_) (fun _ => ?_) | with_reducible refine asp_nmk (fun _ => ?_) (fun _ => ?_) | with_reducible refine asp_mk (fun _ => ?_) (fun _ => ?_) | with_reducible refine And.intro (by first | omega | rfl | decide | with_unfolding_all rfl) ?_ | simp only [go_sem, Nat.reduceLT, Nat.reduceAdd, Nat.reduceSub, Nat.reduceMul, Nat.reduceLeDiff, ne_eq, Nat.reduceEqDiff, not_false_eq_true, Bool.and_true, Bool.true_and, Nat.succ_ne_self, and_true, Bool.not_true, Bool.not_false, Int.toNat_zero, Int.reduceToNat, Nat.mul_one, Int.toNat_one, q10, decide_true, decide_false]
    refine cwp_loop [false, false, false, false, false, false, false, false, false, true, false, false, false, true, true, true, false, false, false, false, false, false, false, false, false, false, false, false, false, false, false, false, false, false, false, false, false, false, false, false, true, true, true, true, true, true, true, true, true, true, true, true, true, true, true, true, true, true, true, true, true, true, true, true, true, true, true, true, true, true, true, true, true, true, true, true, true, true, true, true, true, true, true, true, true, true, true, true, true, true, true, true, true, true, false, false, false, false, false, false, false, false, false, false, false, false, false, false, false, false, false, false, false, false, false, false, false, false, false, false, false, false, false, false, false] [9, 13, 14, 15] (fun n xs => ∃ (j : Nat), j ≤ (toks t).length ∧ j + n = (toks t).length ∧ xs = [.sl 3 ((toks t).map tk), .raw (.int .u8 ((b.toNat : Nat) : Int)), num ((((toks t).take j).foldl (want1 k) k : Nat) : Int), num j]) ⟨(toks t).length, _, ⟨0, by omega, by omega, rfl⟩, ?_⟩ ?_
    · simp only [List.take_zero, List.foldl_nil]
      simp only [hvm_t, hvm_f, hvm_nil, puts_cons, puts_nil, List.set_cons_zero, List.set_cons_succ, num, hb7']
      repeat first | exact Wk.nil | refine wk_ownsl ?_ | refine Wk.same ?_ | refine wk_any ?_
    · rintro n xs ⟨j, hjl, hn, rfl⟩
      simp only [hvm_t, hvm_f, hvm_nil, puts_cons, puts_nil, List.set_cons_zero, List.set_cons_succ, num]
      rcases Nat.lt_or_ge j (toks t).length with hlt | hge
      · have ej := eq_true (show (j : Int) < ((toks t).length : Int) by omega)
        obtain ⟨x, hx⟩ : ∃ x, (toks t)[j]? = some x := ⟨_, List.getElem?_eq_getElem hlt⟩
        have hgx := tk_at hx
        have hxb := sc_bound (toks t) t 0 none rfl hk x (List.mem_of_getElem? hx)
        have hfold : ((toks t).take (j + 1)).foldl (want1 k) k = want1 k (((toks t).take j).foldl (want1 k) k) x := by
          rw [List.take_add_one, hx, List.foldl_append]; rfl
        have hw : IntKind.i64.wrap ((j : Int) + 1) = ((j + 1 : Nat) : Int) := wrap_succ (by omega)
        have hwa : IntKind.i64.wrap ((x.a : Int) + 1) = ((x.a + 1 : Nat) : Int) := wrap_succ (by omega)
        have hwb : IntKind.i64.wrap (((x.a + 1 : Nat) : Int) + (x.t.length : Int)) = ((x.a + 1 + x.t.length : Nat) : Int) := by rw [wrap_in (by omega) (by omega)]; omega
        by_cases hk4 : x.k = 4
        · by_cases hk5 : x.a < k
          · by_cases hk6 : k ≤ x.a + 1 + x.t.length
            · have z0 := eq_true (show x.k = 4 by omega)
              have z1 := eq_true (show (x.a : Int) < (k : Int) by omega)
              have z2 := eq_true (show (k : Int) ≤ ((x.a + 1 + x.t.length : Nat) : Int) by omega)
              have hnx : ((toks t).take (j + 1)).foldl (want1 k) k = x.a := by rw [hfold, want1, if_pos (by omega)]
              repeat' first | with_reducible refine asq_dmk (fun _ => ?_) (fun _ => ?_) | with_reducible refine asq_ndmk (fun _ => ?_) (fun _ => ?_) | with_reducible refine asq_nmk (fun _ => ?_) (fun _ => ?_) | with_reducible refine asq_mk (fun _ => ?_) (fun _ => ?_) | with_reducible refine asp_dmk (fun _ => ?_) (fun _ => ?_) | with_reducible refine asp_ndmk (fun _ => ?_) (fun _ => ?_) | with_reducible refine asp_nmk (fun _ => ?_) (fun _ => ?_) | with_reducible refine asp_mk (fun _ => ?_) (fun _ => ?_) | with_reducible refine And.intro (by first | omega | rfl | decide | with_unfolding_all rfl) ?_ | simp only [go_sem, Nat.reduceLT, Nat.reduceAdd, Nat.reduceSub, Nat.reduceMul, Nat.reduceLeDiff, ne_eq, Nat.reduceEqDiff, not_false_eq_true, Bool.and_true, Bool.true_and, Nat.succ_ne_self, and_true, Bool.not_true, Bool.not_false, Int.toNat_zero, Int.reduceToNat, Nat.mul_one, Int.toNat_one, ej, hw, hgx, hwa, hwb, z0, z1, z2, List.length_map, decide_true, decide_false, Bool.false_eq_true]
              all_goals try (exfalso; omega)
              all_goals (refine lend_mk (n - 1) [.sl 3 ((toks t).map tk), .raw (.int .u8 ((b.toNat : Nat) : Int)), num ((((toks t).take (j + 1)).foldl (want1 k) k : Nat) : Int), num ((j + 1 : Nat) : Int)] (by omega) ⟨j + 1, by omega, by omega, rfl⟩ ?_; rw [hnx]; simp only [hvm_t, hvm_f, hvm_nil, puts_cons, puts_nil, List.set_cons_zero, List.set_cons_succ, num]; repeat first | exact Wk.nil | refine Wk.same ?_ | refine wk_any ?_)
            · have z0 := eq_true (show x.k = 4 by omega)
              have z1 := eq_true (show (x.a : Int) < (k : Int) by omega)
              have z2 := eq_false (show ¬ (k : Int) ≤ ((x.a + 1 + x.t.length : Nat) : Int) by omega)
              have hnx : ((toks t).take (j + 1)).foldl (want1 k) k = ((toks t).take j).foldl (want1 k) k := by rw [hfold, want1, if_neg (by omega)]
              repeat' first | with_reducible refine asq_dmk (fun _ => ?_) (fun _ => ?_) | with_reducible refine asq_ndmk (fun _ => ?_) (fun _ => ?_) | with_reducible refine asq_nmk (fun _ => ?_) (fun _ => ?_) | with_reducible refine asq_mk (fun _ => ?_) (fun _ => ?_) | with_reducible refine asp_dmk (fun _ => ?_) (fun _ => ?_) | with_reducible refine asp_ndmk (fun _ => ?_) (fun _ => ?_) | with_reducible refine asp_nmk (fun _ => ?_) (fun _ => ?_) | with_reducible refine asp_mk (fun _ => ?_) (fun _ => ?_) | with_reducible refine And.intro (by first | omega | rfl | decide | with_unfolding_all rfl) ?_ | simp only [go_sem, Nat.reduceLT, Nat.reduceAdd, Nat.reduceSub, Nat.reduceMul, Nat.reduceLeDiff, ne_eq, Nat.reduceEqDiff, not_false_eq_true, Bool.and_true, Bool.true_and, Nat.succ_ne_self, and_true, Bool.not_true, Bool.not_false, Int.toNat_zero, Int.reduceToNat, Nat.mul_one, Int.toNat_one, ej, hw, hgx, hwa, hwb, z0, z1, z2, List.length_map, decide_true, decide_false, Bool.false_eq_true]
              all_goals try (exfalso; omega)
              all_goals (refine lend_mk (n - 1) [.sl 3 ((toks t).map tk), .raw (.int .u8 ((b.toNat : Nat) : Int)), num ((((toks t).take (j + 1)).foldl (want1 k) k : Nat) : Int), num ((j + 1 : Nat) : Int)] (by omega) ⟨j + 1, by omega, by omega, rfl⟩ ?_; rw [hnx]; simp only [hvm_t, hvm_f, hvm_nil, puts_cons, puts_nil, List.set_cons_zero, List.set_cons_succ, num]; repeat first | exact Wk.nil | refine Wk.same ?_ | refine wk_any ?_)
          · have z0 := eq_true (show x.k = 4 by omega)
            have z1 := eq_false (show ¬ (x.a : Int) < (k : Int) by omega)
            have hnx : ((toks t).take (j + 1)).foldl (want1 k) k = ((toks t).take j).foldl (want1 k) k := by rw [hfold, want1, if_neg (by omega)]
            repeat' first | with_reducible refine asq_dmk (fun _ => ?_) (fun _ => ?_) | with_reducible refine asq_ndmk (fun _ => ?_) (fun _ => ?_) | with_reducible refine asq_nmk (fun _ => ?_) (fun _ => ?_) | with_reducible refine asq_mk (fun _ => ?_) (fun _ => ?_) | with_reducible refine asp_dmk (fun _ => ?_) (fun _ => ?_) | with_reducible refine asp_ndmk (fun _ => ?_) (fun _ => ?_) | with_reducible refine asp_nmk (fun _ => ?_) (fun _ => ?_) | with_reducible refine asp_mk (fun _ => ?_) (fun _ => ?_) | with_reducible refine And.intro (by first | omega | rfl | decide | with_unfolding_all rfl) ?_ | simp only [go_sem, Nat.reduceLT, Nat.reduceAdd, Nat.reduceSub, Nat.reduceMul, Nat.reduceLeDiff, ne_eq, Nat.reduceEqDiff, not_false_eq_true, Bool.and_true, Bool.true_and, Nat.succ_ne_self, and_true, Bool.not_true, Bool.not_false, Int.toNat_zero, Int.reduceToNat, Nat.mul_one, Int.toNat_one, ej, hw, hgx, hwa, hwb, z0, z1, List.length_map, decide_true, decide_false, Bool.false_eq_true]
            all_goals try (exfalso; omega)
            all_goals (refine lend_mk (n - 1) [.sl 3 ((toks t).map tk), .raw (.int .u8 ((b.toNat : Nat) : Int)), num ((((toks t).take (j + 1)).foldl (want1 k) k : Nat) : Int), num ((j + 1 : Nat) : Int)] (by omega) ⟨j + 1, by omega, by omega, rfl⟩ ?_; rw [hnx]; simp only [hvm_t, hvm_f, hvm_nil, puts_cons, puts_nil, List.set_cons_zero, List.set_cons_succ, num]; repeat first | exact Wk.nil | refine Wk.same ?_ | refine wk_any ?_)
        · have z0 := eq_false (show ¬ x.k = 4 by omega)
          have hnx : ((toks t).take (j + 1)).foldl (want1 k) k = ((toks t).take j).foldl (want1 k) k := by rw [hfold, want1, if_neg (by omega)]
          repeat' first | with_reducible refine asq_dmk (fun _ => ?_) (fun _ => ?_) | with_reducible refine asq_ndmk (fun _ => ?_) (fun _ => ?_) | with_reducible refine asq_nmk (fun _ => ?_) (fun _ => ?_) | with_reducible refine asq_mk (fun _ => ?_) (fun _ => ?_) | with_reducible refine asp_dmk (fun _ => ?_) (fun _ => ?_) | with_reducible refine asp_ndmk (fun _ => ?_) (fun _ => ?_) | with_reducible refine asp_nmk (fun _ => ?_) (fun _ => ?_) | with_reducible refine asp_mk (fun _ => ?_) (fun _ => ?_) | with_reducible refine And.intro (by first | omega | rfl | decide | with_unfolding_all rfl) ?_ | simp only [go_sem, Nat.reduceLT, Nat.reduceAdd, Nat.reduceSub, Nat.reduceMul, Nat.reduceLeDiff, ne_eq, Nat.reduceEqDiff, not_false_eq_true, Bool.and_true, Bool.true_and, Nat.succ_ne_self, and_true, Bool.not_true, Bool.not_false, Int.toNat_zero, Int.reduceToNat, Nat.mul_one, Int.toNat_one, ej, hw, hgx, hwa, hwb, z0, List.length_map, decide_true, decide_false, Bool.false_eq_true]
          all_goals try (exfalso; omega)
          all_goals (refine lend_mk (n - 1) [.sl 3 ((toks t).map tk), .raw (.int .u8 ((b.toNat : Nat) : Int)), num ((((toks t).take (j + 1)).foldl (want1 k) k : Nat) : Int), num ((j + 1 : Nat) : Int)] (by omega) ⟨j + 1, by omega, by omega, rfl⟩ ?_; rw [hnx]; simp only [hvm_t, hvm_f, hvm_nil, puts_cons, puts_nil, List.set_cons_zero, List.set_cons_succ, num]; repeat first | exact Wk.nil | refine Wk.same ?_ | refine wk_any ?_)
      · have ej := eq_false (show ¬ (j : Int) < ((toks t).length : Int) by omega)
        obtain rfl : j = (toks t).length := by omega
        rw [List.take_length]
        have hfin := tokL_ins hb hc hk (i := k) (by omega)
        have hb1 : [AV.raw (.int .u8 ((b.toNat : Nat) : Int))] = bytesA [b] := rfl
        have hbv : List.map view (bytesA [b]) = bytesA [b] := rfl
        have hdt : (t.drop k).take (t.length - k) = t.drop k := List.take_of_length_le (by simp)
        have hcat : t.take k ++ [b] ++ t.drop k = t.take k ++ b :: t.drop k := by simp
        have hcl : (t.take k ++ b :: t.drop k).length ≤ 1000000 := by simp; omega
        repeat' first | with_reducible refine asq_dmk (fun _ => ?_) (fun _ => ?_) | with_reducible refine asq_ndmk (fun _ => ?_) (fun _ => ?_) | with_reducible refine asq_nmk (fun _ => ?_) (fun _ => ?_) | with_reducible refine asq_mk (fun _ => ?_) (fun _ => ?_) | with_reducible refine asp_dmk (fun _ => ?_) (fun _ => ?_) | with_reducible refine asp_ndmk (fun _ => ?_) (fun _ => ?_) | with_reducible refine asp_nmk (fun _ => ?_) (fun _ => ?_) | with_reducible refine asp_mk (fun _ => ?_) (fun _ => ?_) | with_reducible refine And.intro (by first | omega | rfl | decide | with_unfolding_all rfl) ?_ | simp only [go_sem, Nat.reduceLT, Nat.reduceAdd, Nat.reduceSub, Nat.reduceMul, Nat.reduceLeDiff, ne_eq, Nat.reduceEqDiff, not_false_eq_true, Bool.and_true, Bool.true_and, Nat.succ_ne_self, and_true, Bool.not_true, Bool.not_false, Int.toNat_zero, Int.reduceToNat, Nat.mul_one, Int.toNat_one, ej, hb1, hbv, hdt, hcat, Int.toNat_natCast, List.length_map, List.length_append, List.length_take, List.length_drop, decide_true, decide_false]
        refine (tokS10 _ hcl).mono ?_
        rintro r rfl
        simp only [tokensS, hfin, num, List.map_nil]
        have hww : (((wantT k (toks t) : Nat) : Int) = (((toks t).foldl (want1 k) k : Nat) : Int)) = True := eq_true rfl
        repeat' first | with_reducible refine asq_dmk (fun _ => ?_) (fun _ => ?_) | with_reducible refine asq_ndmk (fun _ => ?_) (fun _ => ?_) | with_reducible refine asq_nmk (fun _ => ?_) (fun _ => ?_) | with_reducible refine asq_mk (fun _ => ?_) (fun _ => ?_) | with_reducible refine asp_dmk (fun _ => ?_) (fun _ => ?_) | with_reducible refine asp_ndmk (fun _ => ?_) (fun _ => ?_) | with_reducible refine asp_nmk (fun _ => ?_) (fun _ => ?_) | with_reducible refine asp_mk (fun _ => ?_) (fun _ => ?_) | with_reducible refine And.intro (by first | omega | rfl | decide | with_unfolding_all rfl) ?_ | simp only [go_sem, Nat.reduceLT, Nat.reduceAdd, Nat.reduceSub, Nat.reduceMul, Nat.reduceLeDiff, ne_eq, Nat.reduceEqDiff, not_false_eq_true, Bool.and_true, Bool.true_and, Nat.succ_ne_self, and_true, Bool.not_true, Bool.not_false, Int.toNat_zero, Int.reduceToNat, Nat.mul_one, Int.toNat_one, hww, decide_true, decide_false, Int.reduceEq, Int.cast_ofNat_Int, List.length_nil]
theorem law8d (s : List UInt8) (hs : s.length ≤ 9223372036854775807) (at_ : Int) (ha1 : -9223372036854775808 ≤ at_) (ha2 : at_ ≤ 9223372036854775807) (c : UInt8) (b : UInt8) (hb : badc b = true) (hbv0 : b = 7) (q10' : ¬ ((c.toNat : Nat) : Int) = 10) (q32' : 32 ≤ ((c.toNat : Nat) : Int)) (q126' : ((c.toNat : Nat) : Int) ≤ 126) :
    ACalls Try.prog 8 [str s, num at_, .raw (.int .u8 ((c.toNat : Nat) : Int))] (fun r => r = tru true) := by
  have hb7' : (7 : Int) = ((b.toNat : Nat) : Int) := by rw [hbv0]; rfl
  have q10 := eq_false (show ¬ ((c.toNat : Nat) : Int) = 10 by omega)
  have q32 := eq_true (show 32 ≤ ((c.toNat : Nat) : Int) by omega)
  have q126 := eq_true (show ((c.toNat : Nat) : Int) ≤ 126 by omega)
  refine calls_short [] ttok hmix Try.func8 (by decide) (by decide +kernel) (by simp only [Try.f8, Option.bind_some, comp, cops, cguard, gslot, List.getElem?_toArray, List.getElem?_cons_succ, List.getElem?_cons_zero, vlook, tlook]; rfl) Try.ntmps8 Try.results8 ⟨_, rfl⟩ rfl ?_
  simp only [List.length_cons, List.length_nil, Nat.reduceAdd, Nat.reduceSub, List.replicate_succ, List.replicate_zero, List.cons_append, List.nil_append, num, str, tru]
  simp (decide := true) only [mkd_eq [12, 15, 9] [] [] [[57, 9], [15], [59, 57], [59], [], [], [63], [64, 63, 9], [63, 15], [66, 64, 63], [66, 63], [63], [12, 63], [63], [63], [72], [72, 12], [74, 72, 9], [72, 15], [76, 74, 72], [76, 72], [72], [72], [80, 72, 9], [72, 15], [82, 80, 72], [82, 72], [72], [72], [72], [72], [72]], List.zip_cons_cons, List.zip_nil_left, List.zip_nil_right]
  simp (decide := true) only [mkd_eq [12, 8] [] [] [[8], [12], [], [], [], [], [], [8], [12], [], [], [], [94], [94], [94], [94], [], [], []], List.zip_cons_cons, List.zip_nil_left, List.zip_nil_right]
  repeat' first | with_reducible refine asq_dmk (fun _ => ?_) (fun _ => ?_) | with_reducible refine asq_ndmk (fun _ => ?_) (fun _ => ?_) | with_reducible refine asq_nmk (fun _ => ?_) (fun _ => ?_) | with_reducible refine asq_mk (fun _ => ?_) (fun _ => ?_) | with_reducible refine asp_dmk (fun _ => ?_) (fun _ => ?_) | with_reducible refine asp_ndmk (fun _ => ?_) (fun _ => ?_) | with_reducible refine asp_nmk (fun _ => ?_) (fun _ => ?_) | with_reducible refine asp_mk (fun _ => ?_) (fun _ => ?_) | with_reducible refine And.intro (by first | omega | rfl | decide | with_unfolding_all rfl) ?_ | simp only [go_sem, Nat.reduceLT, Nat.reduceAdd, Nat.reduceSub, Nat.reduceMul, Nat.reduceLeDiff, ne_eq, Nat.reduceEqDiff, not_false_eq_true, Bool.and_true, Bool.true_and, Nat.succ_ne_self, and_true, Bool.not_true, Bool.not_false, Int.toNat_zero, Int.reduceToNat, Nat.mul_one, Int.toNat_one]
  refine sane9.mono ?_
  rintro r rfl
  simp only [tru]
  repeat' first | with_reducible refine asq_dmk (fun _ => ?_) (fun _ => ?_) | with_reducible refine asq_ndmk (fun _ => ?_) (fun _ => ?_) | with_reducible refine asq_nmk (fun _ => ?_) (fun _ => ?_) | with_reducible refine asq_mk (fun _ => ?_) (fun _ => ?_) | with_reducible refine asp_dmk (fun _ => ?_) (fun _ => ?_) | with_reducible refine asp_ndmk (fun _ => ?_) (fun _ => ?_) | with_reducible refine asp_nmk (fun _ => ?_) (fun _ => ?_) | with_reducible refine asp_mk (fun _ => ?_) (fun _ => ?_) | with_reducible refine And.intro (by first | omega | rfl | decide | with_unfolding_all rfl) ?_ | simp only [go_sem, Nat.reduceLT, Nat.reduceAdd, Nat.reduceSub, Nat.reduceMul, Nat.reduceLeDiff, ne_eq, Nat.reduceEqDiff, not_false_eq_true, Bool.and_true, Bool.true_and, Nat.succ_ne_self, and_true, Bool.not_true, Bool.not_false, Int.toNat_zero, Int.reduceToNat, Nat.mul_one, Int.toNat_one]
  have hc : (List.take (min (s.length : Int) 600).toNat s).length ≤ 600 := cut_len (s := s) (n := 600)
  generalize List.take (min (s.length : Int) 600).toNat s = t at hc
  refine (tokW10 t (by omega)).mono ?_
  rintro r rfl
  rcases tokL_cases t with ⟨x, hx⟩ | ⟨hx, hl1, hk⟩
  · simp only [tokensW, hx, num, List.map_nil]
    repeat' first | with_reducible refine asq_dmk (fun _ => ?_) (fun _ => ?_) | with_reducible refine asq_ndmk (fun _ => ?_) (fun _ => ?_) | with_reducible refine asq_nmk (fun _ => ?_) (fun _ => ?_) | with_reducible refine asq_mk (fun _ => ?_) (fun _ => ?_) | with_reducible refine asp_dmk (fun _ => ?_) (fun _ => ?_) | with_reducible refine asp_ndmk (fun _ => ?_) (fun _ => ?_) | with_reducible refine asp_nmk (fun _ => ?_) (fun _ => ?_) | with_reducible refine asp_mk (fun _ => ?_) (fun _ => ?_) | with_reducible refine And.intro (by first | omega | rfl | decide | with_unfolding_all rfl) ?_ | simp only [go_sem, Nat.reduceLT, Nat.reduceAdd, Nat.reduceSub, Nat.reduceMul, Nat.reduceLeDiff, ne_eq, Nat.reduceEqDiff, not_false_eq_true, Bool.and_true, Bool.true_and, Nat.succ_ne_self, and_true, Bool.not_true, Bool.not_false, Int.toNat_zero, Int.reduceToNat, Nat.mul_one, Int.toNat_one, Int.reduceEq, decide_false, decide_true, Int.cast_ofNat_Int, List.length_nil]
  · have htl := toks_len t
    simp only [tokensW, hx, num]
    have hwl : IntKind.i64.wrap ((t.length : Int) + 1) = ((t.length + 1 : Nat) : Int) := wrap_succ (by omega)
    repeat' first | with_reducible refine asq_dmk (fun _ => ?_) (fun _ => ?_) | with_reducible refine asq_ndmk (fun _ => ?_) (fun _ => ?_) | with_reducible refine asq_nmk (fun _ => ?_) (fun _ => ?_) | with_reducible refine asq_mk (fun _ => ?_) (fun _ => ?_) | with_reducible refine asp_dmk (fun _ => ?_) (fun _ => ?_) | with_reducible refine asp_ndmk (fun _ => ?_) (fun _ => ?_) | with_reducible refine asp_nmk (fun _ => ?_) (fun _ => ?_) | with_reducible refine asp_mk (fun _ => ?_) (fun _ => ?_) | with_reducible refine And.intro (by first | omega | rfl | decide | with_unfolding_all rfl) ?_ | simp only [go_sem, Nat.reduceLT, Nat.reduceAdd, Nat.reduceSub, Nat.reduceMul, Nat.reduceLeDiff, ne_eq, Nat.reduceEqDiff, not_false_eq_true, Bool.and_true, Bool.true_and, Nat.succ_ne_self, and_true, Bool.not_true, Bool.not_false, Int.toNat_zero, Int.reduceToNat, Nat.mul_one, Int.toNat_one, Int.reduceEq, decide_false, decide_true, Int.cast_ofNat_Int, List.length_nil, hwl]
    refine (pick16 at_ ha1 ha2 (t.length + 1) (by omega) (by omega)).mono ?_
    rintro r rfl
    have hkl := pickN_lt (a := at_) (n := t.length + 1) (by omega)
    generalize pickN at_ (t.length + 1) = k at hkl
    simp only [num]
    repeat' first | with_reducible refine asq_dmk (fun _ => ?_) (fun _ => ?_) | with_reducible refine asq_ndmk (fun _ => ?_) (fun _ => ?_) | with_reducible refine asq_nmk (fun _ => ?_) (fun _ => ?_) | with_reducible refine asq_mk (fun _ => ?_) (fun _ => ?_) | with_reducible refine asp_dmk (fun _ => ?_) (fun _ => ?_) | with_reducible refine asp_ndmk (fun _ => ?_) (fun _ => ?_) | with_reducible refine asp_nmk (fun _ => ?_) (fun _ => ?_) | with_reducible refine asp_mk (fun _ => ?_) (fun _ => ?_) | with_reducible refine And.intro (by first | omega | rfl | decide | with_unfolding_all rfl) ?_ | simp only [go_sem, Nat.reduceLT, Nat.reduceAdd, Nat.reduceSub, Nat.reduceMul, Nat.reduceLeDiff, ne_eq, Nat.reduceEqDiff, not_false_eq_true, Bool.and_true, Bool.true_and, Nat.succ_ne_self, and_true, Bool.not_true, Bool.not_false, Int.toNat_zero, Int.reduceToNat, Nat.mul_one, Int.toNat_one, q10, q32, q126, decide_true, decide_false]
    refine cwp_loop [false, false, false, false, false, false, false, false, false, true, false, false, false, true, true, true, false, false, false, false, false, false, false, false, false, false, false, false, false, false, false, false, false, false, false, false, false, false, false, false, true, true, true, true, true, true, true, true, true, true, true, true, true, true, true, true, true, true, true, true, true, true, true, true, true, true, true, true, true, true, true, true, true, true, true, true, true, true, true, true, true, true, true, true, true, true, true, true, true, true, true, true, true, true, false, false, false, false, false, false, false, false, false, false, false, false, false, false, false, false, false, false, false, false, false, false, false, false, false, false, false, false, false, false, false] [9, 13, 14, 15] (fun n xs => ∃ (j : Nat), j ≤ (toks t).length ∧ j + n = (toks t).length ∧ xs = [.sl 3 ((toks t).map tk), .raw (.int .u8 ((b.toNat : Nat) : Int)), num ((((toks t).take j).foldl (want1 k) k : Nat) : Int), num j]) ⟨(toks t).length, _, ⟨0, by omega, by omega, rfl⟩, ?_⟩ ?_
    · simp only [List.take_zero, List.foldl_nil]
      simp only [hvm_t, hvm_f, hvm_nil, puts_cons, puts_nil, List.set_cons_zero, List.set_cons_succ, num, hb7']
      repeat first | exact Wk.nil | refine wk_ownsl ?_ | refine Wk.same ?_ | refine wk_any ?_
    · rintro n xs ⟨j, hjl, hn, rfl⟩
      simp only [hvm_t, hvm_f, hvm_nil, puts_cons, puts_nil, List.set_cons_zero, List.set_cons_succ, num]
      rcases Nat.lt_or_ge j (toks t).length with hlt | hge
      · have ej := eq_true (show (j : Int) < ((toks t).length : Int) by omega)
        obtain ⟨x, hx⟩ : ∃ x, (toks t)[j]? = some x := ⟨_, List.getElem?_eq_getElem hlt⟩
        have hgx := tk_at hx
        have hxb := sc_bound (toks t) t 0 none rfl hk x (List.mem_of_getElem? hx)
        have hfold : ((toks t).take (j + 1)).foldl (want1 k) k = want1 k (((toks t).take j).foldl (want1 k) k) x := by
          rw [List.take_add_one, hx, List.foldl_append]; rfl
        have hw : IntKind.i64.wrap ((j : Int) + 1) = ((j + 1 : Nat) : Int) := wrap_succ (by omega)
        have hwa : IntKind.i64.wrap ((x.a : Int) + 1) = ((x.a + 1 : Nat) : Int) := wrap_succ (by omega)
        have hwb : IntKind.i64.wrap (((x.a + 1 : Nat) : Int) + (x.t.length : Int)) = ((x.a + 1 + x.t.length : Nat) : Int) := by rw [wrap_in (by omega) (by omega)]; omega
        by_cases hk4 : x.k = 4
        · by_cases hk5 : x.a < k
          · by_cases hk6 : k ≤ x.a + 1 + x.t.length
            · have z0 := eq_true (show x.k = 4 by omega)
              have z1 := eq_true (show (x.a : Int) < (k : Int) by omega)
              have z2 := eq_true (show (k : Int) ≤ ((x.a + 1 + x.t.length : Nat) : Int) by omega)
              have hnx : ((toks t).take (j + 1)).foldl (want1 k) k = x.a := by rw [hfold, want1, if_pos (by omega)]
              repeat' first | with_reducible refine asq_dmk (fun _ => ?_) (fun _ => ?_) | with_reducible refine asq_ndmk (fun _ => ?_) (fun _ => ?_) | with_reducible refine asq_nmk (fun _ => ?_) (fun _ => ?_) | with_reducible refine asq_mk (fun _ => ?_) (fun _ => ?_) | with_reducible refine asp_dmk (fun _ => ?_) (fun _ => ?_) | with_reducible refine asp_ndmk (fun _ => ?_) (fun _ => ?_) | with_reducible refine asp_nmk (fun _ => ?_) (fun _ => ?_) | with_reducible refine asp_mk (fun _ => ?_) (fun _ => ?_) | with_reducible refine And.intro (by first | omega | rfl | decide | with_unfolding_all rfl) ?_ | simp only [go_sem, Nat.reduceLT, Nat.reduceAdd, Nat.reduceSub, Nat.reduceMul, Nat.reduceLeDiff, ne_eq, Nat.reduceEqDiff, not_false_eq_true, Bool.and_true, Bool.true_and, Nat.succ_ne_self, and_true, Bool.not_true, Bool.not_false, Int.toNat_zero, Int.reduceToNat, Nat.mul_one, Int.toNat_one, ej, hw, hgx, hwa, hwb, z0, z1, z2, List.length_map, decide_true, decide_false, Bool.false_eq_true]
              all_goals try (exfalso; omega)
              all_goals (refine lend_mk (n - 1) [.sl 3 ((toks t).map tk), .raw (.int .u8 ((b.toNat : Nat) : Int)), num ((((toks t).take (j + 1)).foldl (want1 k) k : Nat) : Int), num ((j + 1 : Nat) : Int)] (by omega) ⟨j + 1, by omega, by omega, rfl⟩ ?_; rw [hnx]; simp only [hvm_t, hvm_f, hvm_nil, puts_cons, puts_nil, List.set_cons_zero, List.set_cons_succ, num]; repeat first | exact Wk.nil | refine Wk.same ?_ | refine wk_any ?_)
            · have z0 := eq_true (show x.k = 4 by omega)
              have z1 := eq_true (show (x.a : Int) < (k : Int) by omega)
              have z2 := eq_false (show ¬ (k : Int) ≤ ((x.a + 1 + x.t.length : Nat) : Int) by omega)
              have hnx : ((toks t).take (j + 1)).foldl (want1 k) k = ((toks t).take j).foldl (want1 k) k := by rw [hfold, want1, if_neg (by omega)]
              repeat' first | with_reducible refine asq_dmk (fun _ => ?_) (fun _ => ?_) | with_reducible refine asq_ndmk (fun _ => ?_) (fun _ => ?_) | with_reducible refine asq_nmk (fun _ => ?_) (fun _ => ?_) | with_reducible refine asq_mk (fun _ => ?_) (fun _ => ?_) | with_reducible refine asp_dmk (fun _ => ?_) (fun _ => ?_) | with_reducible refine asp_ndmk (fun _ => ?_) (fun _ => ?_) | with_reducible refine asp_nmk (fun _ => ?_) (fun _ => ?_) | with_reducible refine asp_mk (fun _ => ?_) (fun _ => ?_) | with_reducible refine And.intro (by first | omega | rfl | decide | with_unfolding_all rfl) ?_ | simp only [go_sem, Nat.reduceLT, Nat.reduceAdd, Nat.reduceSub, Nat.reduceMul, Nat.reduceLeDiff, ne_eq, Nat.reduceEqDiff, not_false_eq_true, Bool.and_true, Bool.true_and, Nat.succ_ne_self, and_true, Bool.not_true, Bool.not_false, Int.toNat_zero, Int.reduceToNat, Nat.mul_one, Int.toNat_one, ej, hw, hgx, hwa, hwb, z0, z1, z2, List.length_map, decide_true, decide_false, Bool.false_eq_true]
              all_goals try (exfalso; omega)
              all_goals (refine lend_mk (n - 1) [.sl 3 ((toks t).map tk), .raw (.int .u8 ((b.toNat : Nat) : Int)), num ((((toks t).take (j + 1)).foldl (want1 k) k : Nat) : Int), num ((j + 1 : Nat) : Int)] (by omega) ⟨j + 1, by omega, by omega, rfl⟩ ?_; rw [hnx]; simp only [hvm_t, hvm_f, hvm_nil, puts_cons, puts_nil, List.set_cons_zero, List.set_cons_succ, num]; repeat first | exact Wk.nil | refine Wk.same ?_ | refine wk_any ?_)
          · have z0 := eq_true (show x.k = 4 by omega)
            have z1 := eq_false (show ¬ (x.a : Int) < (k : Int) by omega)
            have hnx : ((toks t).take (j + 1)).foldl (want1 k) k = ((toks t).take j).foldl (want1 k) k := by rw [hfold, want1, if_neg (by omega)]
            repeat' first | with_reducible refine asq_dmk (fun _ => ?_) (fun _ => ?_) | with_reducible refine asq_ndmk (fun _ => ?_) (fun _ => ?_) | with_reducible refine asq_nmk (fun _ => ?_) (fun _ => ?_) | with_reducible refine asq_mk (fun _ => ?_) (fun _ => ?_) | with_reducible refine asp_dmk (fun _ => ?_) (fun _ => ?_) | with_reducible refine asp_ndmk (fun _ => ?_) (fun _ => ?_) | with_reducible refine asp_nmk (fun _ => ?_) (fun _ => ?_) | with_reducible refine asp_mk (fun _ => ?_) (fun _ => ?_) | with_reducible refine And.intro (by first | omega | rfl | decide | with_unfolding_all rfl) ?_ | simp only [go_sem, Nat.reduceLT, Nat.reduceAdd, Nat.reduceSub, Nat.reduceMul, Nat.reduceLeDiff, ne_eq, Nat.reduceEqDiff, not_false_eq_true, Bool.and_true, Bool.true_and, Nat.succ_ne_self, and_true, Bool.not_true, Bool.not_false, Int.toNat_zero, Int.reduceToNat, Nat.mul_one, Int.toNat_one, ej, hw, hgx, hwa, hwb, z0, z1, List.length_map, decide_true, decide_false, Bool.false_eq_true]
            all_goals try (exfalso; omega)
            all_goals (refine lend_mk (n - 1) [.sl 3 ((toks t).map tk), .raw (.int .u8 ((b.toNat : Nat) : Int)), num ((((toks t).take (j + 1)).foldl (want1 k) k : Nat) : Int), num ((j + 1 : Nat) : Int)] (by omega) ⟨j + 1, by omega, by omega, rfl⟩ ?_; rw [hnx]; simp only [hvm_t, hvm_f, hvm_nil, puts_cons, puts_nil, List.set_cons_zero, List.set_cons_succ, num]; repeat first | exact Wk.nil | refine Wk.same ?_ | refine wk_any ?_)
        · have z0 := eq_false (show ¬ x.k = 4 by omega)
          have hnx : ((toks t).take (j + 1)).foldl (want1 k) k = ((toks t).take j).foldl (want1 k) k := by rw [hfold, want1, if_neg (by omega)]
          repeat' first | with_reducible refine asq_dmk (fun _ => ?_) (fun _ => ?_) | with_reducible refine asq_ndmk (fun _ => ?_) (fun _ => ?_) | with_reducible refine asq_nmk (fun _ => ?_) (fun _ => ?_) | with_reducible refine asq_mk (fun _ => ?_) (fun _ => ?_) | with_reducible refine asp_dmk (fun _ => ?_) (fun _ => ?_) | with_reducible refine asp_ndmk (fun _ => ?_) (fun _ => ?_) | with_reducible refine asp_nmk (fun _ => ?_) (fun _ => ?_) | with_reducible refine asp_mk (fun _ => ?_) (fun _ => ?_) | with_reducible refine And.intro (by first | omega | rfl | decide | with_unfolding_all rfl) ?_ | simp only [go_sem, Nat.reduceLT, Nat.reduceAdd, Nat.reduceSub, Nat.reduceMul, Nat.reduceLeDiff, ne_eq, Nat.reduceEqDiff, not_false_eq_true, Bool.and_true, Bool.true_and, Nat.succ_ne_self, and_true, Bool.not_true, Bool.not_false, Int.toNat_zero, Int.reduceToNat, Nat.mul_one, Int.toNat_one, ej, hw, hgx, hwa, hwb, z0, List.length_map, decide_true, decide_false, Bool.false_eq_true]
          all_goals try (exfalso; omega)
          all_goals (refine lend_mk (n - 1) [.sl 3 ((toks t).map tk), .raw (.int .u8 ((b.toNat : Nat) : Int)), num ((((toks t).take (j + 1)).foldl (want1 k) k : Nat) : Int), num ((j + 1 : Nat) : Int)] (by omega) ⟨j + 1, by omega, by omega, rfl⟩ ?_; rw [hnx]; simp only [hvm_t, hvm_f, hvm_nil, puts_cons, puts_nil, List.set_cons_zero, List.set_cons_succ, num]; repeat first | exact Wk.nil | refine Wk.same ?_ | refine wk_any ?_)
      · have ej := eq_false (show ¬ (j : Int) < ((toks t).length : Int) by omega)
        obtain rfl : j = (toks t).length := by omega
        rw [List.take_length]
        have hfin := tokL_ins hb hc hk (i := k) (by omega)
        have hb1 : [AV.raw (.int .u8 ((b.toNat : Nat) : Int))] = bytesA [b] := rfl
        have hbv : List.map view (bytesA [b]) = bytesA [b] := rfl
        have hdt : (t.drop k).take (t.length - k) = t.drop k := List.take_of_length_le (by simp)
        have hcat : t.take k ++ [b] ++ t.drop k = t.take k ++ b :: t.drop k := by simp
        have hcl : (t.take k ++ b :: t.drop k).length ≤ 1000000 := by simp; omega
        repeat' first | with_reducible refine asq_dmk (fun _ => ?_) (fun _ => ?_) | with_reducible refine asq_ndmk (fun _ => ?_) (fun _ => ?_) | with_reducible refine asq_nmk (fun _ => ?_) (fun _ => ?_) | with_reducible refine asq_mk (fun _ => ?_) (fun _ => ?_) | with_reducible refine asp_dmk (fun _ => ?_) (fun _ => ?_) | with_reducible refine asp_ndmk (fun _ => ?_) (fun _ => ?_) | with_reducible refine asp_nmk (fun _ => ?_) (fun _ => ?_) | with_reducible refine asp_mk (fun _ => ?_) (fun _ => ?_) | with_reducible refine And.intro (by first | omega | rfl | decide | with_unfolding_all rfl) ?_ | simp only [go_sem, Nat.reduceLT, Nat.reduceAdd, Nat.reduceSub, Nat.reduceMul, Nat.reduceLeDiff, ne_eq, Nat.reduceEqDiff, not_false_eq_true, Bool.and_true, Bool.true_and, Nat.succ_ne_self, and_true, Bool.not_true, Bool.not_false, Int.toNat_zero, Int.reduceToNat, Nat.mul_one, Int.toNat_one, ej, hb1, hbv, hdt, hcat, Int.toNat_natCast, List.length_map, List.length_append, List.length_take, List.length_drop, decide_true, decide_false]
        refine (tokS10 _ hcl).mono ?_
        rintro r rfl
        simp only [tokensS, hfin, num, List.map_nil]
        have hww : (((wantT k (toks t) : Nat) : Int) = (((toks t).foldl (want1 k) k : Nat) : Int)) = True := eq_true rfl
        repeat' first | with_reducible refine asq_dmk (fun _ => ?_) (fun _ => ?_) | with_reducible refine asq_ndmk (fun _ => ?_) (fun _ => ?_) | with_reducible refine asq_nmk (fun _ => ?_) (fun _ => ?_) | with_reducible refine asq_mk (fun _ => ?_) (fun _ => ?_) | with_reducible refine asp_dmk (fun _ => ?_) (fun _ => ?_) | with_reducible refine asp_ndmk (fun _ => ?_) (fun _ => ?_) | with_reducible refine asp_nmk (fun _ => ?_) (fun _ => ?_) | with_reducible refine asp_mk (fun _ => ?_) (fun _ => ?_) | with_reducible refine And.intro (by first | omega | rfl | decide | with_unfolding_all rfl) ?_ | simp only [go_sem, Nat.reduceLT, Nat.reduceAdd, Nat.reduceSub, Nat.reduceMul, Nat.reduceLeDiff, ne_eq, Nat.reduceEqDiff, not_false_eq_true, Bool.and_true, Bool.true_and, Nat.succ_ne_self, and_true, Bool.not_true, Bool.not_false, Int.toNat_zero, Int.reduceToNat, Nat.mul_one, Int.toNat_one, hww, decide_true, decide_false, Int.reduceEq, Int.cast_ofNat_Int, List.length_nil]
theorem law8 (s : List UInt8) (hs : s.length ≤ 9223372036854775807) (at_ : Int) (ha1 : -9223372036854775808 ≤ at_) (ha2 : at_ ≤ 9223372036854775807) (c : UInt8) : ACalls Try.prog 8 [str s, num at_, .raw (.int .u8 ((c.toNat : Nat) : Int))] (fun r => r = tru true) := by
  by_cases h10 : ((c.toNat : Nat) : Int) = 10
  · exact law8c s hs at_ ha1 ha2 c 7 (by decide) rfl h10
  · by_cases h32 : 32 ≤ ((c.toNat : Nat) : Int)
    · by_cases h126 : ((c.toNat : Nat) : Int) ≤ 126
      · exact law8d s hs at_ ha1 ha2 c 7 (by decide) rfl h10 h32 h126
      · exact law8b s hs at_ ha1 ha2 c c (badc_t h10 (by omega)) rfl h10 h32 h126
    · exact law8a s hs at_ ha1 ha2 c c (badc_t h10 (by omega)) rfl h10 h32
theorem lawA8 (xs : List AV) (h : OfA Try.prog [9, 3, 5] xs) : ACalls Try.prog 8 xs (fun r => r = tru true) := by
  obtain ⟨_, y, _, rfl, h1, h⟩ := OfA_cons h
  obtain ⟨_, z, _, rfl, h2, h⟩ := OfA_cons h
  obtain ⟨_, v, _, rfl, h3, h⟩ := OfA_cons h
  obtain rfl := OfA_nil h
  obtain ⟨s, rfl, hs⟩ := OfE_str Try.underlying9 h1
  obtain ⟨a, rfl, ha1, ha2⟩ := OfE_i64 Try.underlying3 h2
  obtain ⟨m, rfl, hm1, hm2⟩ := OfE_u8 Try.underlying5 h3
  obtain ⟨c, rfl⟩ := u8_of hm1 hm2
  exact law8 s hs a ha1 ha2 c
end Go.Proofs.Ytibdijaacolhkaa
