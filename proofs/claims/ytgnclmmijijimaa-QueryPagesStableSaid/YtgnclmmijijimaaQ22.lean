/- Law: full pages are stable. -/
import Derived.Test.YtgnclmmijijimaaT
import Derived.Test.YtgnclmmijijimaaA10
import Derived.Test.YtgnclmmijijimaaQ20
namespace Go.Proofs.Ytgnclmmijijimaa
open Go.RowKit Go.Proofs
set_option linter.unusedSimpArgs false
set_option linter.unusedVariables false
set_option maxRecDepth 100000
set_option maxHeartbeats 4000000

theorem insRev_top {x : Sto} : ∀ (acc : List Sto), (∀ y ∈ acc, y.pu < x.pu) → insRev acc x = x :: acc
  | [], _ => rfl
  | y :: r, h => by
    have hy := h y (by simp)
    have : aheadB y x = true := by rw [aheadB, if_pos (by omega)]; simpa using hy
    rw [insRev, if_pos this]
theorem foldF_top {x : Sto} {v : List UInt8} : ∀ (B acc : List Sto), (∀ s ∈ B, s.pu < x.pu) → B.foldl (newF v) (x :: acc) = x :: B.foldl (newF v) acc
  | [], acc, _ => rfl
  | s :: B, acc, h => by
    have hs := h s (by simp)
    have ha : aheadB x s = false := by rw [aheadB, if_pos (by omega)]; simp; omega
    have h1 : newF v (x :: acc) s = x :: newF v acc s := by
      unfold newF
      split
      · rw [insRev, ha]; simp
      · rfl
    rw [List.foldl_cons, h1, foldF_top B _ (fun y hy => h y (by simp [hy])), List.foldl_cons]
theorem newL_top {A B : List Sto} {x : Sto} (v : List UInt8) (hA : ∀ s ∈ A, s.pu < x.pu) (hB : ∀ s ∈ B, s.pu < x.pu) (hx : lstd x = true) : newL v (A ++ [x] ++ B) = if hasB x v then x :: newL v (A ++ B) else newL v (A ++ B) := by
  unfold newL
  simp only [List.foldl_append, List.foldl_cons, List.foldl_nil]
  have hm : ∀ y ∈ A.foldl (newF v) [], y.pu < x.pu := fun y hy => hA y (newL_mem v A y hy)
  by_cases h : hasB x v = true
  · rw [if_pos h, newF, if_pos (by simp [hx, h]), insRev_top _ hm, foldF_top B _ hB]
  · rw [if_neg h, newF, if_neg (by simp [h])]
theorem pg_ext {R S : List Int} (hS : S = R ∨ ∃ y, S = R ++ [y]) (p : Int) : (pgL S p).take (pgL R p).length = pgL R p ∧ (pgL R p).length ≤ (pgL S p).length ∧ ((pgL R p).length = 5 → (pgL S p).length = 5) := by
  have h5 := pgL_len S p
  suffices h : (pgL R p) <+: (pgL S p) by
    have hl := h.length_le
    exact ⟨(List.prefix_iff_eq_take.1 h).symm, hl, fun h => by omega⟩
  rcases hS with rfl | ⟨y, rfl⟩
  · exact List.prefix_refl _
  · by_cases hp : 1 ≤ p
    · simp only [pgL, hp, if_true]
      rcases Nat.lt_or_ge R.length (5 * (p - 1).toNat) with h | h
      · rw [List.drop_of_length_le (by omega)]; simp
      · rw [List.drop_append_of_le_length h, List.take_append]
        exact List.prefix_append _ _
    · simp [pgL, hp]
def nrm (y : It) : It := ⟨y.id, (pickN y.pu 1000 : Nat), y.tp, y.au, y.hi⟩
def mstF (m : Int) (y : It) : Int := max m (pickN y.pu 1000 : Nat)
def mst (l : List It) : Int := l.foldl mstF 0
theorem mst_ge : ∀ (l : List It) (m : Int), 0 ≤ m → m ≤ 999 → m ≤ l.foldl mstF m ∧ 0 ≤ l.foldl mstF m ∧ l.foldl mstF m ≤ 999 ∧ ∀ y ∈ l, ((pickN y.pu 1000 : Nat) : Int) ≤ l.foldl mstF m
  | [], m, h0, h1 => ⟨Int.le_refl _, h0, h1, by simp⟩
  | y :: l, m, h0, h1 => by
    have hp := pickN_lt (a := y.pu) (n := 1000) (by omega)
    have hm : m ≤ mstF m y ∧ 0 ≤ mstF m y ∧ mstF m y ≤ 999 ∧ ((pickN y.pu 1000 : Nat) : Int) ≤ mstF m y := by unfold mstF; omega
    obtain ⟨g1, g2, g3, g4⟩ := mst_ge l (mstF m y) hm.2.1 hm.2.2.1
    rw [List.foldl_cons]
    exact ⟨by omega, g2, g3, fun z hz => by rcases List.mem_cons.1 hz with rfl | hz; omega; exact g4 z hz⟩
theorem mst_at {l : List It} {i : Nat} {x : It} (h : l[i]? = some x) : mst (l.take (i + 1)) = mstF (mst (l.take i)) x := foldl_at h
theorem mst_in (l : List It) (i : Nat) : 0 ≤ mst (l.take i) ∧ mst (l.take i) ≤ 999 := by
  have := mst_ge (l.take i) 0 (by omega) (by omega); exact ⟨this.2.1, this.2.2.1⟩
theorem lawA8 (xs : List AV) (h : OfA Try.prog [22, 44, 3, 3] xs) : ACalls Try.prog 8 xs (fun r => r = tru true) := by
  obtain ⟨_, y0, _, rfl, h0, h⟩ := OfA_cons h
  obtain ⟨_, y1, _, rfl, h1, h⟩ := OfA_cons h
  obtain ⟨_, y2, _, rfl, h2, h⟩ := OfA_cons h
  obtain ⟨_, y3, _, rfl, h3, h⟩ := OfA_cons h
  obtain rfl := OfA_nil h
  obtain ⟨l, rfl, hl1, hl2, hl3⟩ := items_of h0
  obtain ⟨x, rfl, hx⟩ := item_of h1
  obtain ⟨place, rfl, hplace⟩ := OfE_i64 Try.underlying3 h2
  obtain ⟨topic, rfl, htopic⟩ := OfE_i64 Try.underlying3 h3
  simp only [num, itA]
  refine calls_short [(1000011,[],[])] ttok hmix Try.func8 (by decide) (by decide +kernel) (by simp only [Try.f8, Option.bind_some, comp, isLend, lendOf, lendX, lendC, lendH, Nat.reduceLeDiff, Nat.reduceSub, ne_eq, not_false_eq_true, and_self, cops, cguard, gslot, List.getElem?_toArray, List.getElem?_cons_succ, List.getElem?_cons_zero, vlook, tlook, cutAt_nil, cutAt, firstReg, isCut, mkSeq, Nat.reduceAdd, Nat.reduceEqDiff, reduceIte]; rfl) Try.ntmps8 Try.results8 ⟨_, rfl⟩ rfl ?_
  simp only [List.length_cons, List.length_nil, Nat.reduceAdd, Nat.reduceSub, List.replicate_succ, List.replicate_zero, List.cons_append, List.nil_append, num, str, tru]
  repeat' first | with_reducible refine asq_dmk (fun _ => ?_) (fun _ => ?_) | with_reducible refine asq_ndmk (fun _ => ?_) (fun _ => ?_) | with_reducible refine asq_nmk (fun _ => ?_) (fun _ => ?_) | with_reducible refine asq_mk (fun _ => ?_) (fun _ => ?_) | with_reducible refine asp_dmk (fun _ => ?_) (fun _ => ?_) | with_reducible refine asp_ndmk (fun _ => ?_) (fun _ => ?_) | with_reducible refine asp_nmk (fun _ => ?_) (fun _ => ?_) | with_reducible refine asp_mk (fun _ => ?_) (fun _ => ?_) | with_reducible refine And.intro (by first | omega | rfl | decide | with_unfolding_all rfl) ?_ | simp only [go_sem, Nat.reduceLT, Nat.reduceAdd, Nat.reduceSub, Nat.reduceMul, Nat.reduceLeDiff, ne_eq, Nat.reduceEqDiff, not_false_eq_true, Bool.and_true, Bool.true_and, Nat.succ_ne_self, and_true, Bool.not_true, Bool.not_false, Int.toNat_zero, Int.reduceToNat, Nat.mul_one, Int.toNat_one, decide_true, decide_false, Int.reduceEq, Int.cast_ofNat_Int, Bool.false_eq_true, Bool.not_true, Bool.not_false]
  refine ((sane12).wk ?_).mono ?_
  · try simp only [stA, nums, List.map_cons, List.map_nil, num, str, tru]
    repeat first | exact Wk.nil | exact Wk.refl _ | refine wk_agg ?_ ?_ | refine wk_ownsl ?_ | refine wk_nilsl ?_ | refine Wk.same ?_
  rintro r rfl
  try simp only [tru, num, str]
  repeat' first | with_reducible refine asq_dmk (fun _ => ?_) (fun _ => ?_) | with_reducible refine asq_ndmk (fun _ => ?_) (fun _ => ?_) | with_reducible refine asq_nmk (fun _ => ?_) (fun _ => ?_) | with_reducible refine asq_mk (fun _ => ?_) (fun _ => ?_) | with_reducible refine asp_dmk (fun _ => ?_) (fun _ => ?_) | with_reducible refine asp_ndmk (fun _ => ?_) (fun _ => ?_) | with_reducible refine asp_nmk (fun _ => ?_) (fun _ => ?_) | with_reducible refine asp_mk (fun _ => ?_) (fun _ => ?_) | with_reducible refine And.intro (by first | omega | rfl | decide | with_unfolding_all rfl) ?_ | simp only [go_sem, Nat.reduceLT, Nat.reduceAdd, Nat.reduceSub, Nat.reduceMul, Nat.reduceLeDiff, ne_eq, Nat.reduceEqDiff, not_false_eq_true, Bool.and_true, Bool.true_and, Nat.succ_ne_self, and_true, Bool.not_true, Bool.not_false, Int.toNat_zero, Int.reduceToNat, Nat.mul_one, Int.toNat_one, decide_true, decide_false, Int.reduceEq, Int.cast_ofNat_Int, Bool.false_eq_true, Bool.not_true, Bool.not_false]
  refine cwp_cut [false, false, false, false, false, false, false, false, false, false, true, true, true, true, false, false, false, false, false, false, false, false, false, false, false, false, true, true, true, true, true, true, true, true, true, true, true, true, true, true, true, true, true, true, true, true, true, true, true, true, true, true, false, false, false, false, false, false, false, false, false, false, false, false, false, false, false, false, false, false, false, false, false, false, false, false, false, false, false, false, false, false, false, false, false, false, false, false, false, false, false, false, false, false, false, false, false, false, false, false, false, false, false, false, false, false, false, false, false, false, false, false, false, false, false, false, false, false, false, false, false, false, false, false, false] [10, 11] (fun xs => xs = [.own 44 5 (((l.take 24).map nrm).map itA), num (mst (l.take 24))]) ?_ ?_
  · repeat' first | with_reducible refine asq_dmk (fun _ => ?_) (fun _ => ?_) | with_reducible refine asq_ndmk (fun _ => ?_) (fun _ => ?_) | with_reducible refine asq_nmk (fun _ => ?_) (fun _ => ?_) | with_reducible refine asq_mk (fun _ => ?_) (fun _ => ?_) | with_reducible refine asp_dmk (fun _ => ?_) (fun _ => ?_) | with_reducible refine asp_ndmk (fun _ => ?_) (fun _ => ?_) | with_reducible refine asp_nmk (fun _ => ?_) (fun _ => ?_) | with_reducible refine asp_mk (fun _ => ?_) (fun _ => ?_) | with_reducible refine And.intro (by first | omega | rfl | decide | with_unfolding_all rfl) ?_ | simp only [go_sem, Nat.reduceLT, Nat.reduceAdd, Nat.reduceSub, Nat.reduceMul, Nat.reduceLeDiff, ne_eq, Nat.reduceEqDiff, not_false_eq_true, Bool.and_true, Bool.true_and, Nat.succ_ne_self, and_true, Bool.not_true, Bool.not_false, Int.toNat_zero, Int.reduceToNat, Nat.mul_one, Int.toNat_one, decide_true, decide_false, Int.reduceEq, Int.cast_ofNat_Int, Bool.false_eq_true, Bool.not_true, Bool.not_false]
    refine cwp_loop [false, false, false, false, false, false, false, false, false, false, true, true, true, true, false, false, false, false, false, false, false, false, false, false, false, false, true, true, true, true, true, true, true, true, true, true, true, true, true, true, true, true, true, true, true, true, true, true, true, true, true, true, false, false, false, false, false, false, false, false, false, false, false, false, false, false, false, false, false, false, false, false, false, false, false, false, false, false, false, false, false, false, false, false, false, false, false, false, false, false, false, false, false, false, false, false, false, false, false, false, false, false, false, false, false, false, false, false, false, false, false, false, false, false, false, false, false, false, false, false, false, false, false, false, false] [10, 11, 12] (fun g xs => ∃ i : Nat, i ≤ l.length ∧ i ≤ 24 ∧ i + g = l.length ∧ xs = [.own 44 5 (((l.take i).map nrm).map itA), num (mst (l.take i)), num i]) ⟨l.length, _, ⟨0, by omega, by omega, by omega, rfl⟩, ?_⟩ ?_
    · simp only [List.take_zero, List.map_nil, mst, List.foldl_nil]
      simp only [hvm_t, hvm_f, hvm_nil, puts_cons, puts_nil, List.set_cons_zero, List.set_cons_succ, num]
      repeat first | exact Wk.nil | exact Wk.refl _ | refine Wk.box (W1.box ?_) ?_ | refine wk_agg ?_ ?_ | refine wk_ownsl ?_ | refine wk_nilown ?_ | refine wk_nilmine ?_ | refine wk_nilsl ?_ | refine Wk.same ?_ | refine wk_any ?_
    · rintro g xs ⟨i, hil, hi24, hg, rfl⟩
      obtain ⟨hm0, hm9⟩ := mst_in l i
      simp only [hvm_t, hvm_f, hvm_nil, puts_cons, puts_nil, List.set_cons_zero, List.set_cons_succ, num]
      by_cases hc : i < l.length ∧ i < 24
      · obtain ⟨hlt, h24⟩ := hc
        have ej := eq_true (show (i : Int) < (l.length : Int) by omega)
        have e24 := eq_true (show (i : Int) < 24 by omega)
        obtain ⟨y, hy, hd⟩ := drop_at hlt
        have hgx := it_at hy
        have hw : IntKind.i64.wrap ((i : Int) + 1) = ((i + 1 : Nat) : Int) := wrap_succ (by omega)
        have hmx := mst_at hy
        have hpl := pickN_lt (a := y.pu) (n := 1000) (by omega)
        have hyp := (hl3 y (List.mem_of_getElem? hy)).2
        have hel : (((l.take i).map nrm).map itA).length = i := by simp; omega
        repeat' first | with_reducible refine asq_dmk (fun _ => ?_) (fun _ => ?_) | with_reducible refine asq_ndmk (fun _ => ?_) (fun _ => ?_) | with_reducible refine asq_nmk (fun _ => ?_) (fun _ => ?_) | with_reducible refine asq_mk (fun _ => ?_) (fun _ => ?_) | with_reducible refine asp_dmk (fun _ => ?_) (fun _ => ?_) | with_reducible refine asp_ndmk (fun _ => ?_) (fun _ => ?_) | with_reducible refine asp_nmk (fun _ => ?_) (fun _ => ?_) | with_reducible refine asp_mk (fun _ => ?_) (fun _ => ?_) | with_reducible refine And.intro (by first | omega | rfl | decide | with_unfolding_all rfl) ?_ | simp only [go_sem, Nat.reduceLT, Nat.reduceAdd, Nat.reduceSub, Nat.reduceMul, Nat.reduceLeDiff, ne_eq, Nat.reduceEqDiff, not_false_eq_true, Bool.and_true, Bool.true_and, Nat.succ_ne_self, and_true, Bool.not_true, Bool.not_false, Int.toNat_zero, Int.reduceToNat, Nat.mul_one, Int.toNat_one, decide_true, decide_false, Int.reduceEq, Int.cast_ofNat_Int, Bool.false_eq_true, Bool.not_true, Bool.not_false, ej, e24, hgx, hw, List.length_map]
        refine (pick31 y.pu hyp 1000 (by omega) (by omega)).mono ?_
        rintro r rfl
        simp only [num]
        have hsn : ((l.take i).map nrm).map itA ++ [.agg [.raw (.int .i64 y.id), .raw (.int .i64 (pickN y.pu 1000 : Nat)), .sl 1 (nums y.tp), .raw (.int .i64 y.au), .raw (.int .i64 y.hi)]] = ((l.take (i + 1)).map nrm).map itA := by
          rw [List.take_add_one, hy]; simp [nrm, itA, num]
        obtain ⟨m, hm⟩ : ∃ m, mst (l.take i) = m := ⟨_, rfl⟩
        obtain ⟨q, hq⟩ : ∃ q, pickN y.pu 1000 = q := ⟨_, rfl⟩
        simp only [mstF, hm, hq] at hmx hm0 hm9 hpl hsn ⊢
        repeat' first | with_reducible refine asq_dmk (fun _ => ?_) (fun _ => ?_) | with_reducible refine asq_ndmk (fun _ => ?_) (fun _ => ?_) | with_reducible refine asq_nmk (fun _ => ?_) (fun _ => ?_) | with_reducible refine asq_mk (fun _ => ?_) (fun _ => ?_) | with_reducible refine asp_dmk (fun _ => ?_) (fun _ => ?_) | with_reducible refine asp_ndmk (fun _ => ?_) (fun _ => ?_) | with_reducible refine asp_nmk (fun _ => ?_) (fun _ => ?_) | with_reducible refine asp_mk (fun _ => ?_) (fun _ => ?_) | with_reducible refine And.intro (by first | omega | rfl | decide | with_unfolding_all rfl) ?_ | simp only [go_sem, Nat.reduceLT, Nat.reduceAdd, Nat.reduceSub, Nat.reduceMul, Nat.reduceLeDiff, ne_eq, Nat.reduceEqDiff, not_false_eq_true, Bool.and_true, Bool.true_and, Nat.succ_ne_self, and_true, Bool.not_true, Bool.not_false, Int.toNat_zero, Int.reduceToNat, Nat.mul_one, Int.toNat_one, decide_true, decide_false, Int.reduceEq, Int.cast_ofNat_Int, Bool.false_eq_true, Bool.not_true, Bool.not_false, hel, hsn, gt_iff_lt, ej, e24, hgx, hw, List.length_map, List.length_cons, List.length_nil]
        refine lend_mk (g - 1) [.own 44 5 (((l.take (i + 1)).map nrm).map itA), num (mst (l.take (i + 1))), num ((i + 1 : Nat) : Int)] (by omega) ⟨i + 1, by omega, by omega, by omega, rfl⟩ ?_
        rw [hmx]
        simp only [hvm_t, hvm_f, hvm_nil, puts_cons, puts_nil, List.set_cons_zero, List.set_cons_succ, num]
        repeat first | exact Wk.nil | exact Wk.refl _ | refine Wk.box (W1.box ?_) ?_ | refine wk_agg ?_ ?_ | refine wk_ownsl ?_ | refine wk_nilown ?_ | refine wk_nilmine ?_ | refine wk_nilsl ?_ | refine Wk.same ?_ | refine wk_any ?_
      have htk : l.take i = l.take 24 := by
        rcases Nat.lt_or_ge i 24 with h | h
        · rw [List.take_of_length_le (by omega), List.take_of_length_le (by omega)]
        · rw [show i = 24 by omega]
      rw [htk]
      by_cases hi2 : i < l.length
      · have ej := eq_true (show (i : Int) < (l.length : Int) by omega)
        have e24 := eq_false (show ¬ (i : Int) < 24 by omega)
        repeat' first | with_reducible refine asq_dmk (fun _ => ?_) (fun _ => ?_) | with_reducible refine asq_ndmk (fun _ => ?_) (fun _ => ?_) | with_reducible refine asq_nmk (fun _ => ?_) (fun _ => ?_) | with_reducible refine asq_mk (fun _ => ?_) (fun _ => ?_) | with_reducible refine asp_dmk (fun _ => ?_) (fun _ => ?_) | with_reducible refine asp_ndmk (fun _ => ?_) (fun _ => ?_) | with_reducible refine asp_nmk (fun _ => ?_) (fun _ => ?_) | with_reducible refine asp_mk (fun _ => ?_) (fun _ => ?_) | with_reducible refine And.intro (by first | omega | rfl | decide | with_unfolding_all rfl) ?_ | simp only [go_sem, Nat.reduceLT, Nat.reduceAdd, Nat.reduceSub, Nat.reduceMul, Nat.reduceLeDiff, ne_eq, Nat.reduceEqDiff, not_false_eq_true, Bool.and_true, Bool.true_and, Nat.succ_ne_self, and_true, Bool.not_true, Bool.not_false, Int.toNat_zero, Int.reduceToNat, Nat.mul_one, Int.toNat_one, decide_true, decide_false, Int.reduceEq, Int.cast_ofNat_Int, Bool.false_eq_true, Bool.not_true, Bool.not_false, ej, e24, List.length_map]
        refine cut_mk _ rfl ?_
        simp only [hvm_t, hvm_f, hvm_nil, puts_cons, puts_nil, List.set_cons_zero, List.set_cons_succ, num]
        repeat first | exact Wk.nil | exact Wk.refl _ | refine Wk.box (W1.box ?_) ?_ | refine wk_agg ?_ ?_ | refine wk_ownsl ?_ | refine wk_nilown ?_ | refine wk_nilmine ?_ | refine wk_nilsl ?_ | refine Wk.same ?_ | refine wk_any ?_
      by_cases hi5 : i < 24
      · have ej := eq_false (show ¬ (i : Int) < (l.length : Int) by omega)
        have e24 := eq_true (show (i : Int) < 24 by omega)
        repeat' first | with_reducible refine asq_dmk (fun _ => ?_) (fun _ => ?_) | with_reducible refine asq_ndmk (fun _ => ?_) (fun _ => ?_) | with_reducible refine asq_nmk (fun _ => ?_) (fun _ => ?_) | with_reducible refine asq_mk (fun _ => ?_) (fun _ => ?_) | with_reducible refine asp_dmk (fun _ => ?_) (fun _ => ?_) | with_reducible refine asp_ndmk (fun _ => ?_) (fun _ => ?_) | with_reducible refine asp_nmk (fun _ => ?_) (fun _ => ?_) | with_reducible refine asp_mk (fun _ => ?_) (fun _ => ?_) | with_reducible refine And.intro (by first | omega | rfl | decide | with_unfolding_all rfl) ?_ | simp only [go_sem, Nat.reduceLT, Nat.reduceAdd, Nat.reduceSub, Nat.reduceMul, Nat.reduceLeDiff, ne_eq, Nat.reduceEqDiff, not_false_eq_true, Bool.and_true, Bool.true_and, Nat.succ_ne_self, and_true, Bool.not_true, Bool.not_false, Int.toNat_zero, Int.reduceToNat, Nat.mul_one, Int.toNat_one, decide_true, decide_false, Int.reduceEq, Int.cast_ofNat_Int, Bool.false_eq_true, Bool.not_true, Bool.not_false, ej, e24, List.length_map]
        refine cut_mk _ rfl ?_
        simp only [hvm_t, hvm_f, hvm_nil, puts_cons, puts_nil, List.set_cons_zero, List.set_cons_succ, num]
        repeat first | exact Wk.nil | exact Wk.refl _ | refine Wk.box (W1.box ?_) ?_ | refine wk_agg ?_ ?_ | refine wk_ownsl ?_ | refine wk_nilown ?_ | refine wk_nilmine ?_ | refine wk_nilsl ?_ | refine Wk.same ?_ | refine wk_any ?_
      have ej := eq_false (show ¬ (i : Int) < (l.length : Int) by omega)
      have e24 := eq_false (show ¬ (i : Int) < 24 by omega)
      repeat' first | with_reducible refine asq_dmk (fun _ => ?_) (fun _ => ?_) | with_reducible refine asq_ndmk (fun _ => ?_) (fun _ => ?_) | with_reducible refine asq_nmk (fun _ => ?_) (fun _ => ?_) | with_reducible refine asq_mk (fun _ => ?_) (fun _ => ?_) | with_reducible refine asp_dmk (fun _ => ?_) (fun _ => ?_) | with_reducible refine asp_ndmk (fun _ => ?_) (fun _ => ?_) | with_reducible refine asp_nmk (fun _ => ?_) (fun _ => ?_) | with_reducible refine asp_mk (fun _ => ?_) (fun _ => ?_) | with_reducible refine And.intro (by first | omega | rfl | decide | with_unfolding_all rfl) ?_ | simp only [go_sem, Nat.reduceLT, Nat.reduceAdd, Nat.reduceSub, Nat.reduceMul, Nat.reduceLeDiff, ne_eq, Nat.reduceEqDiff, not_false_eq_true, Bool.and_true, Bool.true_and, Nat.succ_ne_self, and_true, Bool.not_true, Bool.not_false, Int.toNat_zero, Int.reduceToNat, Nat.mul_one, Int.toNat_one, decide_true, decide_false, Int.reduceEq, Int.cast_ofNat_Int, Bool.false_eq_true, Bool.not_true, Bool.not_false, ej, e24, List.length_map]
      refine cut_mk _ rfl ?_
      simp only [hvm_t, hvm_f, hvm_nil, puts_cons, puts_nil, List.set_cons_zero, List.set_cons_succ, num]
      repeat first | exact Wk.nil | exact Wk.refl _ | refine Wk.box (W1.box ?_) ?_ | refine wk_agg ?_ ?_ | refine wk_ownsl ?_ | refine wk_nilown ?_ | refine wk_nilmine ?_ | refine wk_nilsl ?_ | refine Wk.same ?_ | refine wk_any ?_
  · rintro xs rfl
    obtain ⟨hm0, hm9⟩ := mst_in l 24
    simp only [hvm_t, hvm_f, hvm_nil, puts_cons, puts_nil, List.set_cons_zero, List.set_cons_succ, num]
    have hmall := (mst_ge (l.take 24) 0 (by omega) (by omega)).2.2.2
    have hio : ∀ y ∈ (l.take 24).map nrm, ItOk y ∧ y.pu ≤ mst (l.take 24) := fun y hy => by
      obtain ⟨z, hz, rfl⟩ := List.mem_map.1 hy
      exact ⟨hl2 z (List.mem_of_mem_take hz), hmall z hz⟩
    have hIl : ((l.take 24).map nrm).length ≤ 24 := by simp; omega
    clear hmall
    obtain ⟨I, hI⟩ : ∃ I, (l.take 24).map nrm = I := ⟨_, rfl⟩
    obtain ⟨m, hm⟩ : ∃ m, mst (l.take 24) = m := ⟨_, rfl⟩
    rw [hI, hm] at hio
    rw [hI] at hIl ⊢
    rw [hm] at hm0 hm9 ⊢
    have hwm : IntKind.i64.wrap (m + 1) = m + 1 := wrap_in (by omega) (by omega)
    have hwI : IntKind.i64.wrap ((I.length : Int) + 1) = ((I.length + 1 : Nat) : Int) := wrap_succ (by omega)
    clear hI hm
    repeat' first | with_reducible refine asq_dmk (fun _ => ?_) (fun _ => ?_) | with_reducible refine asq_ndmk (fun _ => ?_) (fun _ => ?_) | with_reducible refine asq_nmk (fun _ => ?_) (fun _ => ?_) | with_reducible refine asq_mk (fun _ => ?_) (fun _ => ?_) | with_reducible refine asp_dmk (fun _ => ?_) (fun _ => ?_) | with_reducible refine asp_ndmk (fun _ => ?_) (fun _ => ?_) | with_reducible refine asp_nmk (fun _ => ?_) (fun _ => ?_) | with_reducible refine asp_mk (fun _ => ?_) (fun _ => ?_) | with_reducible refine And.intro (by first | omega | rfl | decide | with_unfolding_all rfl) ?_ | simp only [go_sem, Nat.reduceLT, Nat.reduceAdd, Nat.reduceSub, Nat.reduceMul, Nat.reduceLeDiff, ne_eq, Nat.reduceEqDiff, not_false_eq_true, Bool.and_true, Bool.true_and, Nat.succ_ne_self, and_true, Bool.not_true, Bool.not_false, Int.toNat_zero, Int.reduceToNat, Nat.mul_one, Int.toNat_one, decide_true, decide_false, Int.reduceEq, Int.cast_ofNat_Int, Bool.false_eq_true, Bool.not_true, Bool.not_false, hwm, hwI, List.length_map]
    refine (pick31 place hplace (I.length + 1) (by omega) (by omega)).mono ?_
    rintro r rfl
    have hkl := pickN_lt (a := place) (n := I.length + 1) (by omega)
    obtain ⟨k, hk⟩ : ∃ k, pickN place (I.length + 1) = k := ⟨_, rfl⟩
    rw [hk] at hkl ⊢
    simp only [num]
    have htk : List.take k (I.map itA) = (I.take k).map itA := List.map_take.symm
    have hdk : List.take (I.length - k) (List.drop k (I.map itA)) = (I.drop k).map itA := by
      rw [← List.map_drop, List.take_of_length_le (by simp)]
    have hlk : (I.take k).length = k := by rw [List.length_take]; omega
    obtain ⟨x', hx'⟩ : ∃ x' : It, x' = ⟨x.id, m + 1, x.tp, x.au, 0⟩ := ⟨_, rfl⟩
    have hxok : ItOk x' := by subst hx'; exact ⟨hx.1.1, by simp [I64], hx.1.2.2.1, hx.1.2.2.2⟩
    have hmore : (I.take k).map itA ++ [.agg [.raw (.int .i64 x.id), .raw (.int .i64 (m + 1)), .sl 1 (nums x.tp), .raw (.int .i64 x.au), .raw (.int .i64 0)]] ++ (I.drop k).map itA = (I.take k ++ [x'] ++ I.drop k).map itA := by
      subst hx'; simp [itA, num]
    have hmore1 : (I.take k).map itA ++ [.agg [.raw (.int .i64 x.id), .raw (.int .i64 (m + 1)), .sl 1 (nums x.tp), .raw (.int .i64 x.au), .raw (.int .i64 0)]] = (I.take k ++ [x']).map itA := by
      subst hx'; simp [itA, num]
    have hmore2 : (I.take k ++ [x']).map itA ++ (I.drop k).map itA = (I.take k ++ [x'] ++ I.drop k).map itA := by simp
    have hdl : (I.drop k).length = I.length - k := List.length_drop
    repeat' first | with_reducible refine asq_dmk (fun _ => ?_) (fun _ => ?_) | with_reducible refine asq_ndmk (fun _ => ?_) (fun _ => ?_) | with_reducible refine asq_nmk (fun _ => ?_) (fun _ => ?_) | with_reducible refine asq_mk (fun _ => ?_) (fun _ => ?_) | with_reducible refine asp_dmk (fun _ => ?_) (fun _ => ?_) | with_reducible refine asp_ndmk (fun _ => ?_) (fun _ => ?_) | with_reducible refine asp_nmk (fun _ => ?_) (fun _ => ?_) | with_reducible refine asp_mk (fun _ => ?_) (fun _ => ?_) | with_reducible refine And.intro (by first | omega | rfl | decide | with_unfolding_all rfl) ?_ | simp only [go_sem, Nat.reduceLT, Nat.reduceAdd, Nat.reduceSub, Nat.reduceMul, Nat.reduceLeDiff, ne_eq, Nat.reduceEqDiff, not_false_eq_true, Bool.and_true, Bool.true_and, Nat.succ_ne_self, and_true, Bool.not_true, Bool.not_false, Int.toNat_zero, Int.reduceToNat, Nat.mul_one, Int.toNat_one, decide_true, decide_false, Int.reduceEq, Int.cast_ofNat_Int, Bool.false_eq_true, Bool.not_true, Bool.not_false, htk, hdk, hlk, hmore1, hmore2, hdl, List.length_map, List.length_append, List.length_cons, List.length_nil, Int.toNat_natCast]
    refine ((state13 I (by omega) (fun y hy => (hio y hy).1)).wk ?_).mono ?_
    · repeat first | exact Wk.nil | exact Wk.refl _ | refine wk_agg ?_ ?_ | refine wk_ownsl ?_ | refine wk_nilsl ?_ | refine Wk.same ?_
    rintro r rfl
    simp only [List.take_of_length_le (show I.length ≤ 25 by omega)]
    repeat' first | with_reducible refine asq_dmk (fun _ => ?_) (fun _ => ?_) | with_reducible refine asq_ndmk (fun _ => ?_) (fun _ => ?_) | with_reducible refine asq_nmk (fun _ => ?_) (fun _ => ?_) | with_reducible refine asq_mk (fun _ => ?_) (fun _ => ?_) | with_reducible refine asp_dmk (fun _ => ?_) (fun _ => ?_) | with_reducible refine asp_ndmk (fun _ => ?_) (fun _ => ?_) | with_reducible refine asp_nmk (fun _ => ?_) (fun _ => ?_) | with_reducible refine asp_mk (fun _ => ?_) (fun _ => ?_) | with_reducible refine And.intro (by first | omega | rfl | decide | with_unfolding_all rfl) ?_ | simp only [go_sem, Nat.reduceLT, Nat.reduceAdd, Nat.reduceSub, Nat.reduceMul, Nat.reduceLeDiff, ne_eq, Nat.reduceEqDiff, not_false_eq_true, Bool.and_true, Bool.true_and, Nat.succ_ne_self, and_true, Bool.not_true, Bool.not_false, Int.toNat_zero, Int.reduceToNat, Nat.mul_one, Int.toNat_one, decide_true, decide_false, Int.reduceEq, Int.cast_ofNat_Int, Bool.false_eq_true, Bool.not_true, Bool.not_false]
    have hMl : (I.take k ++ [x'] ++ I.drop k).length ≤ 25 := by simp; omega
    refine ((state13 (I.take k ++ [x'] ++ I.drop k) (by omega) (fun y hy => ?_)).wk ?_).mono ?_
    · rcases List.mem_append.1 hy with hy | hy
      · rcases List.mem_append.1 hy with hy | hy
        · exact (hio y (List.mem_of_mem_take hy)).1
        · rw [List.mem_singleton] at hy; subst hy; exact hxok
      · exact (hio y (List.mem_of_mem_drop hy)).1
    · repeat first | exact Wk.nil | exact Wk.refl _ | refine wk_agg ?_ ?_ | refine wk_ownsl ?_ | refine wk_nilsl ?_ | refine Wk.same ?_
    rintro r rfl
    simp only [List.take_of_length_le hMl]
    repeat' first | with_reducible refine asq_dmk (fun _ => ?_) (fun _ => ?_) | with_reducible refine asq_ndmk (fun _ => ?_) (fun _ => ?_) | with_reducible refine asq_nmk (fun _ => ?_) (fun _ => ?_) | with_reducible refine asq_mk (fun _ => ?_) (fun _ => ?_) | with_reducible refine asp_dmk (fun _ => ?_) (fun _ => ?_) | with_reducible refine asp_ndmk (fun _ => ?_) (fun _ => ?_) | with_reducible refine asp_nmk (fun _ => ?_) (fun _ => ?_) | with_reducible refine asp_mk (fun _ => ?_) (fun _ => ?_) | with_reducible refine And.intro (by first | omega | rfl | decide | with_unfolding_all rfl) ?_ | simp only [go_sem, Nat.reduceLT, Nat.reduceAdd, Nat.reduceSub, Nat.reduceMul, Nat.reduceLeDiff, ne_eq, Nat.reduceEqDiff, not_false_eq_true, Bool.and_true, Bool.true_and, Nat.succ_ne_self, and_true, Bool.not_true, Bool.not_false, Int.toNat_zero, Int.reduceToNat, Nat.mul_one, Int.toNat_one, decide_true, decide_false, Int.reduceEq, Int.cast_ofNat_Int, Bool.false_eq_true, Bool.not_true, Bool.not_false]
    refine ((name14 topic htopic).wk ?_).mono ?_
    · try simp only [stA, nums, List.map_cons, List.map_nil, num, str, tru]
      repeat first | exact Wk.nil | exact Wk.refl _ | refine wk_agg ?_ ?_ | refine wk_ownsl ?_ | refine wk_nilsl ?_ | refine Wk.same ?_
    rintro r rfl
    obtain ⟨v, hv⟩ : ∃ v, nmsL.getD (pickN topic 7) [] = v := ⟨_, rfl⟩
    simp only [hv]
    try simp only [tru, num, str]
    repeat' first | with_reducible refine asq_dmk (fun _ => ?_) (fun _ => ?_) | with_reducible refine asq_ndmk (fun _ => ?_) (fun _ => ?_) | with_reducible refine asq_nmk (fun _ => ?_) (fun _ => ?_) | with_reducible refine asq_mk (fun _ => ?_) (fun _ => ?_) | with_reducible refine asp_dmk (fun _ => ?_) (fun _ => ?_) | with_reducible refine asp_ndmk (fun _ => ?_) (fun _ => ?_) | with_reducible refine asp_nmk (fun _ => ?_) (fun _ => ?_) | with_reducible refine asp_mk (fun _ => ?_) (fun _ => ?_) | with_reducible refine And.intro (by first | omega | rfl | decide | with_unfolding_all rfl) ?_ | simp only [go_sem, Nat.reduceLT, Nat.reduceAdd, Nat.reduceSub, Nat.reduceMul, Nat.reduceLeDiff, ne_eq, Nat.reduceEqDiff, not_false_eq_true, Bool.and_true, Bool.true_and, Nat.succ_ne_self, and_true, Bool.not_true, Bool.not_false, Int.toNat_zero, Int.reduceToNat, Nat.mul_one, Int.toNat_one, decide_true, decide_false, Int.reduceEq, Int.cast_ofNat_Int, Bool.false_eq_true, Bool.not_true, Bool.not_false]
    have hso : ∀ (J : List It), ∀ s ∈ J.map mkS, StOk s := fun J s hs => by obtain ⟨y, _, rfl⟩ := List.mem_map.1 hs; exact (It_st y).1
    have hpu : ∀ s ∈ I.map mkS, s.pu < (mkS x').pu := fun s hs => by
      obtain ⟨y, hy, rfl⟩ := List.mem_map.1 hs
      have := (hio y hy).2
      subst hx'
      show y.pu < m + 1
      omega
    have htop := newL_top (A := (I.take k).map mkS) (B := (I.drop k).map mkS) (x := mkS x') v (fun s hs => hpu s (by rw [List.map_take] at hs; exact List.mem_of_mem_take hs) ) (fun s hs => hpu s (by rw [List.map_drop] at hs; exact List.mem_of_mem_drop hs)) (by subst hx'; simp [lstd, mkS, pickN])
    rw [← List.map_append, List.take_append_drop] at htop
    have hmm : (I.take k ++ [x'] ++ I.drop k).map mkS = (I.take k).map mkS ++ [mkS x'] ++ (I.drop k).map mkS := by simp
    rw [← hmm] at htop
    obtain ⟨A, hA⟩ : ∃ A, I.map mkS = A := ⟨_, rfl⟩
    obtain ⟨B, hB⟩ : ∃ B, (I.take k ++ [x'] ++ I.drop k).map mkS = B := ⟨_, rfl⟩
    have hAo := hso I
    have hBo := hso (I.take k ++ [x'] ++ I.drop k)
    have hAl : A.length ≤ 25 := by rw [← hA, List.length_map]; omega
    have hBl : B.length ≤ 25 := by rw [← hB, List.length_map]; exact hMl
    rw [hA] at htop hAo ⊢
    rw [hB] at htop hBo ⊢
    have hext : (newL v B).reverse.map (·.id) = (newL v A).reverse.map (·.id) ∨ ∃ y, (newL v B).reverse.map (·.id) = (newL v A).reverse.map (·.id) ++ [y] := by
      rw [htop]
      split
      · exact .inr ⟨(mkS x').id, by simp⟩
      · exact .inl rfl
    have hpA : ∀ p : Int, I64 p → ∃ t : Nat, ACalls Try.prog 20 [stA A [], str v, num p] (fun r => r = .tup [.own 3 1 (nums (pgL ((newL v A).reverse.map (·.id)) p)), num t]) := fun p hp => ⟨_, page20 A [] v p hp (by omega) hAo⟩
    have hpB : ∀ p : Int, I64 p → ∃ t : Nat, ACalls Try.prog 20 [stA B [], str v, num p] (fun r => r = .tup [.own 3 1 (nums (pgL ((newL v B).reverse.map (·.id)) p)), num t]) := fun p hp => ⟨_, page20 B [] v p hp (by omega) hBo⟩
    obtain ⟨RA, hRA⟩ : ∃ RA, (newL v A).reverse.map (·.id) = RA := ⟨_, rfl⟩
    obtain ⟨RB, hRB⟩ : ∃ RB, (newL v B).reverse.map (·.id) = RB := ⟨_, rfl⟩
    simp only [hRA] at hext hpA
    simp only [hRB] at hext hpB
    refine cwp_loop [false, false, false, false, false, false, false, false, false, false, false, false, false, false, false, false, true, true, false, true, true, true, true, true, true, false, false, false, false, false, false, false, false, false, false, false, false, false, false, false, false, false, false, false, false, false, false, false, false, false, false, false, false, false, false, false, false, false, false, false, false, false, false, false, false, false, false, false, false, false, false, false, false, false, false, false, false, false, false, false, false, true, true, true, true, true, true, true, true, true, true, true, true, true, true, true, true, true, true, true, true, true, true, true, true, true, true, true, true, true, true, true, true, true, true, true, true, true, true, true, true, true, true, true, false] [16, 17, 19] (fun g xs => ∃ p : Nat, p ≤ 6 ∧ p + g = 6 ∧ xs = [.box 27 [.sl 8 (A.map sto), .nil], .box 27 [.sl 8 (B.map sto), .nil], num ((p + 1 : Nat) : Int)]) ⟨6, _, ⟨0, by omega, by omega, rfl⟩, ?_⟩ ?_
    · simp only [Nat.zero_add, Int.cast_ofNat_Int]
      simp only [hvm_t, hvm_f, hvm_nil, puts_cons, puts_nil, List.set_cons_zero, List.set_cons_succ, num]
      repeat first | exact Wk.nil | exact Wk.refl _ | refine Wk.box (W1.box ?_) ?_ | refine wk_agg ?_ ?_ | refine wk_ownsl ?_ | refine wk_nilown ?_ | refine wk_nilmine ?_ | refine wk_nilsl ?_ | refine Wk.same ?_ | refine wk_any ?_
    · rintro g xs ⟨p, hp, hg, rfl⟩
      simp only [hvm_t, hvm_f, hvm_nil, puts_cons, puts_nil, List.set_cons_zero, List.set_cons_succ, num]
      rcases Nat.lt_or_ge p 6 with hlt | hge
      · have ep := eq_true (show ((p + 1 : Nat) : Int) ≤ 6 by omega)
        have hwp : IntKind.i64.wrap (((p + 1 : Nat) : Int) + 1) = ((p + 1 + 1 : Nat) : Int) := wrap_succ (by omega)
        obtain ⟨t1, ht1⟩ := hpA ((p + 1 : Nat) : Int) ⟨by omega, by omega⟩
        obtain ⟨t2, ht2⟩ := hpB ((p + 1 : Nat) : Int) ⟨by omega, by omega⟩
        obtain ⟨h1, h2, h3⟩ := pg_ext hext ((p + 1 : Nat) : Int)
        have h4 := pgL_len RA ((p + 1 : Nat) : Int)
        obtain ⟨W, hW⟩ : ∃ W, pgL RA ((p + 1 : Nat) : Int) = W := ⟨_, rfl⟩
        obtain ⟨Z, hZ⟩ : ∃ Z, pgL RB ((p + 1 : Nat) : Int) = Z := ⟨_, rfl⟩
        rw [hW, hZ] at h1 h2 h3
        rw [hW] at ht1 h4
        rw [hZ] at ht2
        repeat' first | with_reducible refine asq_dmk (fun _ => ?_) (fun _ => ?_) | with_reducible refine asq_ndmk (fun _ => ?_) (fun _ => ?_) | with_reducible refine asq_nmk (fun _ => ?_) (fun _ => ?_) | with_reducible refine asq_mk (fun _ => ?_) (fun _ => ?_) | with_reducible refine asp_dmk (fun _ => ?_) (fun _ => ?_) | with_reducible refine asp_ndmk (fun _ => ?_) (fun _ => ?_) | with_reducible refine asp_nmk (fun _ => ?_) (fun _ => ?_) | with_reducible refine asp_mk (fun _ => ?_) (fun _ => ?_) | with_reducible refine And.intro (by first | omega | rfl | decide | with_unfolding_all rfl) ?_ | simp only [go_sem, Nat.reduceLT, Nat.reduceAdd, Nat.reduceSub, Nat.reduceMul, Nat.reduceLeDiff, ne_eq, Nat.reduceEqDiff, not_false_eq_true, Bool.and_true, Bool.true_and, Nat.succ_ne_self, and_true, Bool.not_true, Bool.not_false, Int.toNat_zero, Int.reduceToNat, Nat.mul_one, Int.toNat_one, decide_true, decide_false, Int.reduceEq, Int.cast_ofNat_Int, Bool.false_eq_true, Bool.not_true, Bool.not_false, ep]
        refine ((ht1).wk ?_).mono ?_
        · try simp only [stA, nums, List.map_cons, List.map_nil, num, str, tru]
          repeat first | exact Wk.nil | exact Wk.refl _ | refine wk_agg ?_ ?_ | refine wk_ownsl ?_ | refine wk_nilsl ?_ | refine Wk.same ?_
        rintro r rfl
        try simp only [tru, num, str]
        repeat' first | with_reducible refine asq_dmk (fun _ => ?_) (fun _ => ?_) | with_reducible refine asq_ndmk (fun _ => ?_) (fun _ => ?_) | with_reducible refine asq_nmk (fun _ => ?_) (fun _ => ?_) | with_reducible refine asq_mk (fun _ => ?_) (fun _ => ?_) | with_reducible refine asp_dmk (fun _ => ?_) (fun _ => ?_) | with_reducible refine asp_ndmk (fun _ => ?_) (fun _ => ?_) | with_reducible refine asp_nmk (fun _ => ?_) (fun _ => ?_) | with_reducible refine asp_mk (fun _ => ?_) (fun _ => ?_) | with_reducible refine And.intro (by first | omega | rfl | decide | with_unfolding_all rfl) ?_ | simp only [go_sem, Nat.reduceLT, Nat.reduceAdd, Nat.reduceSub, Nat.reduceMul, Nat.reduceLeDiff, ne_eq, Nat.reduceEqDiff, not_false_eq_true, Bool.and_true, Bool.true_and, Nat.succ_ne_self, and_true, Bool.not_true, Bool.not_false, Int.toNat_zero, Int.reduceToNat, Nat.mul_one, Int.toNat_one, decide_true, decide_false, Int.reduceEq, Int.cast_ofNat_Int, Bool.false_eq_true, Bool.not_true, Bool.not_false, ep]
        refine ((ht2).wk ?_).mono ?_
        · try simp only [stA, nums, List.map_cons, List.map_nil, num, str, tru]
          repeat first | exact Wk.nil | exact Wk.refl _ | refine wk_agg ?_ ?_ | refine wk_ownsl ?_ | refine wk_nilsl ?_ | refine Wk.same ?_
        rintro r rfl
        try simp only [tru, num, str]
        skip
        have egt := eq_false (show ¬ (Z.length : Int) < (W.length : Int) by omega)
        have hle := eq_true (show (W.length : Int) ≤ (Z.length : Int) by omega)
        have htz : List.take W.length (nums Z) = nums W := by rw [nums, nums, ← List.map_take, h1]
        by_cases h5 : W.length = 5
        · have e5 := eq_true (show (W.length : Int) = 5 by omega)
          have ezw := eq_true (show (Z.length : Int) = (W.length : Int) by have := h3 h5; omega)
          repeat' first | with_reducible refine asq_dmk (fun _ => ?_) (fun _ => ?_) | with_reducible refine asq_ndmk (fun _ => ?_) (fun _ => ?_) | with_reducible refine asq_nmk (fun _ => ?_) (fun _ => ?_) | with_reducible refine asq_mk (fun _ => ?_) (fun _ => ?_) | with_reducible refine asp_dmk (fun _ => ?_) (fun _ => ?_) | with_reducible refine asp_ndmk (fun _ => ?_) (fun _ => ?_) | with_reducible refine asp_nmk (fun _ => ?_) (fun _ => ?_) | with_reducible refine asp_mk (fun _ => ?_) (fun _ => ?_) | with_reducible refine And.intro (by first | omega | rfl | decide | with_unfolding_all rfl) ?_ | simp only [go_sem, Nat.reduceLT, Nat.reduceAdd, Nat.reduceSub, Nat.reduceMul, Nat.reduceLeDiff, ne_eq, Nat.reduceEqDiff, not_false_eq_true, Bool.and_true, Bool.true_and, Nat.succ_ne_self, and_true, Bool.not_true, Bool.not_false, Int.toNat_zero, Int.reduceToNat, Nat.mul_one, Int.toNat_one, decide_true, decide_false, Int.reduceEq, Int.cast_ofNat_Int, Bool.false_eq_true, Bool.not_true, Bool.not_false, ep, egt, e5, htz, ezw, nums_length, Int.toNat_natCast, Int.sub_zero]
          refine ((same15 W W (by omega) (by omega)).wk ?_).mono ?_
          · try simp only [stA, nums, List.map_cons, List.map_nil, num, str, tru]
            repeat first | exact Wk.nil | exact Wk.refl _ | refine wk_agg ?_ ?_ | refine wk_ownsl ?_ | refine wk_nilsl ?_ | refine Wk.same ?_
          rintro r rfl
          try simp only [decide_true]
          try simp only [tru]
          repeat' first | with_reducible refine asq_dmk (fun _ => ?_) (fun _ => ?_) | with_reducible refine asq_ndmk (fun _ => ?_) (fun _ => ?_) | with_reducible refine asq_nmk (fun _ => ?_) (fun _ => ?_) | with_reducible refine asq_mk (fun _ => ?_) (fun _ => ?_) | with_reducible refine asp_dmk (fun _ => ?_) (fun _ => ?_) | with_reducible refine asp_ndmk (fun _ => ?_) (fun _ => ?_) | with_reducible refine asp_nmk (fun _ => ?_) (fun _ => ?_) | with_reducible refine asp_mk (fun _ => ?_) (fun _ => ?_) | with_reducible refine And.intro (by first | omega | rfl | decide | with_unfolding_all rfl) ?_ | simp only [go_sem, Nat.reduceLT, Nat.reduceAdd, Nat.reduceSub, Nat.reduceMul, Nat.reduceLeDiff, ne_eq, Nat.reduceEqDiff, not_false_eq_true, Bool.and_true, Bool.true_and, Nat.succ_ne_self, and_true, Bool.not_true, Bool.not_false, Int.toNat_zero, Int.reduceToNat, Nat.mul_one, Int.toNat_one, decide_true, decide_false, Int.reduceEq, Int.cast_ofNat_Int, Bool.false_eq_true, Bool.not_true, Bool.not_false, ep, hwp]
          refine lend_mk (g - 1) [.box 27 [.sl 8 (A.map sto), .nil], .box 27 [.sl 8 (B.map sto), .nil], num ((p + 1 + 1 : Nat) : Int)] (by omega) ⟨p + 1, by omega, by omega, rfl⟩ ?_
          simp only [hvm_t, hvm_f, hvm_nil, puts_cons, puts_nil, List.set_cons_zero, List.set_cons_succ, num]
          repeat first | exact Wk.nil | exact Wk.refl _ | refine Wk.box (W1.box ?_) ?_ | refine wk_agg ?_ ?_ | refine wk_ownsl ?_ | refine wk_nilown ?_ | refine wk_nilmine ?_ | refine wk_nilsl ?_ | refine Wk.same ?_ | refine wk_any ?_
        · have e5 := eq_false (show ¬ (W.length : Int) = 5 by omega)
          have ezw : True := trivial
          repeat' first | with_reducible refine asq_dmk (fun _ => ?_) (fun _ => ?_) | with_reducible refine asq_ndmk (fun _ => ?_) (fun _ => ?_) | with_reducible refine asq_nmk (fun _ => ?_) (fun _ => ?_) | with_reducible refine asq_mk (fun _ => ?_) (fun _ => ?_) | with_reducible refine asp_dmk (fun _ => ?_) (fun _ => ?_) | with_reducible refine asp_ndmk (fun _ => ?_) (fun _ => ?_) | with_reducible refine asp_nmk (fun _ => ?_) (fun _ => ?_) | with_reducible refine asp_mk (fun _ => ?_) (fun _ => ?_) | with_reducible refine And.intro (by first | omega | rfl | decide | with_unfolding_all rfl) ?_ | simp only [go_sem, Nat.reduceLT, Nat.reduceAdd, Nat.reduceSub, Nat.reduceMul, Nat.reduceLeDiff, ne_eq, Nat.reduceEqDiff, not_false_eq_true, Bool.and_true, Bool.true_and, Nat.succ_ne_self, and_true, Bool.not_true, Bool.not_false, Int.toNat_zero, Int.reduceToNat, Nat.mul_one, Int.toNat_one, decide_true, decide_false, Int.reduceEq, Int.cast_ofNat_Int, Bool.false_eq_true, Bool.not_true, Bool.not_false, ep, egt, e5, htz, nums_length, Int.toNat_natCast, Int.sub_zero]
          refine ((same15 W W (by omega) (by omega)).wk ?_).mono ?_
          · try simp only [stA, nums, List.map_cons, List.map_nil, num, str, tru]
            repeat first | exact Wk.nil | exact Wk.refl _ | refine wk_agg ?_ ?_ | refine wk_ownsl ?_ | refine wk_nilsl ?_ | refine Wk.same ?_
          rintro r rfl
          try simp only [decide_true]
          try simp only [tru]
          repeat' first | with_reducible refine asq_dmk (fun _ => ?_) (fun _ => ?_) | with_reducible refine asq_ndmk (fun _ => ?_) (fun _ => ?_) | with_reducible refine asq_nmk (fun _ => ?_) (fun _ => ?_) | with_reducible refine asq_mk (fun _ => ?_) (fun _ => ?_) | with_reducible refine asp_dmk (fun _ => ?_) (fun _ => ?_) | with_reducible refine asp_ndmk (fun _ => ?_) (fun _ => ?_) | with_reducible refine asp_nmk (fun _ => ?_) (fun _ => ?_) | with_reducible refine asp_mk (fun _ => ?_) (fun _ => ?_) | with_reducible refine And.intro (by first | omega | rfl | decide | with_unfolding_all rfl) ?_ | simp only [go_sem, Nat.reduceLT, Nat.reduceAdd, Nat.reduceSub, Nat.reduceMul, Nat.reduceLeDiff, ne_eq, Nat.reduceEqDiff, not_false_eq_true, Bool.and_true, Bool.true_and, Nat.succ_ne_self, and_true, Bool.not_true, Bool.not_false, Int.toNat_zero, Int.reduceToNat, Nat.mul_one, Int.toNat_one, decide_true, decide_false, Int.reduceEq, Int.cast_ofNat_Int, Bool.false_eq_true, Bool.not_true, Bool.not_false, ep, hwp]
          refine lend_mk (g - 1) [.box 27 [.sl 8 (A.map sto), .nil], .box 27 [.sl 8 (B.map sto), .nil], num ((p + 1 + 1 : Nat) : Int)] (by omega) ⟨p + 1, by omega, by omega, rfl⟩ ?_
          simp only [hvm_t, hvm_f, hvm_nil, puts_cons, puts_nil, List.set_cons_zero, List.set_cons_succ, num]
          repeat first | exact Wk.nil | exact Wk.refl _ | refine Wk.box (W1.box ?_) ?_ | refine wk_agg ?_ ?_ | refine wk_ownsl ?_ | refine wk_nilown ?_ | refine wk_nilmine ?_ | refine wk_nilsl ?_ | refine Wk.same ?_ | refine wk_any ?_
      · have ep := eq_false (show ¬ ((p + 1 : Nat) : Int) ≤ 6 by omega)
        repeat' first | with_reducible refine asq_dmk (fun _ => ?_) (fun _ => ?_) | with_reducible refine asq_ndmk (fun _ => ?_) (fun _ => ?_) | with_reducible refine asq_nmk (fun _ => ?_) (fun _ => ?_) | with_reducible refine asq_mk (fun _ => ?_) (fun _ => ?_) | with_reducible refine asp_dmk (fun _ => ?_) (fun _ => ?_) | with_reducible refine asp_ndmk (fun _ => ?_) (fun _ => ?_) | with_reducible refine asp_nmk (fun _ => ?_) (fun _ => ?_) | with_reducible refine asp_mk (fun _ => ?_) (fun _ => ?_) | with_reducible refine And.intro (by first | omega | rfl | decide | with_unfolding_all rfl) ?_ | simp only [go_sem, Nat.reduceLT, Nat.reduceAdd, Nat.reduceSub, Nat.reduceMul, Nat.reduceLeDiff, ne_eq, Nat.reduceEqDiff, not_false_eq_true, Bool.and_true, Bool.true_and, Nat.succ_ne_self, and_true, Bool.not_true, Bool.not_false, Int.toNat_zero, Int.reduceToNat, Nat.mul_one, Int.toNat_one, decide_true, decide_false, Int.reduceEq, Int.cast_ofNat_Int, Bool.false_eq_true, Bool.not_true, Bool.not_false, ep]
end Go.Proofs.Ytgnclmmijijimaa
